/- How deep a node is in the shadow is one number in the program and in the reference, for every sky of at most 2^20 parts, every node and tick. -/
import Derived.Test.YtflngcegkhgocaaQFnExactShadowAtx
import Derived.Test.YtflngcegkhgocaaKKit
namespace Go.Proofs.Ytflngcegkhgocaa.Pure
open Go.RowKit Go.Proofs.Ytflngcegkhgocaa.PFnExactShadowAt Go.Proofs.YtflngcegkhgocaaW.PrintWords Go.Proofs.YtflngcegkhgocaaW.PrintLast Go.Proofs.YtflngcegkhgocaaW.PrintMore Go.Proofs.Ytflngcegkhgocaa
set_option linter.unusedSimpArgs false
set_option linter.unusedVariables false
namespace LFnExactShadowAt

def cvSat (x : S93) : S70 := ⟨x.f0, x.f1, x.f2, x.f3⟩
theorem toSatS (l : List S93) (hl : l.length ≤ 1048576) : Ev (fun k => laws_toSatS.f k l) (l.map cvSat) := by
  unfold laws_toSatS.f
  refine K.pos (by omega) (K.pos (by omega) ?_)
  refine K.fill (fun k xs i => laws_toSatS.l0 k l xs i) (l.map cvSat) (by simpa using hl) ?_ ?_ l.length _ 0 (by omega) (by simp) (by simp) (by intro j hj; omega)
  · intro k xs i hi
    simp only [List.length_map] at hi
    simp only [laws_toSatS.l0]
    rw [if_neg hi]
  · intro k xs i y h0 hi hx hy
    simp only [List.length_map] at hi hx
    simp only [laws_toSatS.l0, laws_toSat.f, Option.bind_some]
    rw [if_pos hi, if_pos h0, if_pos (by omega), K.wr (x := i + 1) (by omega) (by omega)]
    have hg : l[i.toNat]? = some (l[i.toNat]'(by omega)) := List.getElem?_eq_getElem (by omega)
    rw [List.getElem?_map, hg, Option.map_some] at hy
    obtain rfl := Option.some.inj hy
    have hr : rd_T93 l i = l[i.toNat]'(by omega) := by
      simp only [rd_T93, List.getD_eq_getElem?_getD, hg, Option.getD_some]
    rw [hr]
    rfl
theorem szSatS (l : List S93) (left : Int) (h0 : 0 ≤ left) (h1 : left ≤ 1048576) (hm : l.length ≤ 9223372036854775807) : laws_szSatS.f l left = some (if (l.length : Int) ≤ left then left - l.length else -1) := by
  unfold laws_szSatS.f
  rw [K.wr (by omega) (by omega)]
  split <;> split <;> first | rfl | omega


def cvSite (x : S95) : S72 := ⟨x.f0, x.f1, x.f2⟩
theorem toSiteS (l : List S95) (hl : l.length ≤ 1048576) : Ev (fun k => laws_toSiteS.f k l) (l.map cvSite) := by
  unfold laws_toSiteS.f
  refine K.pos (by omega) (K.pos (by omega) ?_)
  refine K.fill (fun k xs i => laws_toSiteS.l0 k l xs i) (l.map cvSite) (by simpa using hl) ?_ ?_ l.length _ 0 (by omega) (by simp) (by simp) (by intro j hj; omega)
  · intro k xs i hi
    simp only [List.length_map] at hi
    simp only [laws_toSiteS.l0]
    rw [if_neg hi]
  · intro k xs i y h0 hi hx hy
    simp only [List.length_map] at hi hx
    simp only [laws_toSiteS.l0, laws_toSite.f, Option.bind_some]
    rw [if_pos hi, if_pos h0, if_pos (by omega), K.wr (x := i + 1) (by omega) (by omega)]
    have hg : l[i.toNat]? = some (l[i.toNat]'(by omega)) := List.getElem?_eq_getElem (by omega)
    rw [List.getElem?_map, hg, Option.map_some] at hy
    obtain rfl := Option.some.inj hy
    have hr : rd_T95 l i = l[i.toNat]'(by omega) := by
      simp only [rd_T95, List.getD_eq_getElem?_getD, hg, Option.getD_some]
    rw [hr]
    rfl
theorem szSiteS (l : List S95) (left : Int) (h0 : 0 ≤ left) (h1 : left ≤ 1048576) (hm : l.length ≤ 9223372036854775807) : laws_szSiteS.f l left = some (if (l.length : Int) ≤ left then left - l.length else -1) := by
  unfold laws_szSiteS.f
  rw [K.wr (by omega) (by omega)]
  split <;> split <;> first | rfl | omega


theorem eqSatS (l : List S70) (hl : l.length ≤ 67108864) : Ev (fun k => laws_eqSatS.f k l l) true := by
  unfold laws_eqSatS.f
  refine K.pos rfl ?_
  refine K.all (n := l.length) (fun k i => laws_eqSatS.l0 k l l i) ?_ ?_ l.length 0 (by omega) (by omega)
  · intro k i hi
    simp only [laws_eqSatS.l0]
    rw [if_neg hi]
  · intro k i h0 hi
    simp only [laws_eqSatS.l0, laws_eqSat.f, ↓reduceIte, Option.bind_some]
    rw [if_pos hi, if_pos h0, if_pos hi, K.wr (x := i + 1) (by omega) (by omega)]


theorem eqSiteS (l : List S72) (hl : l.length ≤ 67108864) : Ev (fun k => laws_eqSiteS.f k l l) true := by
  unfold laws_eqSiteS.f
  refine K.pos rfl ?_
  refine K.all (n := l.length) (fun k i => laws_eqSiteS.l0 k l l i) ?_ ?_ l.length 0 (by omega) (by omega)
  · intro k i hi
    simp only [laws_eqSiteS.l0]
    rw [if_neg hi]
  · intro k i h0 hi
    simp only [laws_eqSiteS.l0, laws_eqSite.f, ↓reduceIte, Option.bind_some]
    rw [if_pos hi, if_pos h0, if_pos hi, K.wr (x := i + 1) (by omega) (by omega)]

def cvZone (x : S99) : S83 := ⟨x.f0, ⟨x.f1.f0, x.f1.f1⟩⟩
theorem toZoneS (l : List S99) (hl : l.length ≤ 1048576) : Ev (fun k => laws_toZoneS.f k l) (l.map cvZone) := by
  unfold laws_toZoneS.f
  refine K.pos (by omega) (K.pos (by omega) ?_)
  refine K.fill (fun k xs i => laws_toZoneS.l0 k l xs i) (l.map cvZone) (by simpa using hl) ?_ ?_ l.length _ 0 (by omega) (by simp) (by simp) (by intro j hj; omega)
  · intro k xs i hi
    simp only [List.length_map] at hi
    simp only [laws_toZoneS.l0]
    rw [if_neg hi]
  · intro k xs i y h0 hi hx hy
    simp only [List.length_map] at hi hx
    simp only [laws_toZoneS.l0, laws_toZone.f, laws_toArc.f, Option.bind_some]
    rw [if_pos hi, if_pos h0, if_pos (by omega), K.wr (x := i + 1) (by omega) (by omega)]
    have hg : l[i.toNat]? = some (l[i.toNat]'(by omega)) := List.getElem?_eq_getElem (by omega)
    rw [List.getElem?_map, hg, Option.map_some] at hy
    obtain rfl := Option.some.inj hy
    have hr : rd_T99 l i = l[i.toNat]'(by omega) := by
      simp only [rd_T99, List.getD_eq_getElem?_getD, hg, Option.getD_some]
    rw [hr]
    rfl
theorem szZoneS (l : List S99) (left : Int) (h0 : 0 ≤ left) (h1 : left ≤ 1048576) (hm : l.length ≤ 9223372036854775807) : laws_szZoneS.f l left = some (if (l.length : Int) ≤ left then left - l.length else -1) := by
  unfold laws_szZoneS.f
  rw [K.wr (by omega) (by omega)]
  split <;> split <;> first | rfl | omega
theorem eqZoneS (l : List S83) (hl : l.length ≤ 67108864) : Ev (fun k => laws_eqZoneS.f k l l) true := by
  unfold laws_eqZoneS.f
  refine K.pos rfl ?_
  refine K.all (n := l.length) (fun k i => laws_eqZoneS.l0 k l l i) ?_ ?_ l.length 0 (by omega) (by omega)
  · intro k i hi
    simp only [laws_eqZoneS.l0]
    rw [if_neg hi]
  · intro k i h0 hi
    simp only [laws_eqZoneS.l0, laws_eqZone.f, laws_eqArc.f, ↓reduceIte, Option.bind_some]
    rw [if_pos hi, if_pos h0, if_pos hi, K.wr (x := i + 1) (by omega) (by omega)]
theorem szSky (pl : Int) (sa : List S93) (si : List S95) (rc cr vw su sh : Int) (zo : List S99) (ac : Int) (h1 : sa.length ≤ 9223372036854775807) (h2 : si.length ≤ 9223372036854775807) (h3 : zo.length ≤ 9223372036854775807) :
    laws_szSky.f pl sa si rc cr vw su sh zo ac 1048576 = some (if (sa.length : Int) + si.length + zo.length ≤ 1048576 then (1048576 : Int) - sa.length - si.length - zo.length else (-1 : Int)) := by
  unfold laws_szSky.f
  rw [szSatS sa 1048576 (by omega) (by omega) h1]
  simp only [Option.bind_some]
  by_cases c1 : (sa.length : Int) ≤ 1048576
  · rw [if_pos c1, if_neg (by omega), szSiteS si _ (by omega) (by omega) h2]
    simp only [Option.bind_some]
    by_cases c2 : (si.length : Int) ≤ 1048576 - sa.length
    · rw [if_pos c2, if_neg (by omega), szZoneS zo _ (by omega) (by omega) h3]
      simp only [Option.bind_some]
      by_cases c3 : (zo.length : Int) ≤ 1048576 - sa.length - si.length
      · rw [if_pos c3, if_neg (by omega), if_pos (by omega)]
      · rw [if_neg c3, if_pos (by omega), if_neg (by omega)]
    · rw [if_neg c2, if_pos (by omega), if_neg (by omega)]
  · rw [if_neg c1, if_pos (by omega), if_neg (by omega)]
theorem toSky (pl : Int) (sa : List S93) (si : List S95) (rc cr vw su sh : Int) (zo : List S99) (ac : Int) (h1 : sa.length ≤ 1048576) (h2 : si.length ≤ 1048576) (h3 : zo.length ≤ 1048576) :
    Ev (fun k => laws_toSky.f k pl sa si rc cr vw su sh zo ac) (pl, sa.map cvSat, si.map cvSite, rc, cr, vw, su, sh, zo.map cvZone, ac) := by
  unfold laws_toSky.f
  exact Ev.bind (toSatS sa h1) (Ev.bind (toSiteS si h2) (Ev.bind (toZoneS zo h3) (Ev.now _)))
theorem eqSky (pl : Int) (sa : List S70) (si : List S72) (rc cr vw su sh : Int) (zo : List S83) (ac : Int) (h1 : sa.length ≤ 1048576) (h2 : si.length ≤ 1048576) (h3 : zo.length ≤ 1048576) : Ev (fun k => laws_eqSky.f k pl sa si rc cr vw su sh zo ac pl sa si rc cr vw su sh zo ac) true := by
  unfold laws_eqSky.f
  exact K.pos rfl (Ev.bind (eqSatS sa (by omega)) (K.pos rfl (Ev.bind (eqSiteS si (by omega)) (K.pos rfl (K.pos rfl (K.pos rfl (K.pos rfl (K.pos rfl (K.pos rfl (Ev.bind (eqZoneS zo (by omega)) (K.pos rfl (K.pos rfl (Ev.now _)))))))))))))
theorem l1In (a b c : Int) : spec_l1In.f a b c = some (decide (b ≤ a ∧ a ≤ c)) := by
  unfold spec_l1In.f
  split <;> (try split) <;> first | rfl | (congr 1; exact decide_eq_decide.2 (by omega)) | (congr 1; exact (decide_eq_false (by omega)).symm)
theorem InRange (a b c : Int) : impl_InRange.f a b c = some (decide (b ≤ a ∧ a ≤ c)) := by
  unfold impl_InRange.f
  split <;> (try split) <;> first | rfl | (congr 1; exact decide_eq_decide.2 (by omega)) | (congr 1; exact (decide_eq_false (by omega)).symm)
theorem sIsSite (pl : Int) (sa : List S70) (si : List S72) (rc cr vw su sh : Int) (zo : List S83) (ac : Int) (hn : (sa.length : Int) + si.length ≤ 4194304) (i : Int) : spec_IsSite.f pl sa si rc cr vw su sh zo ac i = some (decide ((sa.length : Int) ≤ i ∧ i < (sa.length : Int) + si.length)) := by
  unfold spec_IsSite.f spec_NodesOf.f
  simp only [Option.bind_some, l1In]
  rw [K.wr (x := (sa.length : Int) + si.length) (by omega) (by omega), K.wr (by omega) (by omega)]
  congr 1
  exact decide_eq_decide.2 (by omega)
theorem iIsSite (pl : Int) (sa : List S70) (si : List S72) (rc cr vw su sh : Int) (zo : List S83) (ac : Int) (hn : (sa.length : Int) + si.length ≤ 4194304) (i : Int) : impl_IsSite.f pl sa si rc cr vw su sh zo ac i = some (decide ((sa.length : Int) ≤ i ∧ i < (sa.length : Int) + si.length)) := by
  unfold impl_IsSite.f impl_NodesOf.f
  simp only [Option.bind_some, InRange]
  rw [K.wr (x := (sa.length : Int) + si.length) (by omega) (by omega), K.wr (by omega) (by omega)]
  congr 1
  exact decide_eq_decide.2 (by omega)
theorem iIsSat (pl : Int) (sa : List S70) (si : List S72) (rc cr vw su sh : Int) (zo : List S83) (ac : Int) (hn : (sa.length : Int) + si.length ≤ 4194304) (i : Int) : impl_isSatellite.f pl sa si rc cr vw su sh zo ac i = some (decide (0 ≤ i ∧ i < (sa.length : Int))) := by
  unfold impl_isSatellite.f
  simp only [Option.bind_some, InRange]
  rw [K.wr (by omega) (by omega)]
  congr 1
  exact decide_eq_decide.2 (by omega)
theorem sIsSat (sa : List S70) (hn : (sa.length : Int) ≤ 4194304) (i : Int) : spec_l1In.f i 0 (wrap64 ((sa.length : Int) - 1)) = some (decide (0 ≤ i ∧ i < (sa.length : Int))) := by
  rw [l1In, K.wr (by omega) (by omega)]
  congr 1
  exact decide_eq_decide.2 (by omega)
theorem sAngle (n : Int) : spec_AngleOf.f n = some (n % 360) := by
  unfold spec_AngleOf.f spec_Mod.f
  have e : decide ((1 : Int) ≤ 360 ∧ (360 : Int) ≤ 1000000000000) = true := by decide
  simp only [l1In, e, Option.bind_some, ↓reduceIte]
  rw [if_neg (by omega)]
  have h := Int.tmod_eq_emod (a := n) (b := 360)
  have hb : -360 < Int.tmod n 360 ∧ Int.tmod n 360 < 360 := by
    rw [h]
    split <;> omega
  rw [K.wr (by omega) (by omega), Int.tmod_eq_emod_of_nonneg (by omega)]
  simp only [Option.bind_some]
  congr 1
  rw [h]
  split <;> omega
theorem iAngle (n : Int) : impl_AngleOf.f n = some (n % 360) := by
  unfold impl_AngleOf.f impl_Mod.f
  have e : decide ((1 : Int) ≤ 360 ∧ (360 : Int) ≤ 1000000000000) = true := by decide
  simp only [InRange, e, Option.bind_some, ↓reduceIte]
  rw [if_neg (by omega)]
  have h := Int.tmod_eq_emod (a := n) (b := 360)
  have hb : -360 < Int.tmod n 360 ∧ Int.tmod n 360 < 360 := by
    rw [h]
    split <;> omega
  have hd : (360 : Int) ∣ n → Int.tmod n 360 = n % 360 := by
    intro hd
    rw [h, if_pos (Or.inr hd)]
    simp
  by_cases c : Int.tmod n 360 < 0
  · rw [if_pos c, K.wr (by omega) (by omega)]
    simp only [Option.bind_some]
    congr 1
    rw [h] at c ⊢
    split at c <;> split <;> omega
  · rw [if_neg c]
    simp only [Option.bind_some]
    congr 1
    rw [h] at c ⊢
    split at c <;> split <;> omega
def placeV (ph sp t : Int) : Int := (ph % 360 + (if -60 ≤ sp ∧ sp ≤ 60 then sp else 0) * (if 0 ≤ t ∧ t ≤ 1000 then t else 0)) % 360
theorem place_bd (s t : Int) (hs : -60 ≤ s ∧ s ≤ 60) (ht : 0 ≤ t ∧ t ≤ 1000) : -60000 ≤ s * t ∧ s * t ≤ 60000 := by
  have h1 : s * t ≤ 60 * t := Int.mul_le_mul_of_nonneg_right hs.2 ht.1
  have h2 : -60 * t ≤ s * t := Int.mul_le_mul_of_nonneg_right hs.1 ht.1
  omega
theorem sPlace (a ph sp e t : Int) : spec_PlaceAt.f a ph sp e t = some (placeV ph sp t) := by
  unfold spec_PlaceAt.f placeV spec_l6Speed.f
  simp only [l1In, sAngle, Option.bind_some, decide_eq_true_eq]
  by_cases ct : 0 ≤ t ∧ t ≤ 1000
  · rw [if_pos ct]
    by_cases cs : -60 ≤ sp ∧ sp ≤ 60
    · have := place_bd sp t cs ct
      rw [if_pos cs]
      simp only [Option.bind_some, if_pos ct, if_pos cs]
      rw [K.wr (x := sp * t) (by omega) (by omega), K.wr (by omega) (by omega)]
    · rw [if_neg cs]
      simp only [Option.bind_some, if_pos ct, if_neg cs]
      rw [K.wr (x := 0 * t) (by omega) (by omega), K.wr (by omega) (by omega)]
  · rw [if_neg ct]
    by_cases cs : -60 ≤ sp ∧ sp ≤ 60
    · rw [if_pos cs]
      simp only [Option.bind_some, if_neg ct]
      rw [K.wr (by omega) (by omega), Int.mul_zero, Int.add_zero]
    · rw [if_neg cs]
      simp only [Option.bind_some, if_neg ct]
      rw [K.wr (by omega) (by omega), Int.mul_zero, Int.add_zero]
theorem iPlace (a ph sp e t : Int) : impl_PlaceAt.f a ph sp e t = some (placeV ph sp t) := by
  unfold impl_PlaceAt.f placeV impl_speedOf.f
  simp only [InRange, iAngle, Option.bind_some, decide_eq_true_eq]
  by_cases ct : 0 ≤ t ∧ t ≤ 1000
  · rw [if_pos ct]
    by_cases cs : -60 ≤ sp ∧ sp ≤ 60
    · have := place_bd sp t cs ct
      rw [if_pos cs]
      simp only [Option.bind_some, if_pos ct, if_pos cs]
      rw [K.wr (x := sp * t) (by omega) (by omega), K.wr (by omega) (by omega)]
    · rw [if_neg cs]
      simp only [Option.bind_some, if_pos ct, if_neg cs]
      rw [K.wr (x := 0 * t) (by omega) (by omega), K.wr (by omega) (by omega)]
  · rw [if_neg ct]
    by_cases cs : -60 ≤ sp ∧ sp ≤ 60
    · rw [if_pos cs]
      simp only [Option.bind_some, if_neg ct]
      rw [K.wr (by omega) (by omega), Int.mul_zero, Int.add_zero]
    · rw [if_neg cs]
      simp only [Option.bind_some, if_neg ct]
      rw [K.wr (by omega) (by omega), Int.mul_zero, Int.add_zero]
theorem place_range (ph sp t : Int) : 0 ≤ placeV ph sp t ∧ placeV ph sp t < 360 := by unfold placeV; omega
theorem sMin (a b : Int) : spec_Min.f a b = some (mn a b) := by
  unfold spec_Min.f mn
  split <;> rfl
theorem iWidth (n : Int) : impl_isWidth.f n = some (decide (0 ≤ n ∧ n ≤ 359)) := by
  unfold impl_isWidth.f
  simp only [InRange, Option.bind_some]
/-- The arc about a place, as wide as an error says: its start and its width. -/
def widS (p e : Int) : Int := if 0 ≤ e ∧ e ≤ 360 then (p % 360 - e) % 360 else p % 360
def widW (e : Int) : Int := if 0 ≤ e ∧ e ≤ 360 then mn (2 * e) 359 else 0
theorem sWiden (p e : Int) : Ev (fun k => spec_WidenArc.f k p 0 e) (widS p e, widW e) := by
  unfold spec_WidenArc.f widS widW
  have e0 : decide ((0 : Int) ≤ 0 ∧ (0 : Int) ≤ 359) = true := by decide
  simp only [l1In, e0, Option.bind_some, decide_eq_true_eq]
  by_cases c : 0 ≤ e ∧ e ≤ 360
  · rw [if_pos c, if_pos c]
    refine K.pos c (K.succ ?_)
    simp only [spec_WidenArc.j0, sAngle, sMin, Option.bind_some]
    refine K.neg (by decide) ?_
    rw [K.wr (x := p % 360 - e) (by omega) (by omega), K.wr (x := 2 * e) (by omega) (by omega), Int.zero_add, K.wr (x := 2 * e) (by omega) (by omega)]
    have hm : mn 359 (2 * e) = mn (2 * e) 359 := by unfold mn; split <;> split <;> omega
    rw [hm]
    exact Ev.now _
  · rw [if_neg c, if_neg c]
    refine K.neg c (K.succ ?_)
    simp only [spec_WidenArc.j0, sAngle, Option.bind_some]
    exact K.pos (by trivial) (Ev.now _)
theorem iWiden (p e : Int) : impl_WidenArc.f p 0 e = some (widS p e, widW e) := by
  unfold impl_WidenArc.f widS widW
  have e0 : decide ((0 : Int) ≤ 0 ∧ (0 : Int) ≤ 359) = true := by decide
  simp only [InRange, iWidth, iAngle, e0, Option.bind_some, decide_eq_true_eq, ↓reduceIte]
  by_cases c : 0 ≤ e ∧ e ≤ 360
  · rw [if_pos c, if_pos c, if_pos c, K.wr (x := p % 360 - e) (by omega) (by omega), K.wr (x := 2 * e) (by omega) (by omega), Int.zero_add, K.wr (x := 2 * e) (by omega) (by omega)]
  · rw [if_neg c, if_neg c, if_neg c]
theorem wid_range (p e : Int) : 0 ≤ widS p e ∧ widS p e < 360 ∧ 0 ≤ widW e ∧ widW e ≤ 359 := by
  unfold widS widW mn
  split <;> (try split) <;> omega
def nodeS (sa : List S70) (si : List S72) (i t : Int) : Int :=
  if 0 ≤ i ∧ i < (sa.length : Int) then widS (placeV (rd_T70 sa i).f1 (rd_T70 sa i).f2 t) (rd_T70 sa i).f3 else if (sa.length : Int) ≤ i ∧ i < (sa.length : Int) + si.length then placeV (rd_T72 si (i - sa.length)).f1 (rd_T72 si (i - sa.length)).f2 t else 0
def nodeW (sa : List S70) (i : Int) : Int :=
  if 0 ≤ i ∧ i < (sa.length : Int) then widW (rd_T70 sa i).f3 else 0
theorem sNode (pl : Int) (sa : List S70) (si : List S72) (rc cr vw su sh : Int) (zo : List S83) (ac : Int) (hn : (sa.length : Int) + si.length ≤ 4194304) (i t : Int) : Ev (fun k => spec_NodeAt.f k pl sa si rc cr vw su sh zo ac i t) (nodeS sa si i t, nodeW sa i) := by
  unfold spec_NodeAt.f nodeS nodeW
  simp only [sIsSat sa (by omega), sIsSite _ _ _ _ _ _ _ _ _ _ hn, Option.bind_some, decide_eq_true_eq]
  by_cases c : 0 ≤ i ∧ i < (sa.length : Int)
  · rw [if_pos c, if_pos c]
    refine K.pos c (K.pos c.1 (K.pos c.2 ?_))
    unfold spec_PlacesAt.f
    simp only [sPlace, Option.bind_some]
    exact Ev.bind (Ev.bind (sWiden _ _) (Ev.now _)) (Ev.now _)
  · rw [if_neg c, if_neg c]
    refine K.neg c ?_
    by_cases c2 : (sa.length : Int) ≤ i ∧ i < (sa.length : Int) + si.length
    · simp only [if_pos c2, sPlace, Option.bind_some]
      rw [K.wr (x := i - sa.length) (by omega) (by omega), if_pos (by omega), if_pos (by omega)]
      exact Ev.now _
    · simp only [if_neg c2]
      exact Ev.now _
theorem iNode (pl : Int) (sa : List S70) (si : List S72) (rc cr vw su sh : Int) (zo : List S83) (ac : Int) (hn : (sa.length : Int) + si.length ≤ 4194304) (i t : Int) : impl_NodeAt.f pl sa si rc cr vw su sh zo ac i t = some (nodeS sa si i t, nodeW sa i) := by
  unfold impl_NodeAt.f nodeS nodeW impl_PlacesAt.f
  simp only [iIsSat _ _ _ _ _ _ _ _ _ _ hn, iIsSite _ _ _ _ _ _ _ _ _ _ hn, iPlace, iWiden, Option.bind_some, decide_eq_true_eq]
  by_cases c : 0 ≤ i ∧ i < (sa.length : Int)
  · rw [if_pos c, if_pos c, if_pos c.1, if_pos c.2, if_pos c]
  · rw [if_neg c, if_neg c, if_neg c]
    by_cases c2 : (sa.length : Int) ≤ i ∧ i < (sa.length : Int) + si.length
    · rw [if_pos c2, if_pos c2, K.wr (x := i - sa.length) (by omega) (by omega), if_pos (by omega), if_pos (by omega)]
    · rw [if_neg c2, if_neg c2]
theorem node_range (sa : List S70) (si : List S72) (i t : Int) : 0 ≤ nodeS sa si i t ∧ nodeS sa si i t < 360 ∧ 0 ≤ nodeW sa i ∧ nodeW sa i ≤ 359 := by
  have h1 := wid_range (placeV (rd_T70 sa i).f1 (rd_T70 sa i).f2 t) (rd_T70 sa i).f3
  have h2 := place_range (rd_T72 si (i - sa.length)).f1 (rd_T72 si (i - sa.length)).f2 t
  unfold nodeS nodeW
  split
  · exact h1
  · split <;> omega
theorem sSun (pl : Int) (sa : List S70) (si : List S72) (rc cr vw su sh : Int) (zo : List S83) (ac : Int) (t : Int) : spec_SunAt.f pl sa si rc cr vw su sh zo ac t = some (placeV 0 su t) := by
  unfold spec_SunAt.f
  rw [sPlace]
  rfl
theorem iSun (pl : Int) (sa : List S70) (si : List S72) (rc cr vw su sh : Int) (zo : List S83) (ac : Int) (t : Int) : impl_SunAt.f pl sa si rc cr vw su sh zo ac t = some (placeV 0 su t) := by
  unfold impl_SunAt.f
  rw [iPlace]
  rfl
def midV (s w : Int) : Int := if 0 ≤ w ∧ w ≤ 359 then (s % 360 + w / 2) % 360 else s % 360
theorem sMiddle (s w : Int) : spec_MiddleOf.f s w = some (midV s w) := by
  unfold spec_MiddleOf.f midV
  simp only [l1In, sAngle, Option.bind_some, decide_eq_true_eq]
  by_cases c : 0 ≤ w ∧ w ≤ 359
  · rw [if_pos c, if_pos c, Int.tdiv_eq_ediv_of_nonneg c.1, K.wr (x := w / 2) (by omega) (by omega), K.wr (by omega) (by omega)]
  · rw [if_neg c, if_neg c]
theorem iMiddle (s w : Int) : impl_MiddleOf.f s w = some (midV s w) := by
  unfold impl_MiddleOf.f midV
  simp only [iWidth, iAngle, Option.bind_some, decide_eq_true_eq]
  by_cases c : 0 ≤ w ∧ w ≤ 359
  · rw [if_pos c, if_pos c, Int.tdiv_eq_ediv_of_nonneg c.1, K.wr (x := w / 2) (by omega) (by omega), K.wr (by omega) (by omega)]
  · rw [if_neg c, if_neg c]
theorem mid_range (s w : Int) : 0 ≤ midV s w ∧ midV s w < 360 := by
  unfold midV
  split <;> omega
def gapV (a b : Int) : Int := mn ((a % 360 - b % 360) % 360) (360 - (a % 360 - b % 360) % 360)
theorem sGap (a b : Int) : spec_GapOf.f a b = some (gapV a b) := by
  unfold spec_GapOf.f gapV
  simp only [sAngle, sMin, Option.bind_some]
  rw [K.wr (x := a % 360 - b % 360) (by omega) (by omega), K.wr (by omega) (by omega)]
theorem iGap (a b : Int) : impl_GapOf.f a b = some (gapV a b) := by
  unfold impl_GapOf.f gapV
  simp only [iAngle, Option.bind_some]
  rw [K.wr (x := a % 360 - b % 360) (by omega) (by omega), K.wr (by omega) (by omega)]
theorem gap_range (a b : Int) : 0 ≤ gapV a b ∧ gapV a b ≤ 180 := by
  unfold gapV mn
  split <;> omega
def shadV (sa : List S70) (si : List S72) (su sh i t : Int) : Int :=
  if 0 ≤ i ∧ i < (sa.length : Int) then
    (if gapV (midV (nodeS sa si i t) (nodeW sa i)) (placeV 0 su t + 180) - nodeW sa i / 2 > sh then 0 else if gapV (midV (nodeS sa si i t) (nodeW sa i)) (placeV 0 su t + 180) + nodeW sa i / 2 ≤ sh then 2 else 1)
  else 0
theorem sShadow (pl : Int) (sa : List S70) (si : List S72) (rc cr vw su sh : Int) (zo : List S83) (ac : Int) (hn : (sa.length : Int) + si.length ≤ 4194304) (i t : Int) : Ev (fun k => spec_ShadowAt.f k pl sa si rc cr vw su sh zo ac i t) (shadV sa si su sh i t) := by
  unfold spec_ShadowAt.f shadV
  simp only [sIsSat sa (by omega), Option.bind_some, decide_eq_true_eq]
  have hw := node_range sa si i t
  have hs := place_range 0 su t
  have hg := gap_range (midV (nodeS sa si i t) (nodeW sa i)) (placeV 0 su t + 180)
  by_cases c : 0 ≤ i ∧ i < (sa.length : Int)
  · rw [if_pos c]
    refine K.pos c (Ev.bind (sNode _ _ _ _ _ _ _ _ _ _ hn i t) ?_)
    simp only [sMiddle, sSun, sGap, Option.bind_some]
    rw [K.wr (x := placeV 0 su t + 180) (by omega) (by omega), Int.tdiv_eq_ediv_of_nonneg hw.2.2.1, K.wr (x := nodeW sa i / 2) (by omega) (by omega)]
    rw [K.wr (x := gapV (midV (nodeS sa si i t) (nodeW sa i)) (placeV 0 su t + 180) - nodeW sa i / 2) (by omega) (by omega), K.wr (x := gapV (midV (nodeS sa si i t) (nodeW sa i)) (placeV 0 su t + 180) + nodeW sa i / 2) (by omega) (by omega)]
    split
    · exact Ev.now _
    · split <;> exact Ev.now _
  · rw [if_neg c]
    exact K.neg c (Ev.now _)
theorem iShadow (pl : Int) (sa : List S70) (si : List S72) (rc cr vw su sh : Int) (zo : List S83) (ac : Int) (hn : (sa.length : Int) + si.length ≤ 4194304) (i t : Int) : impl_ShadowAt.f pl sa si rc cr vw su sh zo ac i t = some (shadV sa si su sh i t) := by
  unfold impl_ShadowAt.f shadV
  simp only [iIsSat _ _ _ _ _ _ _ _ _ _ hn, Option.bind_some, decide_eq_true_eq]
  have hw := node_range sa si i t
  have hs := place_range 0 su t
  have hg := gap_range (midV (nodeS sa si i t) (nodeW sa i)) (placeV 0 su t + 180)
  by_cases c : 0 ≤ i ∧ i < (sa.length : Int)
  · rw [if_pos c, if_pos c, iNode _ _ _ _ _ _ _ _ _ _ hn i t]
    simp only [iMiddle, iSun, iGap, Option.bind_some]
    rw [K.wr (x := placeV 0 su t + 180) (by omega) (by omega), Int.tdiv_eq_ediv_of_nonneg hw.2.2.1, K.wr (x := nodeW sa i / 2) (by omega) (by omega)]
    rw [K.wr (x := gapV (midV (nodeS sa si i t) (nodeW sa i)) (placeV 0 su t + 180) - nodeW sa i / 2) (by omega) (by omega), K.wr (x := gapV (midV (nodeS sa si i t) (nodeW sa i)) (placeV 0 su t + 180) + nodeW sa i / 2) (by omega) (by omega)]
    split
    · rfl
    · split <;> rfl
  · rw [if_neg c, if_neg c]

end LFnExactShadowAt
theorem FnExactShadowAt (pl : Int) (sa : List S93) (si : List S95) (rc cr vw su sh : Int) (zo : List S99) (ac : Int) (i t : Int) (h1 : sa.length ≤ 9223372036854775807) (h2 : si.length ≤ 9223372036854775807) (h3 : zo.length ≤ 9223372036854775807) : ∃ k, laws_FnExactShadowAt.f k pl sa si rc cr vw su sh zo ac i t = some true := by
  refine K.rounds (g := fun k => laws_FnExactShadowAt.f k pl sa si rc cr vw su sh zo ac i t) ?_
  unfold laws_FnExactShadowAt.f
  refine K.known (LFnExactShadowAt.szSky _ _ _ _ _ _ _ _ _ _ h1 h2 h3) ?_
  by_cases c : (sa.length : Int) + si.length + zo.length ≤ 1048576
  · rw [if_pos c]
    have hn : ((sa.map LFnExactShadowAt.cvSat).length : Int) + (si.map LFnExactShadowAt.cvSite).length ≤ 4194304 := by simp; omega
    repeat (first | exact Ev.now _ | refine K.pos (by first | exact True.intro | with_reducible rfl | omega) ?_ | refine K.neg (by first | omega | exact Bool.false_ne_true | exact K.nbne _) ?_ | refine Ev.bind (LFnExactShadowAt.toSky pl sa si rc cr vw su sh zo ac (by omega) (by omega) (by omega)) ?_ | refine Ev.bind (LFnExactShadowAt.sShadow _ _ _ _ _ _ _ _ _ _ hn _ _) ?_ | refine K.known (LFnExactShadowAt.iShadow _ _ _ _ _ _ _ _ _ _ hn _ _) ?_ | refine Ev.bind (LFnExactShadowAt.eqSky pl (sa.map LFnExactShadowAt.cvSat) (si.map LFnExactShadowAt.cvSite) rc cr vw su sh (zo.map LFnExactShadowAt.cvZone) ac (by simp; omega) (by simp; omega) (by simp; omega)) ?_)
  · rw [if_neg c]
    exact K.pos (by omega) (Ev.now _)

end Go.Proofs.Ytflngcegkhgocaa.Pure
