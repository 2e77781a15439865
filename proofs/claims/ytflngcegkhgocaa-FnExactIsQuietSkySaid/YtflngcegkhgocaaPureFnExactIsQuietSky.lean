/- Whether a sky is quiet is told alike by the program and the reference, for every sky of at most 2^20 parts and every tick. -/
import Derived.Test.YtflngcegkhgocaaQFnExactIsQuietSkyx
import Derived.Test.YtflngcegkhgocaaKKit
namespace Go.Proofs.Ytflngcegkhgocaa.Pure
open Go.RowKit Go.Proofs.Ytflngcegkhgocaa.PFnExactIsQuietSky Go.Proofs.YtflngcegkhgocaaW.PrintWords Go.Proofs.YtflngcegkhgocaaW.PrintLast Go.Proofs.YtflngcegkhgocaaW.PrintMore Go.Proofs.Ytflngcegkhgocaa
set_option linter.unusedSimpArgs false
set_option linter.unusedVariables false
namespace LFnExactIsQuietSky

def cvSat (x : S93) : S70 := ⟨x.f0, x.f1, x.f2, x.f3⟩
theorem toSatS (l : List S93) (hl : l.length ≤ 1048576) : Ev (fun k => laws_toSatS.f k l) (l.map cvSat) := by
  unfold laws_toSatS.f
  refine K.pos (by omega) (K.pos (by omega) ?_)
  refine K.fill (fun k xs i => laws_toSatS.l0 k l xs i) (l.map cvSat) (by simpa using hl) ?_ ?_ l.length _ 0 (by omega) (by simp) (by simp) (by intro j hj; omega)
  · intro k xs i hi
    simp only [List.length_map] at hi
    simp only [laws_toSatS.l0]
    rw [if_neg hi]
  · intro k xs i y h0 hi hx hy
    simp only [List.length_map] at hi hx
    simp only [laws_toSatS.l0, laws_toSat.f, Option.bind_some]
    rw [if_pos hi, if_pos h0, if_pos (by omega), K.wr (x := i + 1) (by omega) (by omega)]
    have hg : l[i.toNat]? = some (l[i.toNat]'(by omega)) := List.getElem?_eq_getElem (by omega)
    rw [List.getElem?_map, hg, Option.map_some] at hy
    obtain rfl := Option.some.inj hy
    have hr : rd_T93 l i = l[i.toNat]'(by omega) := by
      simp only [rd_T93, List.getD_eq_getElem?_getD, hg, Option.getD_some]
    rw [hr]
    rfl
theorem szSatS (l : List S93) (left : Int) (h0 : 0 ≤ left) (h1 : left ≤ 1048576) (hm : l.length ≤ 9223372036854775807) : laws_szSatS.f l left = some (if (l.length : Int) ≤ left then left - l.length else -1) := by
  unfold laws_szSatS.f
  rw [K.wr (by omega) (by omega)]
  split <;> split <;> first | rfl | omega


def cvSite (x : S95) : S72 := ⟨x.f0, x.f1, x.f2⟩
theorem toSiteS (l : List S95) (hl : l.length ≤ 1048576) : Ev (fun k => laws_toSiteS.f k l) (l.map cvSite) := by
  unfold laws_toSiteS.f
  refine K.pos (by omega) (K.pos (by omega) ?_)
  refine K.fill (fun k xs i => laws_toSiteS.l0 k l xs i) (l.map cvSite) (by simpa using hl) ?_ ?_ l.length _ 0 (by omega) (by simp) (by simp) (by intro j hj; omega)
  · intro k xs i hi
    simp only [List.length_map] at hi
    simp only [laws_toSiteS.l0]
    rw [if_neg hi]
  · intro k xs i y h0 hi hx hy
    simp only [List.length_map] at hi hx
    simp only [laws_toSiteS.l0, laws_toSite.f, Option.bind_some]
    rw [if_pos hi, if_pos h0, if_pos (by omega), K.wr (x := i + 1) (by omega) (by omega)]
    have hg : l[i.toNat]? = some (l[i.toNat]'(by omega)) := List.getElem?_eq_getElem (by omega)
    rw [List.getElem?_map, hg, Option.map_some] at hy
    obtain rfl := Option.some.inj hy
    have hr : rd_T95 l i = l[i.toNat]'(by omega) := by
      simp only [rd_T95, List.getD_eq_getElem?_getD, hg, Option.getD_some]
    rw [hr]
    rfl
theorem szSiteS (l : List S95) (left : Int) (h0 : 0 ≤ left) (h1 : left ≤ 1048576) (hm : l.length ≤ 9223372036854775807) : laws_szSiteS.f l left = some (if (l.length : Int) ≤ left then left - l.length else -1) := by
  unfold laws_szSiteS.f
  rw [K.wr (by omega) (by omega)]
  split <;> split <;> first | rfl | omega


theorem eqSatS (l : List S70) (hl : l.length ≤ 67108864) : Ev (fun k => laws_eqSatS.f k l l) true := by
  unfold laws_eqSatS.f
  refine K.pos rfl ?_
  refine K.all (n := l.length) (fun k i => laws_eqSatS.l0 k l l i) ?_ ?_ l.length 0 (by omega) (by omega)
  · intro k i hi
    simp only [laws_eqSatS.l0]
    rw [if_neg hi]
  · intro k i h0 hi
    simp only [laws_eqSatS.l0, laws_eqSat.f, ↓reduceIte, Option.bind_some]
    rw [if_pos hi, if_pos h0, if_pos hi, K.wr (x := i + 1) (by omega) (by omega)]


theorem eqSiteS (l : List S72) (hl : l.length ≤ 67108864) : Ev (fun k => laws_eqSiteS.f k l l) true := by
  unfold laws_eqSiteS.f
  refine K.pos rfl ?_
  refine K.all (n := l.length) (fun k i => laws_eqSiteS.l0 k l l i) ?_ ?_ l.length 0 (by omega) (by omega)
  · intro k i hi
    simp only [laws_eqSiteS.l0]
    rw [if_neg hi]
  · intro k i h0 hi
    simp only [laws_eqSiteS.l0, laws_eqSite.f, ↓reduceIte, Option.bind_some]
    rw [if_pos hi, if_pos h0, if_pos hi, K.wr (x := i + 1) (by omega) (by omega)]

def cvZone (x : S99) : S83 := ⟨x.f0, ⟨x.f1.f0, x.f1.f1⟩⟩
theorem toZoneS (l : List S99) (hl : l.length ≤ 1048576) : Ev (fun k => laws_toZoneS.f k l) (l.map cvZone) := by
  unfold laws_toZoneS.f
  refine K.pos (by omega) (K.pos (by omega) ?_)
  refine K.fill (fun k xs i => laws_toZoneS.l0 k l xs i) (l.map cvZone) (by simpa using hl) ?_ ?_ l.length _ 0 (by omega) (by simp) (by simp) (by intro j hj; omega)
  · intro k xs i hi
    simp only [List.length_map] at hi
    simp only [laws_toZoneS.l0]
    rw [if_neg hi]
  · intro k xs i y h0 hi hx hy
    simp only [List.length_map] at hi hx
    simp only [laws_toZoneS.l0, laws_toZone.f, laws_toArc.f, Option.bind_some]
    rw [if_pos hi, if_pos h0, if_pos (by omega), K.wr (x := i + 1) (by omega) (by omega)]
    have hg : l[i.toNat]? = some (l[i.toNat]'(by omega)) := List.getElem?_eq_getElem (by omega)
    rw [List.getElem?_map, hg, Option.map_some] at hy
    obtain rfl := Option.some.inj hy
    have hr : rd_T99 l i = l[i.toNat]'(by omega) := by
      simp only [rd_T99, List.getD_eq_getElem?_getD, hg, Option.getD_some]
    rw [hr]
    rfl
theorem szZoneS (l : List S99) (left : Int) (h0 : 0 ≤ left) (h1 : left ≤ 1048576) (hm : l.length ≤ 9223372036854775807) : laws_szZoneS.f l left = some (if (l.length : Int) ≤ left then left - l.length else -1) := by
  unfold laws_szZoneS.f
  rw [K.wr (by omega) (by omega)]
  split <;> split <;> first | rfl | omega
theorem eqZoneS (l : List S83) (hl : l.length ≤ 67108864) : Ev (fun k => laws_eqZoneS.f k l l) true := by
  unfold laws_eqZoneS.f
  refine K.pos rfl ?_
  refine K.all (n := l.length) (fun k i => laws_eqZoneS.l0 k l l i) ?_ ?_ l.length 0 (by omega) (by omega)
  · intro k i hi
    simp only [laws_eqZoneS.l0]
    rw [if_neg hi]
  · intro k i h0 hi
    simp only [laws_eqZoneS.l0, laws_eqZone.f, laws_eqArc.f, ↓reduceIte, Option.bind_some]
    rw [if_pos hi, if_pos h0, if_pos hi, K.wr (x := i + 1) (by omega) (by omega)]
theorem szSky (pl : Int) (sa : List S93) (si : List S95) (rc cr vw su sh : Int) (zo : List S99) (ac : Int) (h1 : sa.length ≤ 9223372036854775807) (h2 : si.length ≤ 9223372036854775807) (h3 : zo.length ≤ 9223372036854775807) :
    laws_szSky.f pl sa si rc cr vw su sh zo ac 1048576 = some (if (sa.length : Int) + si.length + zo.length ≤ 1048576 then (1048576 : Int) - sa.length - si.length - zo.length else (-1 : Int)) := by
  unfold laws_szSky.f
  rw [szSatS sa 1048576 (by omega) (by omega) h1]
  simp only [Option.bind_some]
  by_cases c1 : (sa.length : Int) ≤ 1048576
  · rw [if_pos c1, if_neg (by omega), szSiteS si _ (by omega) (by omega) h2]
    simp only [Option.bind_some]
    by_cases c2 : (si.length : Int) ≤ 1048576 - sa.length
    · rw [if_pos c2, if_neg (by omega), szZoneS zo _ (by omega) (by omega) h3]
      simp only [Option.bind_some]
      by_cases c3 : (zo.length : Int) ≤ 1048576 - sa.length - si.length
      · rw [if_pos c3, if_neg (by omega), if_pos (by omega)]
      · rw [if_neg c3, if_pos (by omega), if_neg (by omega)]
    · rw [if_neg c2, if_pos (by omega), if_neg (by omega)]
  · rw [if_neg c1, if_pos (by omega), if_neg (by omega)]
theorem toSky (pl : Int) (sa : List S93) (si : List S95) (rc cr vw su sh : Int) (zo : List S99) (ac : Int) (h1 : sa.length ≤ 1048576) (h2 : si.length ≤ 1048576) (h3 : zo.length ≤ 1048576) :
    Ev (fun k => laws_toSky.f k pl sa si rc cr vw su sh zo ac) (pl, sa.map cvSat, si.map cvSite, rc, cr, vw, su, sh, zo.map cvZone, ac) := by
  unfold laws_toSky.f
  exact Ev.bind (toSatS sa h1) (Ev.bind (toSiteS si h2) (Ev.bind (toZoneS zo h3) (Ev.now _)))
theorem eqSky (pl : Int) (sa : List S70) (si : List S72) (rc cr vw su sh : Int) (zo : List S83) (ac : Int) (h1 : sa.length ≤ 1048576) (h2 : si.length ≤ 1048576) (h3 : zo.length ≤ 1048576) : Ev (fun k => laws_eqSky.f k pl sa si rc cr vw su sh zo ac pl sa si rc cr vw su sh zo ac) true := by
  unfold laws_eqSky.f
  exact K.pos rfl (Ev.bind (eqSatS sa (by omega)) (K.pos rfl (Ev.bind (eqSiteS si (by omega)) (K.pos rfl (K.pos rfl (K.pos rfl (K.pos rfl (K.pos rfl (K.pos rfl (Ev.bind (eqZoneS zo (by omega)) (K.pos rfl (K.pos rfl (Ev.now _)))))))))))))
theorem l1In (a b c : Int) : spec_l1In.f a b c = some (decide (b ≤ a ∧ a ≤ c)) := by
  unfold spec_l1In.f
  split <;> (try split) <;> first | rfl | (congr 1; exact decide_eq_decide.2 (by omega)) | (congr 1; exact (decide_eq_false (by omega)).symm)
theorem InRange (a b c : Int) : impl_InRange.f a b c = some (decide (b ≤ a ∧ a ≤ c)) := by
  unfold impl_InRange.f
  split <;> (try split) <;> first | rfl | (congr 1; exact decide_eq_decide.2 (by omega)) | (congr 1; exact (decide_eq_false (by omega)).symm)
theorem sIsSite (pl : Int) (sa : List S70) (si : List S72) (rc cr vw su sh : Int) (zo : List S83) (ac : Int) (hn : (sa.length : Int) + si.length ≤ 4194304) (i : Int) : spec_IsSite.f pl sa si rc cr vw su sh zo ac i = some (decide ((sa.length : Int) ≤ i ∧ i < (sa.length : Int) + si.length)) := by
  unfold spec_IsSite.f spec_NodesOf.f
  simp only [Option.bind_some, l1In]
  rw [K.wr (x := (sa.length : Int) + si.length) (by omega) (by omega), K.wr (by omega) (by omega)]
  congr 1
  exact decide_eq_decide.2 (by omega)
theorem iIsSite (pl : Int) (sa : List S70) (si : List S72) (rc cr vw su sh : Int) (zo : List S83) (ac : Int) (hn : (sa.length : Int) + si.length ≤ 4194304) (i : Int) : impl_IsSite.f pl sa si rc cr vw su sh zo ac i = some (decide ((sa.length : Int) ≤ i ∧ i < (sa.length : Int) + si.length)) := by
  unfold impl_IsSite.f impl_NodesOf.f
  simp only [Option.bind_some, InRange]
  rw [K.wr (x := (sa.length : Int) + si.length) (by omega) (by omega), K.wr (by omega) (by omega)]
  congr 1
  exact decide_eq_decide.2 (by omega)
theorem iIsSat (pl : Int) (sa : List S70) (si : List S72) (rc cr vw su sh : Int) (zo : List S83) (ac : Int) (hn : (sa.length : Int) + si.length ≤ 4194304) (i : Int) : impl_isSatellite.f pl sa si rc cr vw su sh zo ac i = some (decide (0 ≤ i ∧ i < (sa.length : Int))) := by
  unfold impl_isSatellite.f
  simp only [Option.bind_some, InRange]
  rw [K.wr (by omega) (by omega)]
  congr 1
  exact decide_eq_decide.2 (by omega)
theorem sIsSat (sa : List S70) (hn : (sa.length : Int) ≤ 4194304) (i : Int) : spec_l1In.f i 0 (wrap64 ((sa.length : Int) - 1)) = some (decide (0 ≤ i ∧ i < (sa.length : Int))) := by
  rw [l1In, K.wr (by omega) (by omega)]
  congr 1
  exact decide_eq_decide.2 (by omega)
theorem sAngle (n : Int) : spec_AngleOf.f n = some (n % 360) := by
  unfold spec_AngleOf.f spec_Mod.f
  have e : decide ((1 : Int) ≤ 360 ∧ (360 : Int) ≤ 1000000000000) = true := by decide
  simp only [l1In, e, Option.bind_some, ↓reduceIte]
  rw [if_neg (by omega)]
  have h := Int.tmod_eq_emod (a := n) (b := 360)
  have hb : -360 < Int.tmod n 360 ∧ Int.tmod n 360 < 360 := by
    rw [h]
    split <;> omega
  rw [K.wr (by omega) (by omega), Int.tmod_eq_emod_of_nonneg (by omega)]
  simp only [Option.bind_some]
  congr 1
  rw [h]
  split <;> omega
theorem iAngle (n : Int) : impl_AngleOf.f n = some (n % 360) := by
  unfold impl_AngleOf.f impl_Mod.f
  have e : decide ((1 : Int) ≤ 360 ∧ (360 : Int) ≤ 1000000000000) = true := by decide
  simp only [InRange, e, Option.bind_some, ↓reduceIte]
  rw [if_neg (by omega)]
  have h := Int.tmod_eq_emod (a := n) (b := 360)
  have hb : -360 < Int.tmod n 360 ∧ Int.tmod n 360 < 360 := by
    rw [h]
    split <;> omega
  have hd : (360 : Int) ∣ n → Int.tmod n 360 = n % 360 := by
    intro hd
    rw [h, if_pos (Or.inr hd)]
    simp
  by_cases c : Int.tmod n 360 < 0
  · rw [if_pos c, K.wr (by omega) (by omega)]
    simp only [Option.bind_some]
    congr 1
    rw [h] at c ⊢
    split at c <;> split <;> omega
  · rw [if_neg c]
    simp only [Option.bind_some]
    congr 1
    rw [h] at c ⊢
    split at c <;> split <;> omega
def placeV (ph sp t : Int) : Int := (ph % 360 + (if -60 ≤ sp ∧ sp ≤ 60 then sp else 0) * (if 0 ≤ t ∧ t ≤ 1000 then t else 0)) % 360
theorem place_bd (s t : Int) (hs : -60 ≤ s ∧ s ≤ 60) (ht : 0 ≤ t ∧ t ≤ 1000) : -60000 ≤ s * t ∧ s * t ≤ 60000 := by
  have h1 : s * t ≤ 60 * t := Int.mul_le_mul_of_nonneg_right hs.2 ht.1
  have h2 : -60 * t ≤ s * t := Int.mul_le_mul_of_nonneg_right hs.1 ht.1
  omega
theorem sPlace (a ph sp e t : Int) : spec_PlaceAt.f a ph sp e t = some (placeV ph sp t) := by
  unfold spec_PlaceAt.f placeV spec_l6Speed.f
  simp only [l1In, sAngle, Option.bind_some, decide_eq_true_eq]
  by_cases ct : 0 ≤ t ∧ t ≤ 1000
  · rw [if_pos ct]
    by_cases cs : -60 ≤ sp ∧ sp ≤ 60
    · have := place_bd sp t cs ct
      rw [if_pos cs]
      simp only [Option.bind_some, if_pos ct, if_pos cs]
      rw [K.wr (x := sp * t) (by omega) (by omega), K.wr (by omega) (by omega)]
    · rw [if_neg cs]
      simp only [Option.bind_some, if_pos ct, if_neg cs]
      rw [K.wr (x := 0 * t) (by omega) (by omega), K.wr (by omega) (by omega)]
  · rw [if_neg ct]
    by_cases cs : -60 ≤ sp ∧ sp ≤ 60
    · rw [if_pos cs]
      simp only [Option.bind_some, if_neg ct]
      rw [K.wr (by omega) (by omega), Int.mul_zero, Int.add_zero]
    · rw [if_neg cs]
      simp only [Option.bind_some, if_neg ct]
      rw [K.wr (by omega) (by omega), Int.mul_zero, Int.add_zero]
theorem iPlace (a ph sp e t : Int) : impl_PlaceAt.f a ph sp e t = some (placeV ph sp t) := by
  unfold impl_PlaceAt.f placeV impl_speedOf.f
  simp only [InRange, iAngle, Option.bind_some, decide_eq_true_eq]
  by_cases ct : 0 ≤ t ∧ t ≤ 1000
  · rw [if_pos ct]
    by_cases cs : -60 ≤ sp ∧ sp ≤ 60
    · have := place_bd sp t cs ct
      rw [if_pos cs]
      simp only [Option.bind_some, if_pos ct, if_pos cs]
      rw [K.wr (x := sp * t) (by omega) (by omega), K.wr (by omega) (by omega)]
    · rw [if_neg cs]
      simp only [Option.bind_some, if_pos ct, if_neg cs]
      rw [K.wr (x := 0 * t) (by omega) (by omega), K.wr (by omega) (by omega)]
  · rw [if_neg ct]
    by_cases cs : -60 ≤ sp ∧ sp ≤ 60
    · rw [if_pos cs]
      simp only [Option.bind_some, if_neg ct]
      rw [K.wr (by omega) (by omega), Int.mul_zero, Int.add_zero]
    · rw [if_neg cs]
      simp only [Option.bind_some, if_neg ct]
      rw [K.wr (by omega) (by omega), Int.mul_zero, Int.add_zero]
theorem place_range (ph sp t : Int) : 0 ≤ placeV ph sp t ∧ placeV ph sp t < 360 := by unfold placeV; omega
theorem sMin (a b : Int) : spec_Min.f a b = some (mn a b) := by
  unfold spec_Min.f mn
  split <;> rfl
theorem iWidth (n : Int) : impl_isWidth.f n = some (decide (0 ≤ n ∧ n ≤ 359)) := by
  unfold impl_isWidth.f
  simp only [InRange, Option.bind_some]
/-- The arc about a place, as wide as an error says: its start and its width. -/
def widS (p e : Int) : Int := if 0 ≤ e ∧ e ≤ 360 then (p % 360 - e) % 360 else p % 360
def widW (e : Int) : Int := if 0 ≤ e ∧ e ≤ 360 then mn (2 * e) 359 else 0
theorem sWiden (p e : Int) : Ev (fun k => spec_WidenArc.f k p 0 e) (widS p e, widW e) := by
  unfold spec_WidenArc.f widS widW
  have e0 : decide ((0 : Int) ≤ 0 ∧ (0 : Int) ≤ 359) = true := by decide
  simp only [l1In, e0, Option.bind_some, decide_eq_true_eq]
  by_cases c : 0 ≤ e ∧ e ≤ 360
  · rw [if_pos c, if_pos c]
    refine K.pos c (K.succ ?_)
    simp only [spec_WidenArc.j0, sAngle, sMin, Option.bind_some]
    refine K.neg (by decide) ?_
    rw [K.wr (x := p % 360 - e) (by omega) (by omega), K.wr (x := 2 * e) (by omega) (by omega), Int.zero_add, K.wr (x := 2 * e) (by omega) (by omega)]
    have hm : mn 359 (2 * e) = mn (2 * e) 359 := by unfold mn; split <;> split <;> omega
    rw [hm]
    exact Ev.now _
  · rw [if_neg c, if_neg c]
    refine K.neg c (K.succ ?_)
    simp only [spec_WidenArc.j0, sAngle, Option.bind_some]
    exact K.pos (by trivial) (Ev.now _)
theorem iWiden (p e : Int) : impl_WidenArc.f p 0 e = some (widS p e, widW e) := by
  unfold impl_WidenArc.f widS widW
  have e0 : decide ((0 : Int) ≤ 0 ∧ (0 : Int) ≤ 359) = true := by decide
  simp only [InRange, iWidth, iAngle, e0, Option.bind_some, decide_eq_true_eq, ↓reduceIte]
  by_cases c : 0 ≤ e ∧ e ≤ 360
  · rw [if_pos c, if_pos c, if_pos c, K.wr (x := p % 360 - e) (by omega) (by omega), K.wr (x := 2 * e) (by omega) (by omega), Int.zero_add, K.wr (x := 2 * e) (by omega) (by omega)]
  · rw [if_neg c, if_neg c, if_neg c]
theorem wid_range (p e : Int) : 0 ≤ widS p e ∧ widS p e < 360 ∧ 0 ≤ widW e ∧ widW e ≤ 359 := by
  unfold widS widW mn
  split <;> (try split) <;> omega
def nodeS (sa : List S70) (si : List S72) (i t : Int) : Int :=
  if 0 ≤ i ∧ i < (sa.length : Int) then widS (placeV (rd_T70 sa i).f1 (rd_T70 sa i).f2 t) (rd_T70 sa i).f3 else if (sa.length : Int) ≤ i ∧ i < (sa.length : Int) + si.length then placeV (rd_T72 si (i - sa.length)).f1 (rd_T72 si (i - sa.length)).f2 t else 0
def nodeW (sa : List S70) (i : Int) : Int :=
  if 0 ≤ i ∧ i < (sa.length : Int) then widW (rd_T70 sa i).f3 else 0
theorem sNode (pl : Int) (sa : List S70) (si : List S72) (rc cr vw su sh : Int) (zo : List S83) (ac : Int) (hn : (sa.length : Int) + si.length ≤ 4194304) (i t : Int) : Ev (fun k => spec_NodeAt.f k pl sa si rc cr vw su sh zo ac i t) (nodeS sa si i t, nodeW sa i) := by
  unfold spec_NodeAt.f nodeS nodeW
  simp only [sIsSat sa (by omega), sIsSite _ _ _ _ _ _ _ _ _ _ hn, Option.bind_some, decide_eq_true_eq]
  by_cases c : 0 ≤ i ∧ i < (sa.length : Int)
  · rw [if_pos c, if_pos c]
    refine K.pos c (K.pos c.1 (K.pos c.2 ?_))
    unfold spec_PlacesAt.f
    simp only [sPlace, Option.bind_some]
    exact Ev.bind (Ev.bind (sWiden _ _) (Ev.now _)) (Ev.now _)
  · rw [if_neg c, if_neg c]
    refine K.neg c ?_
    by_cases c2 : (sa.length : Int) ≤ i ∧ i < (sa.length : Int) + si.length
    · simp only [if_pos c2, sPlace, Option.bind_some]
      rw [K.wr (x := i - sa.length) (by omega) (by omega), if_pos (by omega), if_pos (by omega)]
      exact Ev.now _
    · simp only [if_neg c2]
      exact Ev.now _
theorem iNode (pl : Int) (sa : List S70) (si : List S72) (rc cr vw su sh : Int) (zo : List S83) (ac : Int) (hn : (sa.length : Int) + si.length ≤ 4194304) (i t : Int) : impl_NodeAt.f pl sa si rc cr vw su sh zo ac i t = some (nodeS sa si i t, nodeW sa i) := by
  unfold impl_NodeAt.f nodeS nodeW impl_PlacesAt.f
  simp only [iIsSat _ _ _ _ _ _ _ _ _ _ hn, iIsSite _ _ _ _ _ _ _ _ _ _ hn, iPlace, iWiden, Option.bind_some, decide_eq_true_eq]
  by_cases c : 0 ≤ i ∧ i < (sa.length : Int)
  · rw [if_pos c, if_pos c, if_pos c.1, if_pos c.2, if_pos c]
  · rw [if_neg c, if_neg c, if_neg c]
    by_cases c2 : (sa.length : Int) ≤ i ∧ i < (sa.length : Int) + si.length
    · rw [if_pos c2, if_pos c2, K.wr (x := i - sa.length) (by omega) (by omega), if_pos (by omega), if_pos (by omega)]
    · rw [if_neg c2, if_neg c2]
theorem node_range (sa : List S70) (si : List S72) (i t : Int) : 0 ≤ nodeS sa si i t ∧ nodeS sa si i t < 360 ∧ 0 ≤ nodeW sa i ∧ nodeW sa i ≤ 359 := by
  have h1 := wid_range (placeV (rd_T70 sa i).f1 (rd_T70 sa i).f2 t) (rd_T70 sa i).f3
  have h2 := place_range (rd_T72 si (i - sa.length)).f1 (rd_T72 si (i - sa.length)).f2 t
  unfold nodeS nodeW
  split
  · exact h1
  · split <;> omega
def inArc (s w a : Int) : Prop := (a % 360 - s % 360) % 360 ≤ w
instance (s w a : Int) : Decidable (inArc s w a) := by
  unfold inArc
  infer_instance
theorem sInArc (s w a : Int) : spec_InArc.f s w a = some (decide (inArc s w a)) := by
  unfold spec_InArc.f inArc
  simp only [sAngle, Option.bind_some]
  rw [K.wr (x := a % 360 - s % 360) (by omega) (by omega)]
  by_cases c : w ≥ 0
  · rw [if_pos c]
  · rw [if_neg c]
    congr 1
    exact (decide_eq_false (by omega)).symm
theorem iInArc (s w a : Int) : impl_InArc.f s w a = some (decide (inArc s w a)) := by
  unfold impl_InArc.f inArc
  simp only [iAngle, Option.bind_some]
  rw [K.wr (x := a % 360 - s % 360) (by omega) (by omega)]
def meetV (s w s2 w2 : Int) : Prop := w ≥ 0 ∧ w2 ≥ 0 ∧ (inArc s w s2 ∨ inArc s2 w2 s)
instance (s w s2 w2 : Int) : Decidable (meetV s w s2 w2) := by
  unfold meetV
  infer_instance
theorem sMeet (s w s2 w2 : Int) : spec_ArcsMeet.f s w s2 w2 = some (decide (meetV s w s2 w2)) := by
  unfold spec_ArcsMeet.f meetV
  simp only [sInArc, Option.bind_some, decide_eq_true_eq]
  by_cases c : w ≥ 0
  · rw [if_pos c]
    by_cases c2 : w2 ≥ 0
    · rw [if_pos c2]
      by_cases c3 : inArc s w s2
      · rw [if_pos c3]
        congr 1
        exact (decide_eq_true ⟨c, c2, Or.inl c3⟩).symm
      · rw [if_neg c3]
        congr 1
        exact decide_eq_decide.2 ⟨fun h => ⟨c, c2, Or.inr h⟩, fun h => h.2.2.resolve_left c3⟩
    · rw [if_neg c2]
      congr 1
      exact (decide_eq_false (fun h => c2 h.2.1)).symm
  · rw [if_neg c]
    congr 1
    exact (decide_eq_false (fun h => c h.1)).symm
theorem meet_iff (s w s2 w2 : Int) : (∃ j : Int, 0 ≤ j ∧ j < ((360 : Nat) : Int) ∧ (inArc s w j ∧ inArc s2 w2 j)) ↔ meetV s w s2 w2 := by
  unfold meetV inArc
  constructor
  · rintro ⟨j, h0, h1, h2, h3⟩
    refine ⟨by omega, by omega, ?_⟩
    by_cases c : (j % 360 - s % 360) % 360 ≥ (j % 360 - s2 % 360) % 360
    · exact Or.inl (by omega)
    · exact Or.inr (by omega)
  · rintro ⟨h0, h1, h | h⟩
    · exact ⟨s2 % 360, by omega, by omega, by omega, by omega⟩
    · exact ⟨s % 360, by omega, by omega, by omega, by omega⟩
theorem iMeet (s w s2 w2 : Int) : Ev (fun k => impl_ArcsMeet.f k s w s2 w2) (decide (meetV s w s2 w2)) := by
  unfold impl_ArcsMeet.f
  have key := K.anys (n := 360) (fun k i => impl_ArcsMeet.l0 k i s w s2 w2) (fun _ => some false) (fun j => inArc s w j ∧ inArc s2 w2 j) (by
    intro k i hi
    simp only [impl_ArcsMeet.l0]
    rw [if_neg (show ¬ i < 360 by omega)]) (by
    intro k i i0 hi ho
    simp only [impl_ArcsMeet.l0, iInArc, Option.bind_some, decide_eq_true_eq]
    rw [if_pos (show i < 360 by omega), if_pos ho.1, if_pos ho.2]) (by
    intro k i i0 hi ho
    simp only [impl_ArcsMeet.l0, iInArc, Option.bind_some, decide_eq_true_eq]
    rw [if_pos (show i < 360 by omega), K.wr (x := i + 1) (by omega) (by omega)]
    by_cases c : inArc s w i
    · rw [if_pos c, if_neg (fun h => ho ⟨c, h⟩)]
    · rw [if_neg c]) 360 0 (by omega) (by omega)
  by_cases c : meetV s w s2 w2
  · rw [decide_eq_true c]
    exact key.1 ((meet_iff s w s2 w2).2 c)
  · rw [decide_eq_false c]
    exact key.2 (fun h => c ((meet_iff s w s2 w2).1 h)) false (Ev.now _)
theorem disturb (pl : Int) (sa : List S70) (si : List S72) (rc cr vw su sh : Int) (zo : List S83) (ac : Int) (hn : (sa.length : Int) + si.length ≤ 4194304) (hz : zo.length ≤ 1048576) (i t : Int) :
    ∃ b : Bool, Ev (fun k => spec_MayDisturb.f k pl sa si rc cr vw su sh zo ac i t) b ∧ Ev (fun k => impl_MayDisturb.f k pl sa si rc cr vw su sh zo ac i t) b ∧ (¬ (0 ≤ i ∧ i < (sa.length : Int)) → b = false) := by
  unfold spec_MayDisturb.f impl_MayDisturb.f
  simp only [sIsSat sa (by omega), iIsSat _ _ _ _ _ _ _ _ _ _ hn, Option.bind_some, decide_eq_true_eq]
  by_cases c : 0 ≤ i ∧ i < (sa.length : Int)
  · rw [iNode _ _ _ _ _ _ _ _ _ _ hn]
    simp only [Option.bind_some]
    have loop : ∀ (d : Nat) (j : Int), 0 ≤ j → (zo.length : Int) - j = d → ∃ b : Bool, Ev (fun k => spec_MayDisturb.l0 k i t j pl sa si rc cr vw su sh zo ac) b ∧ Ev (fun k => impl_MayDisturb.l0 k i zo (zo.length : Int) j pl sa si rc cr vw su sh zo ac (nodeS sa si i t) (nodeW sa i)) b := by
      intro d
      induction d with
      | zero =>
        intro j h0 hd
        refine ⟨false, K.succ ?_, K.succ ?_⟩
        · simp only [spec_MayDisturb.l0]
          exact K.neg (by omega) (Ev.now _)
        · simp only [impl_MayDisturb.l0]
          exact K.neg (by omega) (Ev.now _)
      | succ d ih =>
        intro j h0 hd
        have w1 : wrap64 (j + 1) = j + 1 := K.wr (by omega) (by omega)
        obtain ⟨b, g1, g2⟩ := ih (j + 1) (by omega) (by omega)
        by_cases c2 : (rd_T83 zo j).f0 = (rd_T70 sa i).f0
        · by_cases c3 : meetV (nodeS sa si i t) (nodeW sa i) (rd_T83 zo j).f1.f0 (rd_T83 zo j).f1.f1
          · have e := iMeet (nodeS sa si i t) (nodeW sa i) (rd_T83 zo j).f1.f0 (rd_T83 zo j).f1.f1
            rw [decide_eq_true c3] at e
            refine ⟨true, K.succ ?_, K.succ ?_⟩
            · simp only [spec_MayDisturb.l0, sMeet, Option.bind_some]
              refine K.pos (by omega) (K.pos h0 (K.pos c.1 (K.pos c.2 (K.pos c2 (Ev.bind (sNode _ _ _ _ _ _ _ _ _ _ hn i t) ?_)))))
              exact K.pos (decide_eq_true c3) (Ev.now _)
            · simp only [impl_MayDisturb.l0]
              exact K.pos (by omega) (K.pos h0 (K.pos (by omega) (K.pos c.1 (K.pos c.2 (K.pos c2 (Ev.bind e (K.pos rfl (Ev.now _))))))))
          · have e := iMeet (nodeS sa si i t) (nodeW sa i) (rd_T83 zo j).f1.f0 (rd_T83 zo j).f1.f1
            rw [decide_eq_false c3] at e
            refine ⟨b, K.succ ?_, K.succ ?_⟩
            · simp only [spec_MayDisturb.l0, sMeet, Option.bind_some, w1]
              refine K.pos (by omega) (K.pos h0 (K.pos c.1 (K.pos c.2 (K.pos c2 (Ev.bind (sNode _ _ _ _ _ _ _ _ _ _ hn i t) ?_)))))
              exact K.neg (fun h => c3 (of_decide_eq_true h)) g1
            · simp only [impl_MayDisturb.l0, w1]
              exact K.pos (by omega) (K.pos h0 (K.pos (by omega) (K.pos c.1 (K.pos c.2 (K.pos c2 (Ev.bind e (K.neg Bool.false_ne_true g2)))))))
        · refine ⟨b, K.succ ?_, K.succ ?_⟩
          · simp only [spec_MayDisturb.l0, w1]
            exact K.pos (by omega) (K.pos h0 (K.pos c.1 (K.pos c.2 (K.neg c2 g1))))
          · simp only [impl_MayDisturb.l0, w1]
            exact K.pos (by omega) (K.pos h0 (K.pos (by omega) (K.pos c.1 (K.pos c.2 (K.neg c2 g2)))))
    obtain ⟨b, g1, g2⟩ := loop zo.length 0 (by omega) (by omega)
    exact ⟨b, K.pos c g1, K.pos c g2, fun h => absurd c h⟩
  · exact ⟨false, K.neg c (Ev.now _), K.neg c (Ev.now _), fun _ => rfl⟩


theorem stepQ (k : Nat) (t i : Int) (pl : Int) (sa : List S70) (si : List S72) (rc cr vw su sh : Int) (zo : List S83) (ac : Int) : spec_IsQuietSky.l0 (k+1) t i pl sa si rc cr vw su sh zo ac = if i < wrap64 ((sa.length : Int) + si.length) then ((spec_MayDisturb.f k pl sa si rc cr vw su sh zo ac i t).bind fun t235 => (if t235 = true then (some false) else (spec_IsQuietSky.l0 k t (wrap64 (i + 1)) pl sa si rc cr vw su sh zo ac))) else (some true) := by
  rw [spec_IsQuietSky.l0]
  rw [spec_NodesOf.f]
  rw [Option.bind_some]
theorem quiet (pl : Int) (sa : List S70) (si : List S72) (rc cr vw su sh : Int) (zo : List S83) (ac : Int) (hn : (sa.length : Int) + si.length ≤ 4194304) (hz : zo.length ≤ 1048576) (t : Int) :
    ∃ b : Bool, Ev (fun k => spec_IsQuietSky.f k pl sa si rc cr vw su sh zo ac t) b ∧ Ev (fun k => impl_IsQuietSky.f k pl sa si rc cr vw su sh zo ac t) b := by
  unfold spec_IsQuietSky.f impl_IsQuietSky.f
  have rest : ∀ (d : Nat) (i : Int), (sa.length : Int) ≤ i → (sa.length : Int) + si.length - i = d → Ev (fun k => spec_IsQuietSky.l0 k t i pl sa si rc cr vw su sh zo ac) true := by
    intro d
    induction d with
    | zero =>
      intro i h0 hd
      refine K.succ ?_
      simp only [stepQ]
      rw [K.wr (x := (sa.length : Int) + si.length) (by omega) (by omega)]
      exact K.neg (by omega) (Ev.now _)
    | succ d ih =>
      intro i h0 hd
      obtain ⟨b, g1, _, g3⟩ := disturb pl sa si rc cr vw su sh zo ac hn hz i t
      rw [g3 (by omega)] at g1
      refine K.succ ?_
      simp only [stepQ]
      rw [K.wr (x := (sa.length : Int) + si.length) (by omega) (by omega), K.wr (x := i + 1) (by omega) (by omega)]
      exact K.pos (by omega) (Ev.bind g1 (K.neg Bool.false_ne_true (ih (i + 1) (by omega) (by omega))))
  have loop : ∀ (d : Nat) (i : Int), 0 ≤ i → (sa.length : Int) - i = d → ∃ b : Bool, Ev (fun k => spec_IsQuietSky.l0 k t i pl sa si rc cr vw su sh zo ac) b ∧ Ev (fun k => impl_IsQuietSky.l0 k t (sa.length : Int) i pl sa si rc cr vw su sh zo ac) b := by
    intro d
    induction d with
    | zero =>
      intro i h0 hd
      refine ⟨true, rest si.length i (by omega) (by omega), K.succ ?_⟩
      simp only [impl_IsQuietSky.l0]
      exact K.neg (by omega) (Ev.now _)
    | succ d ih =>
      intro i h0 hd
      obtain ⟨b, g1, g2, _⟩ := disturb pl sa si rc cr vw su sh zo ac hn hz i t
      cases b with
      | true =>
        refine ⟨false, K.succ ?_, K.succ ?_⟩
        · simp only [stepQ]
          rw [K.wr (x := (sa.length : Int) + si.length) (by omega) (by omega)]
          exact K.pos (by omega) (Ev.bind g1 (K.pos rfl (Ev.now _)))
        · simp only [impl_IsQuietSky.l0]
          exact K.pos (by omega) (Ev.bind g2 (K.pos rfl (Ev.now _)))
      | false =>
        obtain ⟨v, e1, e2⟩ := ih (i + 1) (by omega) (by omega)
        refine ⟨v, K.succ ?_, K.succ ?_⟩
        · simp only [stepQ]
          rw [K.wr (x := (sa.length : Int) + si.length) (by omega) (by omega), K.wr (x := i + 1) (by omega) (by omega)]
          exact K.pos (by omega) (Ev.bind g1 (K.neg Bool.false_ne_true e1))
        · simp only [impl_IsQuietSky.l0]
          rw [K.wr (x := i + 1) (by omega) (by omega)]
          exact K.pos (by omega) (Ev.bind g2 (K.neg Bool.false_ne_true e2))
  exact loop sa.length 0 (by omega) (by omega)
end LFnExactIsQuietSky
theorem FnExactIsQuietSky (pl : Int) (sa : List S93) (si : List S95) (rc cr vw su sh : Int) (zo : List S99) (ac : Int) (t : Int) (h1 : sa.length ≤ 9223372036854775807) (h2 : si.length ≤ 9223372036854775807) (h3 : zo.length ≤ 9223372036854775807) : ∃ k, laws_FnExactIsQuietSky.f k pl sa si rc cr vw su sh zo ac t = some true := by
  refine K.rounds (g := fun k => laws_FnExactIsQuietSky.f k pl sa si rc cr vw su sh zo ac t) ?_
  unfold laws_FnExactIsQuietSky.f
  refine K.known (LFnExactIsQuietSky.szSky _ _ _ _ _ _ _ _ _ _ h1 h2 h3) ?_
  by_cases c : (sa.length : Int) + si.length + zo.length ≤ 1048576
  · rw [if_pos c]
    have hn : ((sa.map LFnExactIsQuietSky.cvSat).length : Int) + (si.map LFnExactIsQuietSky.cvSite).length ≤ 4194304 := by simp; omega
    obtain ⟨v, e1, e2⟩ := LFnExactIsQuietSky.quiet pl (sa.map LFnExactIsQuietSky.cvSat) (si.map LFnExactIsQuietSky.cvSite) rc cr vw su sh (zo.map LFnExactIsQuietSky.cvZone) ac hn (by simp; omega) t
    repeat (first | exact Ev.now _ | refine K.pos (by first | exact True.intro | with_reducible rfl | omega) ?_ | refine K.neg (by first | omega | exact Bool.false_ne_true | exact K.nbne _) ?_ | refine Ev.bind (LFnExactIsQuietSky.toSky pl sa si rc cr vw su sh zo ac (by omega) (by omega) (by omega)) ?_ | refine Ev.bind (e1) ?_ | refine Ev.bind (e2) ?_ | refine Ev.bind (LFnExactIsQuietSky.eqSky pl (sa.map LFnExactIsQuietSky.cvSat) (si.map LFnExactIsQuietSky.cvSite) rc cr vw su sh (zo.map LFnExactIsQuietSky.cvZone) ac (by simp; omega) (by simp; omega) (by simp; omega)) ?_)
  · rw [if_neg c]
    exact K.pos (by omega) (Ev.now _)

end Go.Proofs.Ytflngcegkhgocaa.Pure
