/- How surely two nodes see each other is one number in the program and in the reference, for every sky of at most 2^20 parts, any nodes and tick. -/
import Derived.Test.YtflngcegkhgocaaQFnExactSightAtx
import Derived.Test.YtflngcegkhgocaaKKit
namespace Go.Proofs.Ytflngcegkhgocaa.Pure
open Go.RowKit Go.Proofs.Ytflngcegkhgocaa.PFnExactSightAt Go.Proofs.YtflngcegkhgocaaW.PrintWords Go.Proofs.YtflngcegkhgocaaW.PrintLast Go.Proofs.YtflngcegkhgocaaW.PrintMore Go.Proofs.Ytflngcegkhgocaa
set_option linter.unusedSimpArgs false
set_option linter.unusedVariables false
namespace LFnExactSightAt
theorem ob {α β : Type} (a : α) (f : α → Option β) : (some a).bind f = f a := rfl

def cvSat (x : S93) : S70 := ⟨x.f0, x.f1, x.f2, x.f3⟩
theorem toSatS (l : List S93) (hl : l.length ≤ 1048576) : Ev (fun k => laws_toSatS.f k l) (l.map cvSat) := by
 unfold laws_toSatS.f
 refine K.pos (by omega) (K.pos (by omega) ?_)
 refine K.fill (fun k xs i => laws_toSatS.l0 k l xs i) (l.map cvSat) (by simpa using hl) ?_ ?_ l.length _ 0 (by omega) (by simp) (by simp) (by intro j hj; omega)
 ·intro k xs i hi
  simp only [List.length_map] at hi
  simp only [laws_toSatS.l0]
  rw [if_neg hi]
 ·intro k xs i y h0 hi hx hy
  simp only [List.length_map] at hi hx
  simp only [laws_toSatS.l0, laws_toSat.f, ob]
  rw [if_pos hi, if_pos h0, if_pos (by omega), K.wr (x := i + 1) (by omega) (by omega)]
  have hg : l[i.toNat]? = some (l[i.toNat]'(by omega)) := List.getElem?_eq_getElem (by omega)
  rw [List.getElem?_map, hg, Option.map_some] at hy
  obtain rfl := Option.some.inj hy
  have hr : rd_T93 l i = l[i.toNat]'(by omega) := by
   simp only [rd_T93, List.getD_eq_getElem?_getD, hg, Option.getD_some]
  rw [hr]
  rfl
theorem szSatS (l : List S93) (left : Int) (h0 : 0 ≤ left) (h1 : left ≤ 1048576) (hm : l.length ≤ 9223372036854775807) : laws_szSatS.f l left = some (if (l.length : Int) ≤ left then left - l.length else -1) := by
 unfold laws_szSatS.f
 rw [K.wr (by omega) (by omega)]
 split <;> split <;> first | rfl | omega


def cvSite (x : S95) : S72 := ⟨x.f0, x.f1, x.f2⟩
theorem toSiteS (l : List S95) (hl : l.length ≤ 1048576) : Ev (fun k => laws_toSiteS.f k l) (l.map cvSite) := by
 unfold laws_toSiteS.f
 refine K.pos (by omega) (K.pos (by omega) ?_)
 refine K.fill (fun k xs i => laws_toSiteS.l0 k l xs i) (l.map cvSite) (by simpa using hl) ?_ ?_ l.length _ 0 (by omega) (by simp) (by simp) (by intro j hj; omega)
 ·intro k xs i hi
  simp only [List.length_map] at hi
  simp only [laws_toSiteS.l0]
  rw [if_neg hi]
 ·intro k xs i y h0 hi hx hy
  simp only [List.length_map] at hi hx
  simp only [laws_toSiteS.l0, laws_toSite.f, ob]
  rw [if_pos hi, if_pos h0, if_pos (by omega), K.wr (x := i + 1) (by omega) (by omega)]
  have hg : l[i.toNat]? = some (l[i.toNat]'(by omega)) := List.getElem?_eq_getElem (by omega)
  rw [List.getElem?_map, hg, Option.map_some] at hy
  obtain rfl := Option.some.inj hy
  have hr : rd_T95 l i = l[i.toNat]'(by omega) := by
   simp only [rd_T95, List.getD_eq_getElem?_getD, hg, Option.getD_some]
  rw [hr]
  rfl
theorem szSiteS (l : List S95) (left : Int) (h0 : 0 ≤ left) (h1 : left ≤ 1048576) (hm : l.length ≤ 9223372036854775807) : laws_szSiteS.f l left = some (if (l.length : Int) ≤ left then left - l.length else -1) := by
 unfold laws_szSiteS.f
 rw [K.wr (by omega) (by omega)]
 split <;> split <;> first | rfl | omega


theorem eqSatS (l : List S70) (hl : l.length ≤ 67108864) : Ev (fun k => laws_eqSatS.f k l l) true := by
 unfold laws_eqSatS.f
 refine K.pos rfl ?_
 refine K.all (n := l.length) (fun k i => laws_eqSatS.l0 k l l i) ?_ ?_ l.length 0 (by omega) (by omega)
 ·intro k i hi
  simp only [laws_eqSatS.l0]
  rw [if_neg hi]
 ·intro k i h0 hi
  simp only [laws_eqSatS.l0, laws_eqSat.f, ↓reduceIte, ob]
  rw [if_pos hi, if_pos h0, if_pos hi, K.wr (x := i + 1) (by omega) (by omega)]


theorem eqSiteS (l : List S72) (hl : l.length ≤ 67108864) : Ev (fun k => laws_eqSiteS.f k l l) true := by
 unfold laws_eqSiteS.f
 refine K.pos rfl ?_
 refine K.all (n := l.length) (fun k i => laws_eqSiteS.l0 k l l i) ?_ ?_ l.length 0 (by omega) (by omega)
 ·intro k i hi
  simp only [laws_eqSiteS.l0]
  rw [if_neg hi]
 ·intro k i h0 hi
  simp only [laws_eqSiteS.l0, laws_eqSite.f, ↓reduceIte, ob]
  rw [if_pos hi, if_pos h0, if_pos hi, K.wr (x := i + 1) (by omega) (by omega)]

def cvZone (x : S99) : S83 := ⟨x.f0, ⟨x.f1.f0, x.f1.f1⟩⟩
theorem toZoneS (l : List S99) (hl : l.length ≤ 1048576) : Ev (fun k => laws_toZoneS.f k l) (l.map cvZone) := by
 unfold laws_toZoneS.f
 refine K.pos (by omega) (K.pos (by omega) ?_)
 refine K.fill (fun k xs i => laws_toZoneS.l0 k l xs i) (l.map cvZone) (by simpa using hl) ?_ ?_ l.length _ 0 (by omega) (by simp) (by simp) (by intro j hj; omega)
 ·intro k xs i hi
  simp only [List.length_map] at hi
  simp only [laws_toZoneS.l0]
  rw [if_neg hi]
 ·intro k xs i y h0 hi hx hy
  simp only [List.length_map] at hi hx
  simp only [laws_toZoneS.l0, laws_toZone.f, laws_toArc.f, ob]
  rw [if_pos hi, if_pos h0, if_pos (by omega), K.wr (x := i + 1) (by omega) (by omega)]
  have hg : l[i.toNat]? = some (l[i.toNat]'(by omega)) := List.getElem?_eq_getElem (by omega)
  rw [List.getElem?_map, hg, Option.map_some] at hy
  obtain rfl := Option.some.inj hy
  have hr : rd_T99 l i = l[i.toNat]'(by omega) := by
   simp only [rd_T99, List.getD_eq_getElem?_getD, hg, Option.getD_some]
  rw [hr]
  rfl
theorem szZoneS (l : List S99) (left : Int) (h0 : 0 ≤ left) (h1 : left ≤ 1048576) (hm : l.length ≤ 9223372036854775807) : laws_szZoneS.f l left = some (if (l.length : Int) ≤ left then left - l.length else -1) := by
 unfold laws_szZoneS.f
 rw [K.wr (by omega) (by omega)]
 split <;> split <;> first | rfl | omega
theorem eqZoneS (l : List S83) (hl : l.length ≤ 67108864) : Ev (fun k => laws_eqZoneS.f k l l) true := by
 unfold laws_eqZoneS.f
 refine K.pos rfl ?_
 refine K.all (n := l.length) (fun k i => laws_eqZoneS.l0 k l l i) ?_ ?_ l.length 0 (by omega) (by omega)
 ·intro k i hi
  simp only [laws_eqZoneS.l0]
  rw [if_neg hi]
 ·intro k i h0 hi
  simp only [laws_eqZoneS.l0, laws_eqZone.f, laws_eqArc.f, ↓reduceIte, ob]
  rw [if_pos hi, if_pos h0, if_pos hi, K.wr (x := i + 1) (by omega) (by omega)]
theorem szSky (pl : Int) (sa : List S93) (si : List S95) (rc cr vw su sh : Int) (zo : List S99) (ac : Int) (h1 : sa.length ≤ 9223372036854775807) (h2 : si.length ≤ 9223372036854775807) (h3 : zo.length ≤ 9223372036854775807) :
  laws_szSky.f pl sa si rc cr vw su sh zo ac 1048576 = some (if (sa.length : Int) + si.length + zo.length ≤ 1048576 then (1048576 : Int) - sa.length - si.length - zo.length else (-1 : Int)) := by
 unfold laws_szSky.f
 rw [szSatS sa 1048576 (by omega) (by omega) h1]
 simp only [ob]
 by_cases c1 : (sa.length : Int) ≤ 1048576
 ·rw [if_pos c1, if_neg (by omega), szSiteS si _ (by omega) (by omega) h2]
  simp only [ob]
  by_cases c2 : (si.length : Int) ≤ 1048576 - sa.length
  ·rw [if_pos c2, if_neg (by omega), szZoneS zo _ (by omega) (by omega) h3]
   simp only [ob]
   by_cases c3 : (zo.length : Int) ≤ 1048576 - sa.length - si.length
   ·rw [if_pos c3, if_neg (by omega), if_pos (by omega)]
   ·rw [if_neg c3, if_pos (by omega), if_neg (by omega)]
  ·rw [if_neg c2, if_pos (by omega), if_neg (by omega)]
 ·rw [if_neg c1, if_pos (by omega), if_neg (by omega)]
theorem toSky (pl : Int) (sa : List S93) (si : List S95) (rc cr vw su sh : Int) (zo : List S99) (ac : Int) (h1 : sa.length ≤ 1048576) (h2 : si.length ≤ 1048576) (h3 : zo.length ≤ 1048576) :
  Ev (fun k => laws_toSky.f k pl sa si rc cr vw su sh zo ac) (pl, sa.map cvSat, si.map cvSite, rc, cr, vw, su, sh, zo.map cvZone, ac) := by
 unfold laws_toSky.f
 exact Ev.bind (toSatS sa h1) (Ev.bind (toSiteS si h2) (Ev.bind (toZoneS zo h3) (Ev.now _)))
theorem eqSky (pl : Int) (sa : List S70) (si : List S72) (rc cr vw su sh : Int) (zo : List S83) (ac : Int) (h1 : sa.length ≤ 1048576) (h2 : si.length ≤ 1048576) (h3 : zo.length ≤ 1048576) : Ev (fun k => laws_eqSky.f k pl sa si rc cr vw su sh zo ac pl sa si rc cr vw su sh zo ac) true := by
 unfold laws_eqSky.f
 exact K.pos rfl (Ev.bind (eqSatS sa (by omega)) (K.pos rfl (Ev.bind (eqSiteS si (by omega)) (K.pos rfl (K.pos rfl (K.pos rfl (K.pos rfl (K.pos rfl (K.pos rfl (Ev.bind (eqZoneS zo (by omega)) (K.pos rfl (K.pos rfl (Ev.now _)))))))))))))
theorem l1In (a b c : Int) : spec_l1In.f a b c = some (decide (b ≤ a ∧ a ≤ c)) := by
 unfold spec_l1In.f
 split <;> (try split) <;> first | rfl | (congr 1; exact decide_eq_decide.2 (by omega)) | (congr 1; exact (decide_eq_false (by omega)).symm)
theorem InRange (a b c : Int) : impl_InRange.f a b c = some (decide (b ≤ a ∧ a ≤ c)) := by
 unfold impl_InRange.f
 split <;> (try split) <;> first | rfl | (congr 1; exact decide_eq_decide.2 (by omega)) | (congr 1; exact (decide_eq_false (by omega)).symm)
theorem sIsSite (pl : Int) (sa : List S70) (si : List S72) (rc cr vw su sh : Int) (zo : List S83) (ac : Int) (hn : (sa.length : Int) + si.length ≤ 4194304) (i : Int) : spec_IsSite.f pl sa si rc cr vw su sh zo ac i = some (decide ((sa.length : Int) ≤ i ∧ i < (sa.length : Int) + si.length)) := by
 unfold spec_IsSite.f spec_NodesOf.f
 simp only [ob, l1In]
 rw [K.wr (x := (sa.length : Int) + si.length) (by omega) (by omega), K.wr (by omega) (by omega)]
 congr 1
 exact decide_eq_decide.2 (by omega)
theorem iIsSite (pl : Int) (sa : List S70) (si : List S72) (rc cr vw su sh : Int) (zo : List S83) (ac : Int) (hn : (sa.length : Int) + si.length ≤ 4194304) (i : Int) : impl_IsSite.f pl sa si rc cr vw su sh zo ac i = some (decide ((sa.length : Int) ≤ i ∧ i < (sa.length : Int) + si.length)) := by
 unfold impl_IsSite.f impl_NodesOf.f
 simp only [ob, InRange]
 rw [K.wr (x := (sa.length : Int) + si.length) (by omega) (by omega), K.wr (by omega) (by omega)]
 congr 1
 exact decide_eq_decide.2 (by omega)
theorem iIsSat (pl : Int) (sa : List S70) (si : List S72) (rc cr vw su sh : Int) (zo : List S83) (ac : Int) (hn : (sa.length : Int) + si.length ≤ 4194304) (i : Int) : impl_isSatellite.f pl sa si rc cr vw su sh zo ac i = some (decide (0 ≤ i ∧ i < (sa.length : Int))) := by
 unfold impl_isSatellite.f
 simp only [ob, InRange]
 rw [K.wr (by omega) (by omega)]
 congr 1
 exact decide_eq_decide.2 (by omega)
theorem sIsSat (sa : List S70) (hn : (sa.length : Int) ≤ 4194304) (i : Int) : spec_l1In.f i 0 (wrap64 ((sa.length : Int) - 1)) = some (decide (0 ≤ i ∧ i < (sa.length : Int))) := by
 rw [l1In, K.wr (by omega) (by omega)]
 congr 1
 exact decide_eq_decide.2 (by omega)
theorem sAngle (n : Int) : spec_AngleOf.f n = some (n % 360) := by
 unfold spec_AngleOf.f spec_Mod.f
 have e : decide ((1 : Int) ≤ 360 ∧ (360 : Int) ≤ 1000000000000) = true := by decide
 simp only [l1In, e, ob, ↓reduceIte]
 rw [if_neg (by omega)]
 have h := Int.tmod_eq_emod (a := n) (b := 360)
 have hb : -360 < Int.tmod n 360 ∧ Int.tmod n 360 < 360 := by
  rw [h]
  split <;> omega
 rw [K.wr (by omega) (by omega), Int.tmod_eq_emod_of_nonneg (by omega)]
 simp only [ob]
 congr 1
 rw [h]
 split <;> omega
theorem iAngle (n : Int) : impl_AngleOf.f n = some (n % 360) := by
 unfold impl_AngleOf.f impl_Mod.f
 have e : decide ((1 : Int) ≤ 360 ∧ (360 : Int) ≤ 1000000000000) = true := by decide
 simp only [InRange, e, ob, ↓reduceIte]
 rw [if_neg (by omega)]
 have h := Int.tmod_eq_emod (a := n) (b := 360)
 have hb : -360 < Int.tmod n 360 ∧ Int.tmod n 360 < 360 := by
  rw [h]
  split <;> omega
 have hd : (360 : Int) ∣ n → Int.tmod n 360 = n % 360 := by
  intro hd
  rw [h, if_pos (Or.inr hd)]
  simp
 by_cases c : Int.tmod n 360 < 0
 ·rw [if_pos c, K.wr (by omega) (by omega)]
  simp only [ob]
  congr 1
  rw [h] at c ⊢
  split at c <;> split <;> omega
 ·rw [if_neg c]
  simp only [ob]
  congr 1
  rw [h] at c ⊢
  split at c <;> split <;> omega
def placeV (ph sp t : Int) : Int := (ph % 360 + (if -60 ≤ sp ∧ sp ≤ 60 then sp else 0) * (if 0 ≤ t ∧ t ≤ 1000 then t else 0)) % 360
theorem place_bd (s t : Int) (hs : -60 ≤ s ∧ s ≤ 60) (ht : 0 ≤ t ∧ t ≤ 1000) : -60000 ≤ s * t ∧ s * t ≤ 60000 := by
 have h1 : s * t ≤ 60 * t := Int.mul_le_mul_of_nonneg_right hs.2 ht.1
 have h2 : -60 * t ≤ s * t := Int.mul_le_mul_of_nonneg_right hs.1 ht.1
 omega
theorem sPlace (a ph sp e t : Int) : spec_PlaceAt.f a ph sp e t = some (placeV ph sp t) := by
 unfold spec_PlaceAt.f placeV spec_l6Speed.f
 simp only [l1In, sAngle, ob, decide_eq_true_eq]
 by_cases ct : 0 ≤ t ∧ t ≤ 1000
 ·rw [if_pos ct]
  by_cases cs : -60 ≤ sp ∧ sp ≤ 60
  ·have := place_bd sp t cs ct
   rw [if_pos cs]
   simp only [ob, if_pos ct, if_pos cs]
   rw [K.wr (x := sp * t) (by omega) (by omega), K.wr (by omega) (by omega)]
  ·rw [if_neg cs]
   simp only [ob, if_pos ct, if_neg cs]
   rw [K.wr (x := 0 * t) (by omega) (by omega), K.wr (by omega) (by omega)]
 ·rw [if_neg ct]
  by_cases cs : -60 ≤ sp ∧ sp ≤ 60
  ·rw [if_pos cs]
   simp only [ob, if_neg ct]
   rw [K.wr (by omega) (by omega), Int.mul_zero, Int.add_zero]
  ·rw [if_neg cs]
   simp only [ob, if_neg ct]
   rw [K.wr (by omega) (by omega), Int.mul_zero, Int.add_zero]
theorem iPlace (a ph sp e t : Int) : impl_PlaceAt.f a ph sp e t = some (placeV ph sp t) := by
 unfold impl_PlaceAt.f placeV impl_speedOf.f
 simp only [InRange, iAngle, ob, decide_eq_true_eq]
 by_cases ct : 0 ≤ t ∧ t ≤ 1000
 ·rw [if_pos ct]
  by_cases cs : -60 ≤ sp ∧ sp ≤ 60
  ·have := place_bd sp t cs ct
   rw [if_pos cs]
   simp only [ob, if_pos ct, if_pos cs]
   rw [K.wr (x := sp * t) (by omega) (by omega), K.wr (by omega) (by omega)]
  ·rw [if_neg cs]
   simp only [ob, if_pos ct, if_neg cs]
   rw [K.wr (x := 0 * t) (by omega) (by omega), K.wr (by omega) (by omega)]
 ·rw [if_neg ct]
  by_cases cs : -60 ≤ sp ∧ sp ≤ 60
  ·rw [if_pos cs]
   simp only [ob, if_neg ct]
   rw [K.wr (by omega) (by omega), Int.mul_zero, Int.add_zero]
  ·rw [if_neg cs]
   simp only [ob, if_neg ct]
   rw [K.wr (by omega) (by omega), Int.mul_zero, Int.add_zero]
theorem place_range (ph sp t : Int) : 0 ≤ placeV ph sp t ∧ placeV ph sp t < 360 := by unfold placeV; omega
theorem sMin (a b : Int) : spec_Min.f a b = some (mn a b) := by
 unfold spec_Min.f mn
 split <;> rfl
theorem iWidth (n : Int) : impl_isWidth.f n = some (decide (0 ≤ n ∧ n ≤ 359)) := by
 unfold impl_isWidth.f
 simp only [InRange, ob]
/-- The arc about a place, as wide as an error says: its start and its width. -/
def widS (p e : Int) : Int := if 0 ≤ e ∧ e ≤ 360 then (p % 360 - e) % 360 else p % 360
def widW (e : Int) : Int := if 0 ≤ e ∧ e ≤ 360 then mn (2 * e) 359 else 0
theorem sWiden (p e : Int) : Ev (fun k => spec_WidenArc.f k p 0 e) (widS p e, widW e) := by
 unfold spec_WidenArc.f widS widW
 have e0 : decide ((0 : Int) ≤ 0 ∧ (0 : Int) ≤ 359) = true := by decide
 simp only [l1In, e0, ob, decide_eq_true_eq]
 by_cases c : 0 ≤ e ∧ e ≤ 360
 ·rw [if_pos c, if_pos c]
  refine K.pos c (K.succ ?_)
  simp only [spec_WidenArc.j0, sAngle, sMin, ob]
  refine K.neg (by decide) ?_
  rw [K.wr (x := p % 360 - e) (by omega) (by omega), K.wr (x := 2 * e) (by omega) (by omega), Int.zero_add, K.wr (x := 2 * e) (by omega) (by omega)]
  have hm : mn 359 (2 * e) = mn (2 * e) 359 := by unfold mn; split <;> split <;> omega
  rw [hm]
  exact Ev.now _
 ·rw [if_neg c, if_neg c]
  refine K.neg c (K.succ ?_)
  simp only [spec_WidenArc.j0, sAngle, ob]
  exact K.pos (by trivial) (Ev.now _)
theorem iWiden (p e : Int) : impl_WidenArc.f p 0 e = some (widS p e, widW e) := by
 unfold impl_WidenArc.f widS widW
 have e0 : decide ((0 : Int) ≤ 0 ∧ (0 : Int) ≤ 359) = true := by decide
 simp only [InRange, iWidth, iAngle, e0, ob, decide_eq_true_eq, ↓reduceIte]
 by_cases c : 0 ≤ e ∧ e ≤ 360
 ·rw [if_pos c, if_pos c, if_pos c, K.wr (x := p % 360 - e) (by omega) (by omega), K.wr (x := 2 * e) (by omega) (by omega), Int.zero_add, K.wr (x := 2 * e) (by omega) (by omega)]
 ·rw [if_neg c, if_neg c, if_neg c]
theorem wid_range (p e : Int) : 0 ≤ widS p e ∧ widS p e < 360 ∧ 0 ≤ widW e ∧ widW e ≤ 359 := by
 unfold widS widW mn
 split <;> (try split) <;> omega
def nodeS (sa : List S70) (si : List S72) (i t : Int) : Int :=
 if 0 ≤ i ∧ i < (sa.length : Int) then widS (placeV (rd_T70 sa i).f1 (rd_T70 sa i).f2 t) (rd_T70 sa i).f3 else if (sa.length : Int) ≤ i ∧ i < (sa.length : Int) + si.length then placeV (rd_T72 si (i - sa.length)).f1 (rd_T72 si (i - sa.length)).f2 t else 0
def nodeW (sa : List S70) (i : Int) : Int :=
 if 0 ≤ i ∧ i < (sa.length : Int) then widW (rd_T70 sa i).f3 else 0
theorem sNode (pl : Int) (sa : List S70) (si : List S72) (rc cr vw su sh : Int) (zo : List S83) (ac : Int) (hn : (sa.length : Int) + si.length ≤ 4194304) (i t : Int) : Ev (fun k => spec_NodeAt.f k pl sa si rc cr vw su sh zo ac i t) (nodeS sa si i t, nodeW sa i) := by
 unfold spec_NodeAt.f nodeS nodeW
 simp only [sIsSat sa (by omega), sIsSite _ _ _ _ _ _ _ _ _ _ hn, ob, decide_eq_true_eq]
 by_cases c : 0 ≤ i ∧ i < (sa.length : Int)
 ·rw [if_pos c, if_pos c]
  refine K.pos c (K.pos c.1 (K.pos c.2 ?_))
  unfold spec_PlacesAt.f
  simp only [sPlace, ob]
  exact Ev.bind (Ev.bind (sWiden _ _) (Ev.now _)) (Ev.now _)
 ·rw [if_neg c, if_neg c]
  refine K.neg c ?_
  by_cases c2 : (sa.length : Int) ≤ i ∧ i < (sa.length : Int) + si.length
  ·simp only [if_pos c2, sPlace, ob]
   rw [K.wr (x := i - sa.length) (by omega) (by omega), if_pos (by omega), if_pos (by omega)]
   exact Ev.now _
  ·simp only [if_neg c2]
   exact Ev.now _
theorem iNode (pl : Int) (sa : List S70) (si : List S72) (rc cr vw su sh : Int) (zo : List S83) (ac : Int) (hn : (sa.length : Int) + si.length ≤ 4194304) (i t : Int) : impl_NodeAt.f pl sa si rc cr vw su sh zo ac i t = some (nodeS sa si i t, nodeW sa i) := by
 unfold impl_NodeAt.f nodeS nodeW impl_PlacesAt.f
 simp only [iIsSat _ _ _ _ _ _ _ _ _ _ hn, iIsSite _ _ _ _ _ _ _ _ _ _ hn, iPlace, iWiden, ob, decide_eq_true_eq]
 by_cases c : 0 ≤ i ∧ i < (sa.length : Int)
 ·rw [if_pos c, if_pos c, if_pos c.1, if_pos c.2, if_pos c]
 ·rw [if_neg c, if_neg c, if_neg c]
  by_cases c2 : (sa.length : Int) ≤ i ∧ i < (sa.length : Int) + si.length
  ·rw [if_pos c2, if_pos c2, K.wr (x := i - sa.length) (by omega) (by omega), if_pos (by omega), if_pos (by omega)]
  ·rw [if_neg c2, if_neg c2]
theorem node_range (sa : List S70) (si : List S72) (i t : Int) : 0 ≤ nodeS sa si i t ∧ nodeS sa si i t < 360 ∧ 0 ≤ nodeW sa i ∧ nodeW sa i ≤ 359 := by
 have h1 := wid_range (placeV (rd_T70 sa i).f1 (rd_T70 sa i).f2 t) (rd_T70 sa i).f3
 have h2 := place_range (rd_T72 si (i - sa.length)).f1 (rd_T72 si (i - sa.length)).f2 t
 unfold nodeS nodeW
 split
 ·exact h1
 ·split <;> omega
def planeV (sa : List S70) (si : List S72) (i : Int) : Int :=
 if 0 ≤ i ∧ i < (sa.length : Int) then (rd_T70 sa i).f0 else if (sa.length : Int) ≤ i ∧ i < (sa.length : Int) + si.length then (rd_T72 si (i - sa.length)).f0 else -1
theorem sPlane (pl : Int) (sa : List S70) (si : List S72) (rc cr vw su sh : Int) (zo : List S83) (ac : Int) (hn : (sa.length : Int) + si.length ≤ 4194304) (i : Int) : spec_PlaneOf.f pl sa si rc cr vw su sh zo ac i = some (planeV sa si i) := by
 unfold spec_PlaneOf.f planeV
 simp only [sIsSat sa (by omega), sIsSite _ _ _ _ _ _ _ _ _ _ hn, ob, decide_eq_true_eq]
 by_cases c : 0 ≤ i ∧ i < (sa.length : Int)
 ·rw [if_pos c, if_pos c, if_pos c.1, if_pos c.2]
 ·rw [if_neg c, if_neg c]
  by_cases c2 : (sa.length : Int) ≤ i ∧ i < (sa.length : Int) + si.length
  ·rw [if_pos c2, if_pos c2, K.wr (x := i - sa.length) (by omega) (by omega), if_pos (by omega), if_pos (by omega)]
  ·rw [if_neg c2, if_neg c2]
theorem iPlane (pl : Int) (sa : List S70) (si : List S72) (rc cr vw su sh : Int) (zo : List S83) (ac : Int) (hn : (sa.length : Int) + si.length ≤ 4194304) (i : Int) : impl_PlaneOf.f pl sa si rc cr vw su sh zo ac i = some (planeV sa si i) := by
 unfold impl_PlaneOf.f planeV
 simp only [iIsSat _ _ _ _ _ _ _ _ _ _ hn, iIsSite _ _ _ _ _ _ _ _ _ _ hn, ob, decide_eq_true_eq]
 by_cases c : 0 ≤ i ∧ i < (sa.length : Int)
 ·rw [if_pos c, if_pos c, if_pos c.1, if_pos c.2]
 ·rw [if_neg c, if_neg c]
  by_cases c2 : (sa.length : Int) ≤ i ∧ i < (sa.length : Int) + si.length
  ·rw [if_pos c2, if_pos c2, K.wr (x := i - sa.length) (by omega) (by omega), if_pos (by omega), if_pos (by omega)]
  ·rw [if_neg c2, if_neg c2]
theorem sMax (a b : Int) : spec_Max.f a b = some (mx a b) := by
 unfold spec_Max.f mx
 split <;> first | rfl | (split <;> first | rfl | (exfalso; omega))
def nearV (pl p q : Int) : Bool := decide (0 ≤ mn p q ∧ mn p q < mx p q ∧ (mx p q - mn p q = 1 ∨ mn p q = 0 ∧ mx p q ≤ 4 ∧ mx p q + 1 = pl))
theorem sNear (pl : Int) (sa : List S70) (si : List S72) (rc cr vw su sh : Int) (zo : List S83) (ac : Int) (p q : Int) (hp0 : -9223372036854775808 ≤ p) (hp1 : p ≤ 9223372036854775807) (hq0 : -9223372036854775808 ≤ q) (hq1 : q ≤ 9223372036854775807) : spec_l7Near.f pl sa si rc cr vw su sh zo ac p q = some (nearV pl p q) := by
 unfold spec_l7Near.f nearV
 simp only [sMin, sMax, ob]
 have hm : -9223372036854775808 ≤ mn p q ∧ mn p q ≤ 9223372036854775807 := by unfold mn; split <;> omega
 have hx : -9223372036854775808 ≤ mx p q ∧ mx p q ≤ 9223372036854775807 := by unfold mx; split <;> omega
 generalize mn p q = lo at hm ⊢
 generalize mx p q = hi at hx ⊢
 by_cases c1 : lo ≥ 0
 ·rw [if_pos c1]
  by_cases c2 : hi > lo
  ·rw [if_pos c2, K.wr (x := hi - lo) (by omega) (by omega)]
   by_cases c3 : hi - lo = 1
   ·rw [if_pos c3]
    congr 1
    exact (decide_eq_true (by omega)).symm
   ·rw [if_neg c3]
    by_cases c4 : lo = 0
    ·rw [if_pos c4]
     by_cases c5 : hi ≤ 4
     ·rw [if_pos c5, K.wr (x := hi + 1) (by omega) (by omega)]
      congr 1
      by_cases c6 : hi + 1 = pl
      ·rw [beq_iff_eq.2 c6]
       exact (decide_eq_true (by omega)).symm
      ·rw [beq_eq_false_iff_ne.2 c6]
       exact (decide_eq_false (by omega)).symm
     ·rw [if_neg c5]
      congr 1
      exact (decide_eq_false (by omega)).symm
    ·rw [if_neg c4]
     congr 1
     exact (decide_eq_false (by omega)).symm
  ·rw [if_neg c2]
   congr 1
   exact (decide_eq_false (by omega)).symm
 ·rw [if_neg c1]
  congr 1
  exact (decide_eq_false (by omega)).symm
/-- The program's neighbors, the less plane first. -/
theorem near_side (pl lo hi : Int) (hle : lo ≤ hi) (hl0 : -9223372036854775808 ≤ lo) (hh1 : hi ≤ 9223372036854775807) (hpl0 : -9223372036854775808 ≤ pl) (hpl1 : pl ≤ 9223372036854775807) :
  (if lo ≥ 0 then (if (wrap64 (hi - lo)) = 1 then (some true) else (if lo = 0 then (if hi = (wrap64 (pl - 1)) then ((impl_InRange.f hi 1 4).bind fun t => (some t)) else (some false)) else (some false))) else (if lo = 0 then (if hi = (wrap64 (pl - 1)) then ((impl_InRange.f hi 1 4).bind fun t => (some t)) else (some false)) else (some false)))
   = some (decide (0 ≤ lo ∧ lo < hi ∧ (hi - lo = 1 ∨ lo = 0 ∧ hi ≤ 4 ∧ hi + 1 = pl))) := by
 simp only [InRange, ob]
 by_cases c1 : lo ≥ 0
 ·rw [if_pos c1, K.wr (x := hi - lo) (by omega) (by omega)]
  by_cases c3 : hi - lo = 1
  ·rw [if_pos c3]
   congr 1
   exact (decide_eq_true (by omega)).symm
  ·rw [if_neg c3]
   by_cases c4 : lo = 0
   ·rw [if_pos c4]
    by_cases cm : pl = -9223372036854775808
    ·have : wrap64 (pl - 1) = 9223372036854775807 := by
      rw [cm]
      unfold wrap64
      omega
     rw [this]
     by_cases c5 : hi = 9223372036854775807
     ·rw [if_pos c5]
      congr 1
      exact (decide_eq_false (by omega)).trans (decide_eq_false (by omega)).symm
     ·rw [if_neg c5]
      congr 1
      exact (decide_eq_false (by omega)).symm
    ·rw [K.wr (x := pl - 1) (by omega) (by omega)]
     by_cases c5 : hi = pl - 1
     ·rw [if_pos c5]
      congr 1
      exact decide_eq_decide.2 (by omega)
     ·rw [if_neg c5]
      congr 1
      exact (decide_eq_false (by omega)).symm
   ·rw [if_neg c4]
    congr 1
    exact (decide_eq_false (by omega)).symm
 ·rw [if_neg c1, if_neg (by omega)]
  congr 1
  exact (decide_eq_false (by omega)).symm
theorem iNear (pl : Int) (sa : List S70) (si : List S72) (rc cr vw su sh : Int) (zo : List S83) (ac : Int) (hpl0 : -9223372036854775808 ≤ pl) (hpl1 : pl ≤ 9223372036854775807) (p q : Int) (hp0 : -9223372036854775808 ≤ p) (hp1 : p ≤ 9223372036854775807) (hq0 : -9223372036854775808 ≤ q) (hq1 : q ≤ 9223372036854775807) : impl_areNeighbors.f pl sa si rc cr vw su sh zo ac p q = some (nearV pl p q) := by
 unfold impl_areNeighbors.f nearV mn mx
 by_cases c : p > q
 ·rw [if_pos c, near_side pl q p (by omega) hq0 hp1 hpl0 hpl1, if_pos (by omega), if_neg (by omega)]
 ·rw [if_neg c, near_side pl p q (by omega) hp0 hq1 hpl0 hpl1, if_neg (by omega)]
  by_cases c2 : p < q
  ·rw [if_pos c2]
  ·have : p = q := by omega
   subst this
   rw [if_neg c2]
theorem plane_wf (sa : List S70) (si : List S72) (h1 : ∀ x ∈ sa, -9223372036854775808 ≤ x.f0 ∧ x.f0 ≤ 9223372036854775807) (h2 : ∀ x ∈ si, -9223372036854775808 ≤ x.f0 ∧ x.f0 ≤ 9223372036854775807) (i : Int) :
  -9223372036854775808 ≤ planeV sa si i ∧ planeV sa si i ≤ 9223372036854775807 := by
 unfold planeV
 split
 ·rename_i h
  have hg : sa[i.toNat]? = some (sa[i.toNat]'(by omega)) := List.getElem?_eq_getElem (by omega)
  have : rd_T70 sa i = sa[i.toNat]'(by omega) := by simp only [rd_T70, List.getD_eq_getElem?_getD, hg, Option.getD_some]
  rw [this]
  exact h1 _ (List.getElem_mem _)
 ·split
  ·rename_i h
   have hg : si[(i - sa.length).toNat]? = some (si[(i - sa.length).toNat]'(by omega)) := List.getElem?_eq_getElem (by omega)
   have : rd_T72 si (i - sa.length) = si[(i - sa.length).toNat]'(by omega) := by simp only [rd_T72, List.getD_eq_getElem?_getD, hg, Option.getD_some]
   rw [this]
   exact h2 _ (List.getElem_mem _)
  ·omega
/-- What both come to. -/
def limV (pl : Int) (sa : List S70) (si : List S72) (rc cr vw a b : Int) : Int :=
 if a = b ∨ ¬ (0 ≤ a ∧ a < (sa.length : Int) + si.length) ∨ ¬ (0 ≤ b ∧ b < (sa.length : Int) + si.length) ∨ ((sa.length : Int) ≤ a ∧ (sa.length : Int) ≤ b) then -1
 else if (sa.length : Int) ≤ a ∨ (sa.length : Int) ≤ b then (if planeV sa si a = planeV sa si b ∨ nearV pl (planeV sa si a) (planeV sa si b) = true then vw else -1)
 else if planeV sa si a = planeV sa si b then rc else if nearV pl (planeV sa si a) (planeV sa si b) = true then cr else -1
theorem sLimit (pl : Int) (sa : List S70) (si : List S72) (rc cr vw su sh : Int) (zo : List S83) (ac : Int) (hn : (sa.length : Int) + si.length ≤ 4194304) (h1 : ∀ x ∈ sa, -9223372036854775808 ≤ x.f0 ∧ x.f0 ≤ 9223372036854775807) (h2 : ∀ x ∈ si, -9223372036854775808 ≤ x.f0 ∧ x.f0 ≤ 9223372036854775807) (a b : Int) :
  Ev (fun k => spec_LimitOf.f k pl sa si rc cr vw su sh zo ac a b) (limV pl sa si rc cr vw a b) := by
 have hp := plane_wf sa si h1 h2 a
 have hq := plane_wf sa si h1 h2 b
 have hend : ∀ v, v = -1 → Ev (fun k => spec_LimitOf.j0 k a b true pl sa si rc cr vw su sh zo ac) v := by
  intro v hv
  subst hv
  refine K.succ ?_
  simp only [spec_LimitOf.j0]
  exact K.pos (by trivial) (Ev.now _)
 unfold spec_LimitOf.f spec_NodesOf.f
 simp only [ob, l1In, sIsSite _ _ _ _ _ _ _ _ _ _ hn, decide_eq_true_eq]
 rw [K.wr (x := (sa.length : Int) + si.length) (by omega) (by omega), K.wr (x := (sa.length : Int) + si.length - 1) (by omega) (by omega)]
 by_cases ca : 0 ≤ a ∧ a < (sa.length : Int) + si.length
 ·refine K.pos (by omega) ?_
  by_cases cb : 0 ≤ b ∧ b < (sa.length : Int) + si.length
  ·refine K.pos (by omega) ?_
   by_cases ce : a = b
   ·exact K.pos ce (hend _ (by unfold limV; rw [if_pos (Or.inl ce)]))
   ·refine K.neg ce ?_
    by_cases sa_ : (sa.length : Int) ≤ a
    ·refine K.pos (by omega) ?_
     by_cases sb_ : (sa.length : Int) ≤ b
     ·rw [show decide ((sa.length : Int) ≤ b ∧ b < (sa.length : Int) + si.length) = true from decide_eq_true (by omega)]
      exact hend _ (by unfold limV; rw [if_pos (Or.inr (Or.inr (Or.inr ⟨sa_, sb_⟩)))])
     ·rw [show decide ((sa.length : Int) ≤ b ∧ b < (sa.length : Int) + si.length) = false from decide_eq_false (by omega)]
      refine K.succ ?_
      simp only [spec_LimitOf.j0, sPlane _ _ _ _ _ _ _ _ _ _ hn, sIsSite _ _ _ _ _ _ _ _ _ _ hn, ob]
      refine K.neg Bool.false_ne_true ?_
      rw [show decide ((sa.length : Int) ≤ a ∧ a < (sa.length : Int) + si.length) = true from decide_eq_true (by omega)]
      refine K.pos rfl (K.succ ?_)
      simp only [spec_LimitOf.j1, sNear _ _ _ _ _ _ _ _ _ _ _ _ hp.1 hp.2 hq.1 hq.2, ob]
      refine K.pos (by trivial) ?_
      have e : limV pl sa si rc cr vw a b = if planeV sa si a = planeV sa si b ∨ nearV pl (planeV sa si a) (planeV sa si b) = true then vw else -1 := by
       unfold limV
       rw [if_neg (by omega), if_pos (Or.inl sa_)]
      by_cases c1 : planeV sa si a = planeV sa si b
      ·rw [e.trans (if_pos (Or.inl c1))]
       exact K.pos c1 (Ev.now _)
      ·refine K.neg c1 ?_
       by_cases c2 : nearV pl (planeV sa si a) (planeV sa si b) = true
       ·rw [e.trans (if_pos (Or.inr c2))]
        exact K.pos c2 (Ev.now _)
       ·rw [e.trans (if_neg (fun h => h.elim c1 c2))]
        exact K.neg c2 (Ev.now _)
    ·refine K.neg (by omega) (K.succ ?_)
     simp only [spec_LimitOf.j0, sPlane _ _ _ _ _ _ _ _ _ _ hn, sIsSite _ _ _ _ _ _ _ _ _ _ hn, ob]
     refine K.neg Bool.false_ne_true ?_
     rw [show decide ((sa.length : Int) ≤ a ∧ a < (sa.length : Int) + si.length) = false from decide_eq_false (by omega)]
     refine K.neg Bool.false_ne_true (K.succ ?_)
     simp only [spec_LimitOf.j1, sNear _ _ _ _ _ _ _ _ _ _ _ _ hp.1 hp.2 hq.1 hq.2, ob, decide_eq_true_eq]
     by_cases sb_ : (sa.length : Int) ≤ b
     ·refine K.pos (by omega) ?_
      have e : limV pl sa si rc cr vw a b = if planeV sa si a = planeV sa si b ∨ nearV pl (planeV sa si a) (planeV sa si b) = true then vw else -1 := by
       unfold limV
       rw [if_neg (by omega), if_pos (Or.inr sb_)]
      by_cases c1 : planeV sa si a = planeV sa si b
      ·rw [e.trans (if_pos (Or.inl c1))]
       exact K.pos c1 (Ev.now _)
      ·refine K.neg c1 ?_
       by_cases c2 : nearV pl (planeV sa si a) (planeV sa si b) = true
       ·rw [e.trans (if_pos (Or.inr c2))]
        exact K.pos c2 (Ev.now _)
       ·rw [e.trans (if_neg (fun h => h.elim c1 c2))]
        exact K.neg c2 (Ev.now _)
     ·refine K.neg (by omega) ?_
      have e : limV pl sa si rc cr vw a b = if planeV sa si a = planeV sa si b then rc else if nearV pl (planeV sa si a) (planeV sa si b) = true then cr else -1 := by
       unfold limV
       rw [if_neg (by omega), if_neg (by omega)]
      by_cases c1 : planeV sa si a = planeV sa si b
      ·rw [e.trans (if_pos c1)]
       exact K.pos c1 (Ev.now _)
      ·refine K.neg c1 ?_
       by_cases c2 : nearV pl (planeV sa si a) (planeV sa si b) = true
       ·rw [e.trans ((if_neg c1).trans (if_pos c2))]
        exact K.pos c2 (Ev.now _)
       ·rw [e.trans ((if_neg c1).trans (if_neg c2))]
        exact K.neg c2 (Ev.now _)
  ·exact K.neg (by omega) (hend _ (by unfold limV; rw [if_pos (Or.inr (Or.inr (Or.inl cb)))]))
 ·exact K.neg (by omega) (hend _ (by unfold limV; rw [if_pos (Or.inr (Or.inl ca))]))
theorem iLimit (pl : Int) (sa : List S70) (si : List S72) (rc cr vw su sh : Int) (zo : List S83) (ac : Int) (hn : (sa.length : Int) + si.length ≤ 4194304) (hpl0 : -9223372036854775808 ≤ pl) (hpl1 : pl ≤ 9223372036854775807) (h1 : ∀ x ∈ sa, -9223372036854775808 ≤ x.f0 ∧ x.f0 ≤ 9223372036854775807) (h2 : ∀ x ∈ si, -9223372036854775808 ≤ x.f0 ∧ x.f0 ≤ 9223372036854775807) (a b : Int) :
  Ev (fun k => impl_LimitOf.f k pl sa si rc cr vw su sh zo ac a b) (limV pl sa si rc cr vw a b) := by
 have hp := plane_wf sa si h1 h2 a
 have hq := plane_wf sa si h1 h2 b
 have hend : ∀ x y v, v = -1 → Ev (fun k => impl_LimitOf.j0 k (planeV sa si a) (planeV sa si b) x y true pl sa si rc cr vw su sh zo ac) v := by
  intro x y v hv
  subst hv
  refine K.succ ?_
  simp only [impl_LimitOf.j0]
  exact K.pos (by trivial) (Ev.now _)
 unfold impl_LimitOf.f
 simp only [ob, iPlane _ _ _ _ _ _ _ _ _ _ hn, iIsSat _ _ _ _ _ _ _ _ _ _ hn, iIsSite _ _ _ _ _ _ _ _ _ _ hn, decide_eq_true_eq]
 by_cases ce : a = b
 ·exact K.pos ce (hend _ _ _ (by unfold limV; rw [if_pos (Or.inl ce)]))
 ·refine K.neg ce ?_
  -- the way on when neither is wrong
  have hgo : ∀ x y : Bool, (x = true ↔ a < (sa.length : Int)) → (y = true ↔ b < (sa.length : Int)) → 0 ≤ a → a < (sa.length : Int) + si.length → 0 ≤ b → b < (sa.length : Int) + si.length →
    Ev (fun k => impl_LimitOf.j0 k (planeV sa si a) (planeV sa si b) x y false pl sa si rc cr vw su sh zo ac) (limV pl sa si rc cr vw a b) := by
   intro x y hx hy a0 a1 b0 b1
   refine K.succ ?_
   simp only [impl_LimitOf.j0]
   refine K.neg Bool.false_ne_true ?_
   have tail : ∀ z : Bool, (z = true ↔ x = true ∧ y = true ∧ planeV sa si a = planeV sa si b) → Ev (fun k => impl_LimitOf.j1 k (planeV sa si a) (planeV sa si b) x y z pl sa si rc cr vw su sh zo ac) (limV pl sa si rc cr vw a b) := by
    intro z hz
    have last : ∀ u : Bool, (u = true ↔ x = true ∧ y = true ∧ nearV pl (planeV sa si a) (planeV sa si b) = true) → z = false → Ev (fun k => impl_LimitOf.j2 k (planeV sa si a) (planeV sa si b) x y u pl sa si rc cr vw su sh zo ac) (limV pl sa si rc cr vw a b) := by
     intro u hu hzf
     refine K.succ ?_
     simp only [impl_LimitOf.j2, iNear _ _ _ _ _ _ _ _ _ _ hpl0 hpl1 _ _ hp.1 hp.2 hq.1 hq.2, ob]
     cases u with
     | true =>
      have hu' := hu.1 rfl
      have ha := hx.1 hu'.1
      have hb := hy.1 hu'.2.1
      refine K.pos (by trivial) ?_
      unfold limV
      rw [if_neg (by omega), if_neg (by omega), if_neg (fun e => by
       have := hz.2 ⟨hu'.1, hu'.2.1, e⟩
       rw [hzf] at this
       cases this), if_pos hu'.2.2]
      exact Ev.now _
     | false =>
      refine K.neg Bool.false_ne_true ?_
      cases x with
      | true =>
       have ha := hx.1 rfl
       cases y with
       | true =>
        have hb := hy.1 rfl
        refine K.neg (by decide) ?_
        unfold limV
        rw [if_neg (by omega), if_neg (by omega), if_neg (fun e => by
         have := hz.2 ⟨rfl, rfl, e⟩
         rw [hzf] at this
         cases this), if_neg (fun e => Bool.false_ne_true (hu.2 ⟨rfl, rfl, e⟩))]
        exact Ev.now _
       | false =>
        have hb : ¬ b < (sa.length : Int) := fun h => Bool.false_ne_true (hy.2 h)
        refine K.pos (by decide) ?_
        have e : limV pl sa si rc cr vw a b = if planeV sa si a = planeV sa si b ∨ nearV pl (planeV sa si a) (planeV sa si b) = true then vw else -1 := by
         unfold limV
         rw [if_neg (by omega), if_pos (by omega)]
        by_cases c1 : planeV sa si a = planeV sa si b
        ·rw [e.trans (if_pos (Or.inl c1))]
         exact K.pos c1 (Ev.now _)
        ·refine K.neg c1 ?_
         by_cases c2 : nearV pl (planeV sa si a) (planeV sa si b) = true
         ·rw [e.trans (if_pos (Or.inr c2))]
          exact K.pos c2 (Ev.now _)
         ·rw [e.trans (if_neg (fun h => h.elim c1 c2))]
          exact K.neg c2 (Ev.now _)
      | false =>
       have ha : ¬ a < (sa.length : Int) := fun h => Bool.false_ne_true (hx.2 h)
       cases y with
       | true =>
        have hb := hy.1 rfl
        refine K.pos (by decide) ?_
        have e : limV pl sa si rc cr vw a b = if planeV sa si a = planeV sa si b ∨ nearV pl (planeV sa si a) (planeV sa si b) = true then vw else -1 := by
         unfold limV
         rw [if_neg (by omega), if_pos (by omega)]
        by_cases c1 : planeV sa si a = planeV sa si b
        ·rw [e.trans (if_pos (Or.inl c1))]
         exact K.pos c1 (Ev.now _)
        ·refine K.neg c1 ?_
         by_cases c2 : nearV pl (planeV sa si a) (planeV sa si b) = true
         ·rw [e.trans (if_pos (Or.inr c2))]
          exact K.pos c2 (Ev.now _)
         ·rw [e.trans (if_neg (fun h => h.elim c1 c2))]
          exact K.neg c2 (Ev.now _)
       | false =>
        have hb : ¬ b < (sa.length : Int) := fun h => Bool.false_ne_true (hy.2 h)
        refine K.neg (by decide) ?_
        unfold limV
        rw [if_pos (by omega)]
        exact Ev.now _
    refine K.succ ?_
    simp only [impl_LimitOf.j1, iNear _ _ _ _ _ _ _ _ _ _ hpl0 hpl1 _ _ hp.1 hp.2 hq.1 hq.2, ob]
    cases z with
    | true =>
     have hz' := hz.1 rfl
     have ha := hx.1 hz'.1
     have hb := hy.1 hz'.2.1
     refine K.pos (by trivial) ?_
     unfold limV
     rw [if_neg (by omega), if_neg (by omega), if_pos hz'.2.2]
     exact Ev.now _
    | false =>
     refine K.neg Bool.false_ne_true ?_
     cases x with
     | true =>
      cases y with
      | true => exact K.pos (by trivial) (K.pos (by trivial) (last _ ⟨fun h => ⟨rfl, rfl, h⟩, fun h => h.2.2⟩ rfl))
      | false => exact K.pos (by trivial) (K.neg Bool.false_ne_true (last false ⟨fun h => absurd h Bool.false_ne_true, fun h => absurd h.2.1 Bool.false_ne_true⟩ rfl))
     | false => exact K.neg Bool.false_ne_true (last false ⟨fun h => absurd h Bool.false_ne_true, fun h => absurd h.1 Bool.false_ne_true⟩ rfl)
   cases x with
   | true =>
    cases y with
    | true => exact K.pos (by trivial) (K.pos (by trivial) (tail _ ⟨fun h => ⟨rfl, rfl, beq_iff_eq.1 h⟩, fun h => beq_iff_eq.2 h.2.2⟩))
    | false => exact K.pos (by trivial) (K.neg Bool.false_ne_true (tail false ⟨fun h => absurd h Bool.false_ne_true, fun h => absurd h.2.1 Bool.false_ne_true⟩))
   | false => exact K.neg Bool.false_ne_true (tail false ⟨fun h => absurd h Bool.false_ne_true, fun h => absurd h.1 Bool.false_ne_true⟩)
  by_cases ca : 0 ≤ a ∧ a < (sa.length : Int)
  ·refine K.pos ca ?_
   by_cases cb : 0 ≤ b ∧ b < (sa.length : Int)
   ·exact K.pos cb (hgo _ _ ⟨fun h => (of_decide_eq_true h).2, fun h => decide_eq_true ⟨ca.1, h⟩⟩ ⟨fun h => (of_decide_eq_true h).2, fun h => decide_eq_true ⟨cb.1, h⟩⟩ (by omega) (by omega) (by omega) (by omega))
   ·refine K.neg cb ?_
    by_cases cs : (sa.length : Int) ≤ b ∧ b < (sa.length : Int) + si.length
    ·rw [show (!decide ((sa.length : Int) ≤ b ∧ b < (sa.length : Int) + si.length)) = false from by rw [decide_eq_true cs]; rfl]
     exact hgo _ _ ⟨fun h => (of_decide_eq_true h).2, fun h => decide_eq_true ⟨ca.1, h⟩⟩ ⟨fun h => (of_decide_eq_true h).2, fun h => by omega⟩ (by omega) (by omega) (by omega) (by omega)
    ·rw [show (!decide ((sa.length : Int) ≤ b ∧ b < (sa.length : Int) + si.length)) = true from by rw [decide_eq_false cs]; rfl]
     exact hend _ _ _ (by unfold limV; rw [if_pos (Or.inr (Or.inr (Or.inl (by omega))))])
  ·refine K.neg ca ?_
   by_cases cs : (sa.length : Int) ≤ a ∧ a < (sa.length : Int) + si.length
   ·refine K.pos cs ?_
    by_cases cb : 0 ≤ b ∧ b < (sa.length : Int)
    ·exact K.pos cb (hgo _ _ ⟨fun h => (of_decide_eq_true h).2, fun h => by omega⟩ ⟨fun h => (of_decide_eq_true h).2, fun h => decide_eq_true ⟨cb.1, h⟩⟩ (by omega) (by omega) (by omega) (by omega))
    ·refine K.neg cb ?_
     by_cases cs2 : (sa.length : Int) ≤ b ∧ b < (sa.length : Int) + si.length
     ·rw [show (!decide ((sa.length : Int) ≤ b ∧ b < (sa.length : Int) + si.length)) = false from by rw [decide_eq_true cs2]; rfl]
      exact hgo _ _ ⟨fun h => (of_decide_eq_true h).2, fun h => by omega⟩ ⟨fun h => (of_decide_eq_true h).2, fun h => by omega⟩ (by omega) (by omega) (by omega) (by omega)
     ·rw [show (!decide ((sa.length : Int) ≤ b ∧ b < (sa.length : Int) + si.length)) = true from by rw [decide_eq_false cs2]; rfl]
      exact hend _ _ _ (by unfold limV; rw [if_pos (Or.inr (Or.inr (Or.inl (by omega))))])
   ·exact K.neg cs (hend _ _ _ (by unfold limV; rw [if_pos (Or.inr (Or.inl (by omega)))]))
def midV (s w : Int) : Int := if 0 ≤ w ∧ w ≤ 359 then (s % 360 + w / 2) % 360 else s % 360
theorem sMiddle (s w : Int) : spec_MiddleOf.f s w = some (midV s w) := by
 unfold spec_MiddleOf.f midV
 simp only [l1In, sAngle, ob, decide_eq_true_eq]
 by_cases c : 0 ≤ w ∧ w ≤ 359
 ·rw [if_pos c, if_pos c, Int.tdiv_eq_ediv_of_nonneg c.1, K.wr (x := w / 2) (by omega) (by omega), K.wr (by omega) (by omega)]
 ·rw [if_neg c, if_neg c]
theorem iMiddle (s w : Int) : impl_MiddleOf.f s w = some (midV s w) := by
 unfold impl_MiddleOf.f midV
 simp only [iWidth, iAngle, ob, decide_eq_true_eq]
 by_cases c : 0 ≤ w ∧ w ≤ 359
 ·rw [if_pos c, if_pos c, Int.tdiv_eq_ediv_of_nonneg c.1, K.wr (x := w / 2) (by omega) (by omega), K.wr (by omega) (by omega)]
 ·rw [if_neg c, if_neg c]
def gapV (a b : Int) : Int := mn ((a % 360 - b % 360) % 360) (360 - (a % 360 - b % 360) % 360)
theorem sGap (a b : Int) : spec_GapOf.f a b = some (gapV a b) := by
 unfold spec_GapOf.f gapV
 simp only [sAngle, sMin, ob]
 rw [K.wr (x := a % 360 - b % 360) (by omega) (by omega), K.wr (by omega) (by omega)]
theorem iGap (a b : Int) : impl_GapOf.f a b = some (gapV a b) := by
 unfold impl_GapOf.f gapV
 simp only [iAngle, ob]
 rw [K.wr (x := a % 360 - b % 360) (by omega) (by omega), K.wr (by omega) (by omega)]
theorem gap_range (a b : Int) : 0 ≤ gapV a b ∧ gapV a b ≤ 180 := by
 unfold gapV mn
 split <;> omega
def sightOf (lim g w1 w2 : Int) : Int := if lim < 0 then 0 else if g - (w1 + w2) / 2 > lim then 0 else if g + (w1 + w2) / 2 ≤ lim then 2 else 1
def sightV (pl : Int) (sa : List S70) (si : List S72) (rc cr vw a b t : Int) : Int :=
 sightOf (limV pl sa si rc cr vw a b) (gapV (midV (nodeS sa si a t) (nodeW sa a)) (midV (nodeS sa si b t) (nodeW sa b))) (nodeW sa a) (nodeW sa b)
theorem sSight (pl : Int) (sa : List S70) (si : List S72) (rc cr vw su sh : Int) (zo : List S83) (ac : Int) (hn : (sa.length : Int) + si.length ≤ 4194304) (h1 : ∀ x ∈ sa, -9223372036854775808 ≤ x.f0 ∧ x.f0 ≤ 9223372036854775807) (h2 : ∀ x ∈ si, -9223372036854775808 ≤ x.f0 ∧ x.f0 ≤ 9223372036854775807) (a b t : Int) :
  Ev (fun k => spec_SightAt.f k pl sa si rc cr vw su sh zo ac a b t) (sightV pl sa si rc cr vw a b t) := by
 unfold spec_SightAt.f sightV
 refine Ev.bind (sLimit _ _ _ _ _ _ _ _ _ _ hn h1 h2 a b) ?_
 have ha := node_range sa si a t
 have hb := node_range sa si b t
 have hg := gap_range (midV (nodeS sa si a t) (nodeW sa a)) (midV (nodeS sa si b t) (nodeW sa b))
 generalize limV pl sa si rc cr vw a b = lim
 unfold sightOf
 by_cases c : lim < 0
 ·rw [if_pos c]
  exact K.pos c (Ev.now _)
 ·rw [if_neg c]
  refine K.neg c (Ev.bind (sNode _ _ _ _ _ _ _ _ _ _ hn a t) (Ev.bind (sNode _ _ _ _ _ _ _ _ _ _ hn b t) ?_))
  simp only [sMiddle, sGap, ob]
  generalize gapV (midV (nodeS sa si a t) (nodeW sa a)) (midV (nodeS sa si b t) (nodeW sa b)) = g at hg ⊢
  generalize nodeW sa a = x at ha ⊢
  generalize nodeW sa b = y at hb ⊢
  have e : wrap64 ((wrap64 ((wrap64 (Int.tdiv x 2)) + (wrap64 (Int.tdiv y 2)))) + (wrap64 (Int.tdiv (wrap64 ((Int.tmod x 2) + (Int.tmod y 2))) 2))) = (x + y) / 2 := by
   rw [Int.tdiv_eq_ediv_of_nonneg ha.2.2.1, Int.tdiv_eq_ediv_of_nonneg hb.2.2.1, Int.tmod_eq_emod_of_nonneg ha.2.2.1, Int.tmod_eq_emod_of_nonneg hb.2.2.1, K.wr (x := x % 2 + y % 2) (by omega) (by omega), Int.tdiv_eq_ediv_of_nonneg (by omega), K.wr (x := x / 2) (by omega) (by omega), K.wr (x := y / 2) (by omega) (by omega), K.wr (x := x / 2 + y / 2) (by omega) (by omega), K.wr (x := (x % 2 + y % 2) / 2) (by omega) (by omega), K.wr (by omega) (by omega)]
   omega
  rw [e, K.wr (x := g - (x + y) / 2) (by omega) (by omega), K.wr (x := g + (x + y) / 2) (by omega) (by omega)]
  split
  ·exact Ev.now _
  ·split <;> exact Ev.now _
theorem iSight (pl : Int) (sa : List S70) (si : List S72) (rc cr vw su sh : Int) (zo : List S83) (ac : Int) (hn : (sa.length : Int) + si.length ≤ 4194304) (hpl0 : -9223372036854775808 ≤ pl) (hpl1 : pl ≤ 9223372036854775807) (h1 : ∀ x ∈ sa, -9223372036854775808 ≤ x.f0 ∧ x.f0 ≤ 9223372036854775807) (h2 : ∀ x ∈ si, -9223372036854775808 ≤ x.f0 ∧ x.f0 ≤ 9223372036854775807) (a b t : Int) :
  Ev (fun k => impl_SightAt.f k pl sa si rc cr vw su sh zo ac a b t) (sightV pl sa si rc cr vw a b t) := by
 unfold impl_SightAt.f sightV
 simp only [iNode _ _ _ _ _ _ _ _ _ _ hn, ob]
 refine Ev.bind (iLimit _ _ _ _ _ _ _ _ _ _ hn hpl0 hpl1 h1 h2 a b) ?_
 have ha := node_range sa si a t
 have hb := node_range sa si b t
 have hg := gap_range (midV (nodeS sa si a t) (nodeW sa a)) (midV (nodeS sa si b t) (nodeW sa b))
 generalize limV pl sa si rc cr vw a b = lim
 simp only [iMiddle, iGap, ob]
 generalize gapV (midV (nodeS sa si a t) (nodeW sa a)) (midV (nodeS sa si b t) (nodeW sa b)) = g at hg ⊢
 generalize nodeW sa a = x at ha ⊢
 generalize nodeW sa b = y at hb ⊢
 rw [K.wr (x := x + y) (by omega) (by omega), Int.tdiv_eq_ediv_of_nonneg (by omega), K.wr (x := (x + y) / 2) (by omega) (by omega), K.wr (x := g - (x + y) / 2) (by omega) (by omega)]
 unfold sightOf
 by_cases c : lim < 0
 ·rw [if_pos c]
  refine K.pos c (K.succ ?_)
  simp only [impl_SightAt.j0]
  exact K.pos (by trivial) (Ev.now _)
 ·rw [if_neg c]
  refine K.neg c (K.succ ?_)
  by_cases c2 : g - (x + y) / 2 > lim
  ·rw [if_pos c2, decide_eq_true c2]
   simp only [impl_SightAt.j0]
   exact K.pos (by trivial) (Ev.now _)
  ·rw [if_neg c2, decide_eq_false c2]
   simp only [impl_SightAt.j0]
   rw [K.wr (x := g + (x + y) / 2) (by omega) (by omega)]
   refine K.neg Bool.false_ne_true ?_
   split <;> exact Ev.now _

end LFnExactSightAt
theorem FnExactSightAt (pl : Int) (sa : List S93) (si : List S95) (rc cr vw su sh : Int) (zo : List S99) (ac : Int) (a b t : Int) (h1 : sa.length ≤ 9223372036854775807) (h2 : si.length ≤ 9223372036854775807) (h3 : zo.length ≤ 9223372036854775807) (hw1 : ∀ x ∈ sa, (Lit.int .i64 x.f0).wf = true ∧ (Lit.int .i64 x.f1).wf = true ∧ (Lit.int .i64 x.f2).wf = true ∧ (Lit.int .i64 x.f3).wf = true) (hw2 : ∀ x ∈ si, (Lit.int .i64 x.f0).wf = true ∧ (Lit.int .i64 x.f1).wf = true ∧ (Lit.int .i64 x.f2).wf = true) (hwp : (Lit.int .i64 pl).wf = true) : ∃ k, laws_FnExactSightAt.f k pl sa si rc cr vw su sh zo ac a b t = some true := by
 refine K.rounds (g := fun k => laws_FnExactSightAt.f k pl sa si rc cr vw su sh zo ac a b t) ?_
 unfold laws_FnExactSightAt.f
 refine K.known (LFnExactSightAt.szSky _ _ _ _ _ _ _ _ _ _ h1 h2 h3) ?_
 by_cases c : (sa.length : Int) + si.length + zo.length ≤ 1048576
 ·rw [if_pos c]
  have hn : ((sa.map LFnExactSightAt.cvSat).length : Int) + (si.map LFnExactSightAt.cvSite).length ≤ 4194304 := by simp; omega
  have g1 : ∀ x ∈ sa.map LFnExactSightAt.cvSat, -9223372036854775808 ≤ x.f0 ∧ x.f0 ≤ 9223372036854775807 := by
   intro x hx
   obtain ⟨y, hy, rfl⟩ := List.mem_map.1 hx
   exact K.wf64 (hw1 y hy).1
  have g2 : ∀ x ∈ si.map LFnExactSightAt.cvSite, -9223372036854775808 ≤ x.f0 ∧ x.f0 ≤ 9223372036854775807 := by
   intro x hx
   obtain ⟨y, hy, rfl⟩ := List.mem_map.1 hx
   exact K.wf64 (hw2 y hy).1
  have gp := K.wf64 hwp
  repeat (first | exact Ev.now _ | refine K.pos (by first | exact True.intro | with_reducible rfl | omega) ?_ | refine K.neg (by first | omega | exact Bool.false_ne_true | exact K.nbne _) ?_ | refine Ev.bind (LFnExactSightAt.toSky pl sa si rc cr vw su sh zo ac (by omega) (by omega) (by omega)) ?_ | refine Ev.bind (LFnExactSightAt.sSight _ _ _ _ _ _ _ _ _ _ hn g1 g2 _ _ _) ?_ | refine Ev.bind (LFnExactSightAt.iSight _ _ _ _ _ _ _ _ _ _ hn gp.1 gp.2 g1 g2 _ _ _) ?_ | refine Ev.bind (LFnExactSightAt.eqSky pl (sa.map LFnExactSightAt.cvSat) (si.map LFnExactSightAt.cvSite) rc cr vw su sh (zo.map LFnExactSightAt.cvZone) ac (by simp; omega) (by simp; omega) (by simp; omega)) ?_)
 ·rw [if_neg c]
  exact K.pos (by omega) (Ev.now _)

end Go.Proofs.Ytflngcegkhgocaa.Pure
