/- The plan of all contacts is one list in the program and in the reference, for every sky of at most 2^20 parts and any bounds. -/
import Derived.Test.YtpjhdehbikohmaaGreatQFnExactPlanOfx
import Derived.Test.YtpjhdehbikohmaaGreatKKit
namespace Go.Proofs.YtpjhdehbikohmaaGreat.Pure
open Go.RowKit Go.Proofs.YtpjhdehbikohmaaGreat.PFnExactPlanOf Go.Proofs.YtpjhdehbikohmaaGreatW.PrintWords Go.Proofs.YtpjhdehbikohmaaGreatW.PrintLast Go.Proofs.YtpjhdehbikohmaaGreatW.PrintMore Go.Proofs.YtpjhdehbikohmaaGreat
set_option linter.unusedSimpArgs false
set_option linter.unusedVariables false
namespace LFnExactPlanOf

def cvSat (x : S82) : S68 := ⟨x.f0, x.f1, x.f2, x.f3⟩
theorem toSatS (l : List S82) (hl : l.length ≤ 1048576) : Ev (fun k => laws_toSatS.f k l) (l.map cvSat) := by
  unfold laws_toSatS.f
  refine K.pos (by omega) (K.pos (by omega) ?_)
  refine K.fill (fun k xs i => laws_toSatS.l0 k l xs i) (l.map cvSat) (by simpa using hl) ?_ ?_ l.length _ 0 (by omega) (by simp) (by simp) (by intro j hj; omega)
  · intro k xs i hi
    simp only [List.length_map] at hi
    simp only [laws_toSatS.l0]
    rw [if_neg hi]
  · intro k xs i y h0 hi hx hy
    simp only [List.length_map] at hi hx
    simp only [laws_toSatS.l0, laws_toSat.f, Option.bind_some]
    rw [if_pos hi, if_pos h0, if_pos (by omega), K.wr (x := i + 1) (by omega) (by omega)]
    have hg : l[i.toNat]? = some (l[i.toNat]'(by omega)) := List.getElem?_eq_getElem (by omega)
    rw [List.getElem?_map, hg, Option.map_some] at hy
    obtain rfl := Option.some.inj hy
    have hr : rd_T82 l i = l[i.toNat]'(by omega) := by
      simp only [rd_T82, List.getD_eq_getElem?_getD, hg, Option.getD_some]
    rw [hr]
    rfl
theorem szSatS (l : List S82) (left : Int) (h0 : 0 ≤ left) (h1 : left ≤ 1048576) (hm : l.length ≤ 9223372036854775807) : laws_szSatS.f l left = some (if (l.length : Int) ≤ left then left - l.length else -1) := by
  unfold laws_szSatS.f
  rw [K.wr (by omega) (by omega)]
  split <;> split <;> first | rfl | omega


def cvSite (x : S84) : S70 := ⟨x.f0, x.f1, x.f2⟩
theorem toSiteS (l : List S84) (hl : l.length ≤ 1048576) : Ev (fun k => laws_toSiteS.f k l) (l.map cvSite) := by
  unfold laws_toSiteS.f
  refine K.pos (by omega) (K.pos (by omega) ?_)
  refine K.fill (fun k xs i => laws_toSiteS.l0 k l xs i) (l.map cvSite) (by simpa using hl) ?_ ?_ l.length _ 0 (by omega) (by simp) (by simp) (by intro j hj; omega)
  · intro k xs i hi
    simp only [List.length_map] at hi
    simp only [laws_toSiteS.l0]
    rw [if_neg hi]
  · intro k xs i y h0 hi hx hy
    simp only [List.length_map] at hi hx
    simp only [laws_toSiteS.l0, laws_toSite.f, Option.bind_some]
    rw [if_pos hi, if_pos h0, if_pos (by omega), K.wr (x := i + 1) (by omega) (by omega)]
    have hg : l[i.toNat]? = some (l[i.toNat]'(by omega)) := List.getElem?_eq_getElem (by omega)
    rw [List.getElem?_map, hg, Option.map_some] at hy
    obtain rfl := Option.some.inj hy
    have hr : rd_T84 l i = l[i.toNat]'(by omega) := by
      simp only [rd_T84, List.getD_eq_getElem?_getD, hg, Option.getD_some]
    rw [hr]
    rfl
theorem szSiteS (l : List S84) (left : Int) (h0 : 0 ≤ left) (h1 : left ≤ 1048576) (hm : l.length ≤ 9223372036854775807) : laws_szSiteS.f l left = some (if (l.length : Int) ≤ left then left - l.length else -1) := by
  unfold laws_szSiteS.f
  rw [K.wr (by omega) (by omega)]
  split <;> split <;> first | rfl | omega


theorem eqSatS (l : List S68) (hl : l.length ≤ 67108864) : Ev (fun k => laws_eqSatS.f k l l) true := by
  unfold laws_eqSatS.f
  refine K.pos rfl ?_
  refine K.all (n := l.length) (fun k i => laws_eqSatS.l0 k l l i) ?_ ?_ l.length 0 (by omega) (by omega)
  · intro k i hi
    simp only [laws_eqSatS.l0]
    rw [if_neg hi]
  · intro k i h0 hi
    simp only [laws_eqSatS.l0, laws_eqSat.f, ↓reduceIte, Option.bind_some]
    rw [if_pos hi, if_pos h0, if_pos hi, K.wr (x := i + 1) (by omega) (by omega)]


theorem eqSiteS (l : List S70) (hl : l.length ≤ 67108864) : Ev (fun k => laws_eqSiteS.f k l l) true := by
  unfold laws_eqSiteS.f
  refine K.pos rfl ?_
  refine K.all (n := l.length) (fun k i => laws_eqSiteS.l0 k l l i) ?_ ?_ l.length 0 (by omega) (by omega)
  · intro k i hi
    simp only [laws_eqSiteS.l0]
    rw [if_neg hi]
  · intro k i h0 hi
    simp only [laws_eqSiteS.l0, laws_eqSite.f, ↓reduceIte, Option.bind_some]
    rw [if_pos hi, if_pos h0, if_pos hi, K.wr (x := i + 1) (by omega) (by omega)]

def cvZone (x : S88) : S76 := ⟨x.f0, ⟨x.f1.f0, x.f1.f1⟩⟩
theorem toZoneS (l : List S88) (hl : l.length ≤ 1048576) : Ev (fun k => laws_toZoneS.f k l) (l.map cvZone) := by
  unfold laws_toZoneS.f
  refine K.pos (by omega) (K.pos (by omega) ?_)
  refine K.fill (fun k xs i => laws_toZoneS.l0 k l xs i) (l.map cvZone) (by simpa using hl) ?_ ?_ l.length _ 0 (by omega) (by simp) (by simp) (by intro j hj; omega)
  · intro k xs i hi
    simp only [List.length_map] at hi
    simp only [laws_toZoneS.l0]
    rw [if_neg hi]
  · intro k xs i y h0 hi hx hy
    simp only [List.length_map] at hi hx
    simp only [laws_toZoneS.l0, laws_toZone.f, laws_toArc.f, Option.bind_some]
    rw [if_pos hi, if_pos h0, if_pos (by omega), K.wr (x := i + 1) (by omega) (by omega)]
    have hg : l[i.toNat]? = some (l[i.toNat]'(by omega)) := List.getElem?_eq_getElem (by omega)
    rw [List.getElem?_map, hg, Option.map_some] at hy
    obtain rfl := Option.some.inj hy
    have hr : rd_T88 l i = l[i.toNat]'(by omega) := by
      simp only [rd_T88, List.getD_eq_getElem?_getD, hg, Option.getD_some]
    rw [hr]
    rfl
theorem szZoneS (l : List S88) (left : Int) (h0 : 0 ≤ left) (h1 : left ≤ 1048576) (hm : l.length ≤ 9223372036854775807) : laws_szZoneS.f l left = some (if (l.length : Int) ≤ left then left - l.length else -1) := by
  unfold laws_szZoneS.f
  rw [K.wr (by omega) (by omega)]
  split <;> split <;> first | rfl | omega
theorem eqZoneS (l : List S76) (hl : l.length ≤ 67108864) : Ev (fun k => laws_eqZoneS.f k l l) true := by
  unfold laws_eqZoneS.f
  refine K.pos rfl ?_
  refine K.all (n := l.length) (fun k i => laws_eqZoneS.l0 k l l i) ?_ ?_ l.length 0 (by omega) (by omega)
  · intro k i hi
    simp only [laws_eqZoneS.l0]
    rw [if_neg hi]
  · intro k i h0 hi
    simp only [laws_eqZoneS.l0, laws_eqZone.f, laws_eqArc.f, ↓reduceIte, Option.bind_some]
    rw [if_pos hi, if_pos h0, if_pos hi, K.wr (x := i + 1) (by omega) (by omega)]
theorem szSky (pl : Int) (sa : List S82) (si : List S84) (rc cr vw su sh : Int) (zo : List S88) (ac : Int) (h1 : sa.length ≤ 9223372036854775807) (h2 : si.length ≤ 9223372036854775807) (h3 : zo.length ≤ 9223372036854775807) :
    laws_szSky.f pl sa si rc cr vw su sh zo ac 1048576 = some (if (sa.length : Int) + si.length + zo.length ≤ 1048576 then (1048576 : Int) - sa.length - si.length - zo.length else (-1 : Int)) := by
  unfold laws_szSky.f
  rw [szSatS sa 1048576 (by omega) (by omega) h1]
  simp only [Option.bind_some]
  by_cases c1 : (sa.length : Int) ≤ 1048576
  · rw [if_pos c1, if_neg (by omega), szSiteS si _ (by omega) (by omega) h2]
    simp only [Option.bind_some]
    by_cases c2 : (si.length : Int) ≤ 1048576 - sa.length
    · rw [if_pos c2, if_neg (by omega), szZoneS zo _ (by omega) (by omega) h3]
      simp only [Option.bind_some]
      by_cases c3 : (zo.length : Int) ≤ 1048576 - sa.length - si.length
      · rw [if_pos c3, if_neg (by omega), if_pos (by omega)]
      · rw [if_neg c3, if_pos (by omega), if_neg (by omega)]
    · rw [if_neg c2, if_pos (by omega), if_neg (by omega)]
  · rw [if_neg c1, if_pos (by omega), if_neg (by omega)]
theorem toSky (pl : Int) (sa : List S82) (si : List S84) (rc cr vw su sh : Int) (zo : List S88) (ac : Int) (h1 : sa.length ≤ 1048576) (h2 : si.length ≤ 1048576) (h3 : zo.length ≤ 1048576) :
    Ev (fun k => laws_toSky.f k pl sa si rc cr vw su sh zo ac) (pl, sa.map cvSat, si.map cvSite, rc, cr, vw, su, sh, zo.map cvZone, ac) := by
  unfold laws_toSky.f
  exact Ev.bind (toSatS sa h1) (Ev.bind (toSiteS si h2) (Ev.bind (toZoneS zo h3) (Ev.now _)))
theorem eqSky (pl : Int) (sa : List S68) (si : List S70) (rc cr vw su sh : Int) (zo : List S76) (ac : Int) (h1 : sa.length ≤ 1048576) (h2 : si.length ≤ 1048576) (h3 : zo.length ≤ 1048576) : Ev (fun k => laws_eqSky.f k pl sa si rc cr vw su sh zo ac pl sa si rc cr vw su sh zo ac) true := by
  unfold laws_eqSky.f
  exact K.pos rfl (Ev.bind (eqSatS sa (by omega)) (K.pos rfl (Ev.bind (eqSiteS si (by omega)) (K.pos rfl (K.pos rfl (K.pos rfl (K.pos rfl (K.pos rfl (K.pos rfl (Ev.bind (eqZoneS zo (by omega)) (K.pos rfl (K.pos rfl (Ev.now _)))))))))))))

theorem rd_Sat_of {l : List S68} {i : Int} {x : S68} (h : l[i.toNat]? = some x) : rd_T68 l i = x := by
  simp only [rd_T68, List.getD_eq_getElem?_getD, h, Option.getD_some]
theorem rd_Sat_set {l : List S68} {i : Int} {x : S68} (h : i.toNat < l.length) : rd_T68 (l.set i.toNat x) i = x :=
  rd_Sat_of (List.getElem?_set_self h)


theorem laySatS (l : List S68) (c : Int) (hl : l.length ≤ 67108864) (hc0 : 0 ≤ c) (hc1 : c ≤ 1099511627776) : ∃ m ys, c ≤ m ∧ m ≤ c + 16 * l.length ∧ Ev (fun k => laws_markSatS.f k l c) (m, ys) := by
  unfold laws_markSatS.f
  refine Exists.elim (K.lay (fun k xs c i => laws_markSatS.l0 k xs c i) l.length 4 (fun c _ => (⟨c, c + 1, c + 2, c + 3⟩ : S68)) (by omega) (by omega)
    ?_ ?_ l.length l c 0 (by omega) (by omega) rfl (by omega) (by omega)) (fun m h => h.elim fun ys h => ⟨m, ys, h.1, h.2.1, h.2.2.2⟩)
  · intro k xs c i hi hx
    simp only [laws_markSatS.l0]
    rw [if_neg (by omega)]
  · intro k xs c i x h0 hi hx hc0 hc1 hxi
    have hlt : i.toNat < xs.length := by omega
    simp only [laws_markSatS.l0, Option.bind_some]
    rw [if_pos (by omega), if_pos h0]
    rw [K.wr (x := c + 1) (by omega) (by omega)]
    rw [K.wr (x := c + 1 + 1) (by omega) (by omega), show c + 1 + 1 = c + 2 by omega]
    rw [K.wr (x := c + 2 + 1) (by omega) (by omega), show c + 2 + 1 = c + 3 by omega]
    rw [K.wr (x := c + 3 + 1) (by omega) (by omega), show c + 3 + 1 = c + 4 by omega]
    simp only [rd_Sat_set, List.length_set, hlt, List.set_set]
    rw [K.wr (x := i + 1) (by omega) (by omega)]


theorem rd_Site_of {l : List S70} {i : Int} {x : S70} (h : l[i.toNat]? = some x) : rd_T70 l i = x := by
  simp only [rd_T70, List.getD_eq_getElem?_getD, h, Option.getD_some]
theorem rd_Site_set {l : List S70} {i : Int} {x : S70} (h : i.toNat < l.length) : rd_T70 (l.set i.toNat x) i = x :=
  rd_Site_of (List.getElem?_set_self h)


theorem laySiteS (l : List S70) (c : Int) (hl : l.length ≤ 67108864) (hc0 : 0 ≤ c) (hc1 : c ≤ 1099511627776) : ∃ m ys, c ≤ m ∧ m ≤ c + 16 * l.length ∧ Ev (fun k => laws_markSiteS.f k l c) (m, ys) := by
  unfold laws_markSiteS.f
  refine Exists.elim (K.lay (fun k xs c i => laws_markSiteS.l0 k xs c i) l.length 3 (fun c _ => (⟨c, c + 1, c + 2⟩ : S70)) (by omega) (by omega)
    ?_ ?_ l.length l c 0 (by omega) (by omega) rfl (by omega) (by omega)) (fun m h => h.elim fun ys h => ⟨m, ys, h.1, h.2.1, h.2.2.2⟩)
  · intro k xs c i hi hx
    simp only [laws_markSiteS.l0]
    rw [if_neg (by omega)]
  · intro k xs c i x h0 hi hx hc0 hc1 hxi
    have hlt : i.toNat < xs.length := by omega
    simp only [laws_markSiteS.l0, Option.bind_some]
    rw [if_pos (by omega), if_pos h0]
    rw [K.wr (x := c + 1) (by omega) (by omega)]
    rw [K.wr (x := c + 1 + 1) (by omega) (by omega), show c + 1 + 1 = c + 2 by omega]
    rw [K.wr (x := c + 2 + 1) (by omega) (by omega), show c + 2 + 1 = c + 3 by omega]
    simp only [rd_Site_set, List.length_set, hlt, List.set_set]
    rw [K.wr (x := i + 1) (by omega) (by omega)]


theorem rd_Zone_of {l : List S76} {i : Int} {x : S76} (h : l[i.toNat]? = some x) : rd_T76 l i = x := by
  simp only [rd_T76, List.getD_eq_getElem?_getD, h, Option.getD_some]
theorem rd_Zone_set {l : List S76} {i : Int} {x : S76} (h : i.toNat < l.length) : rd_T76 (l.set i.toNat x) i = x :=
  rd_Zone_of (List.getElem?_set_self h)

theorem layZoneS (l : List S76) (c : Int) (hl : l.length ≤ 67108864) (hc0 : 0 ≤ c) (hc1 : c ≤ 1099511627776) : ∃ m ys, c ≤ m ∧ m ≤ c + 16 * l.length ∧ Ev (fun k => laws_markZoneS.f k l c) (m, ys) := by
  unfold laws_markZoneS.f
  refine Exists.elim (K.lay (fun k xs c i => laws_markZoneS.l0 k xs c i) l.length 3 (fun c _ => (⟨c, ⟨c + 1, c + 2⟩⟩ : S76)) (by omega) (by omega)
    ?_ ?_ l.length l c 0 (by omega) (by omega) rfl (by omega) (by omega)) (fun m h => h.elim fun ys h => ⟨m, ys, h.1, h.2.1, h.2.2.2⟩)
  · intro k xs c i hi hx
    simp only [laws_markZoneS.l0]
    rw [if_neg (by omega)]
  · intro k xs c i x h0 hi hx hc0 hc1 hxi
    have hlt : i.toNat < xs.length := by omega
    simp only [laws_markZoneS.l0, Option.bind_some]
    rw [if_pos (by omega), if_pos h0]
    rw [K.wr (x := c + 1) (by omega) (by omega)]
    rw [K.wr (x := c + 1 + 1) (by omega) (by omega), show c + 1 + 1 = c + 2 by omega]
    rw [K.wr (x := c + 2 + 1) (by omega) (by omega), show c + 2 + 1 = c + 3 by omega]
    simp only [rd_Zone_set, List.length_set, hlt, List.set_set]
    rw [K.wr (x := i + 1) (by omega) (by omega)]
theorem markSky (pl : Int) (sa : List S68) (si : List S70) (rc cr vw su sh : Int) (zo : List S76) (ac : Int) (h1 : sa.length ≤ 1048576) (h2 : si.length ≤ 1048576) (h3 : zo.length ≤ 1048576) :
    ∃ m y1 y2 y3, 0 ≤ m ∧ Ev (fun k => laws_markSky.f k pl sa si rc cr vw su sh zo ac 1) (m, y1, y2, y3) := by
  obtain ⟨m1, y1, a1, b1, g1⟩ := laySatS sa 1 (by omega) (by omega) (by omega)
  obtain ⟨m2, y2, a2, b2, g2⟩ := laySiteS si m1 (by omega) (by omega) (by omega)
  obtain ⟨m3, y3, a3, b3, g3⟩ := layZoneS zo m2 (by omega) (by omega) (by omega)
  refine ⟨m3, y1, y2, y3, by omega, ?_⟩
  unfold laws_markSky.f
  exact Ev.bind g1 (Ev.bind g2 (Ev.bind g3 (Ev.now _)))

theorem eqContactS (l : List S54) (hl : l.length ≤ 67108864) : Ev (fun k => laws_eqContactS.f k l l) true := by
  unfold laws_eqContactS.f
  refine K.pos rfl ?_
  refine K.all (n := l.length) (fun k i => laws_eqContactS.l0 k l l i) ?_ ?_ l.length 0 (by omega) (by omega)
  · intro k i hi
    simp only [laws_eqContactS.l0]
    rw [if_neg hi]
  · intro k i h0 hi
    simp only [laws_eqContactS.l0, laws_eqContact.f, ↓reduceIte, Option.bind_some]
    rw [if_pos hi, if_pos h0, if_pos hi, K.wr (x := i + 1) (by omega) (by omega)]


theorem rd_Contact_of {l : List S54} {i : Int} {x : S54} (h : l[i.toNat]? = some x) : rd_T54 l i = x := by
  simp only [rd_T54, List.getD_eq_getElem?_getD, h, Option.getD_some]
theorem rd_Contact_set {l : List S54} {i : Int} {x : S54} (h : i.toNat < l.length) : rd_T54 (l.set i.toNat x) i = x :=
  rd_Contact_of (List.getElem?_set_self h)


theorem markContactS (l : List S54) (hl : l.length ≤ 67108864) : ∃ m ys, 1 ≤ m ∧ Ev (fun k => laws_markContactS.f k l 1) (m, ys) ∧ Ev (fun k => laws_heldContactS.f k ys 1) m := by
  unfold laws_markContactS.f laws_heldContactS.f
  refine Exists.elim (K.marks (fun k xs c i => laws_markContactS.l0 k xs c i) (fun k xs c i => laws_heldContactS.l0 k xs c i) l.length 4 (fun c _ => (⟨c, c + 1, c + 2, c + 3⟩ : S54)) (by omega) (by omega) hl
    ?_ ?_ ?_ ?_ l.length l 1 0 (by omega) (by omega) rfl (by omega) (by omega)) (fun m h => h.elim fun ys h => ⟨m, ys, h.1, h.2.2.2.2.1, h.2.2.2.2.2⟩)
  · intro k xs c i hi hx
    simp only [laws_markContactS.l0]
    rw [if_neg (by omega)]
  · intro k xs c i x h0 hi hx hc0 hc1 hxi
    have hlt : i.toNat < xs.length := by omega
    simp only [laws_markContactS.l0, Option.bind_some]
    rw [if_pos (by omega), if_pos h0]
    rw [K.wr (x := c + 1) (by omega) (by omega)]
    rw [K.wr (x := c + 1 + 1) (by omega) (by omega), show c + 1 + 1 = c + 2 by omega]
    rw [K.wr (x := c + 2 + 1) (by omega) (by omega), show c + 2 + 1 = c + 3 by omega]
    rw [K.wr (x := c + 3 + 1) (by omega) (by omega), show c + 3 + 1 = c + 4 by omega]
    simp only [rd_Contact_set, List.length_set, hlt, List.set_set]
    rw [K.wr (x := i + 1) (by omega) (by omega)]
  · intro k xs c i hi hx
    simp only [laws_heldContactS.l0]
    rw [if_neg (by omega)]
  · intro k xs c i x h0 hi hx hc0 hc1 hxi
    simp only [laws_heldContactS.l0]
    rw [if_pos (by omega), if_pos h0, rd_Contact_of hxi]
    rw [K.wr (x := c + 1) (by omega) (by omega)]
    rw [K.wr (x := c + 1 + 1) (by omega) (by omega), show c + 1 + 1 = c + 2 by omega]
    rw [K.wr (x := c + 2 + 1) (by omega) (by omega), show c + 2 + 1 = c + 3 by omega]
    rw [K.wr (x := c + 3 + 1) (by omega) (by omega), show c + 3 + 1 = c + 4 by omega]
    simp only [↓reduceIte]
    rw [K.wr (x := i + 1) (by omega) (by omega)]

def put (o : List S52) (t : Int) : List S52 :=
  if (o.length : Int) > 0 then (if (rd_T52 o ((o.length : Int) - 1)).f1 = t then o.set ((o.length : Int) - 1).toNat ⟨(rd_T52 o ((o.length : Int) - 1)).f0, t + 1⟩ else o ++ [⟨t, t + 1⟩]) else o ++ [⟨t, t + 1⟩]
theorem put_len (o : List S52) (t : Int) : (put o t).length ≤ o.length + 1 := by
  unfold put
  (repeat' split) <;> simp
def run (p : Int → Bool) (o : List S52) (t : Int) : Nat → List S52
  | 0 => o
  | d + 1 => run p (if p t = true then put o t else o) (t + 1) d
theorem run_add (p : Int → Bool) : ∀ (d e : Nat) (o : List S52) (t : Int), run p o t (d + e) = run p (run p o t d) (t + d) e := by
  intro d
  induction d with
  | zero =>
    intro e o t
    simp [run]
  | succ d ih =>
    intro e o t
    rw [show d + 1 + e = (d + e) + 1 by omega]
    simp only [run]
    rw [ih]
    congr 1
    omega
theorem run_none (p : Int → Bool) : ∀ (d : Nat) (o : List S52) (t : Int), (∀ u, t ≤ u → p u = false) → run p o t d = o := by
  intro d
  induction d with
  | zero =>
    intro o t h
    rfl
  | succ d ih =>
    intro o t h
    simp only [run, h t (by omega), Bool.false_eq_true, if_false]
    exact ih o (t + 1) (fun u hu => h u (by omega))
theorem run_len (p : Int → Bool) : ∀ (d : Nat) (o : List S52) (t : Int), (run p o t d).length ≤ o.length + d := by
  intro d
  induction d with
  | zero =>
    intro o t
    simp [run]
  | succ d ih =>
    intro o t
    simp only [run]
    refine Nat.le_trans (ih _ _) ?_
    have := put_len o t
    split <;> omega
theorem run_eq (p q : Int → Bool) : ∀ (d : Nat) (o : List S52) (t : Int), (∀ u, t ≤ u → u < t + d → p u = q u) → run p o t d = run q o t d := by
  intro d
  induction d with
  | zero =>
    intro o t h
    rfl
  | succ d ih =>
    intro o t h
    simp only [run]
    rw [h t (by omega) (by omega)]
    exact ih _ _ (fun u h1 h2 => h u (by omega) (by omega))
theorem sPut (o : List S52) (t : Int) (h0 : 0 ≤ t) (h1 : t ≤ 1000) (ho : o.length ≤ 8000000000000) : spec_l4Put.f o t = some (put o t) := by
  unfold spec_l4Put.f put
  have w0 : wrap64 (t + 1) = t + 1 := K.wr (by omega) (by omega)
  have w1 : wrap64 ((o.length : Int) - 1) = (o.length : Int) - 1 := K.wr (by omega) (by omega)
  rw [w0, w1]
  have c2 : o.length < 8796093022208 := by omega
  rw [if_pos c2]
  by_cases c : (o.length : Int) > 0
  · rw [if_pos c, if_pos c]
    have c0 : 0 ≤ (o.length : Int) - 1 := by omega
    have c1 : (o.length : Int) - 1 < (o.length : Int) := by omega
    rw [if_pos c0, if_pos c1]
    split <;> rfl
  · rw [if_neg c, if_neg c]
def vs (s : S52) : Bool := decide (s.f0 ≥ 0 ∧ s.f1 ≤ 1000 ∧ s.f0 < s.f1)
def ins (s : S52) (t : Int) : Bool := vs s && (decide (s.f0 ≤ t) && decide (t < s.f1))
def inl (l : List S52) (t : Int) : Bool := l.any (fun s => ins s t)
theorem sVs (s : S52) : spec_IsSpan.f s.f0 s.f1 = some (vs s) := by
  unfold spec_IsSpan.f vs
  by_cases c0 : s.f0 ≥ 0
  · rw [if_pos c0]
    by_cases c1 : s.f1 ≤ 1000
    · rw [if_pos c1]
      simp [c0, c1]
    · rw [if_neg c1]
      simp [c1]
  · rw [if_neg c0]
    simp [c0]
theorem iVs (s : S52) : impl_IsSpan.f s.f0 s.f1 = some (vs s) := by
  unfold impl_IsSpan.f vs
  by_cases c0 : s.f0 ≥ 0
  · rw [if_pos c0]
    by_cases c1 : s.f1 ≤ 1000
    · rw [if_pos c1]
      simp [c0, c1]
    · rw [if_neg c1]
      simp [c1]
  · rw [if_neg c0]
    simp [c0]
theorem sIns (s : S52) (t : Int) : spec_InSpan.f s.f0 s.f1 t = some (ins s t) := by
  unfold spec_InSpan.f ins
  rw [sVs, Option.bind_some]
  cases vs s with
  | true =>
    rw [if_pos rfl]
    by_cases c : s.f0 ≤ t
    · rw [if_pos c]
      simp [c]
    · rw [if_neg c]
      simp [c]
  | false => rfl
theorem rdDrop (l : List S52) (i : Int) (h0 : 0 ≤ i) (h1 : i < (l.length : Int)) : l.drop i.toNat = rd_T52 l i :: l.drop (i + 1).toNat := by
  rw [List.drop_eq_getElem_cons (by omega), show (i + 1).toNat = i.toNat + 1 by omega]
  simp [rd_T52, List.getD_eq_getElem?_getD, List.getElem?_eq_getElem (show i.toNat < l.length by omega)]
theorem sInl (l : List S52) (hl : l.length ≤ 2097152) (t : Int) : ∀ (d : Nat) (i : Int), 0 ≤ i → (l.length : Int) - i = d → Ev (fun k => spec_InSpans.l0 k l t i) (inl (l.drop i.toNat) t) := by
  intro d
  induction d with
  | zero =>
    intro i h0 hd
    refine K.succ ?_
    simp only [spec_InSpans.l0]
    rw [List.drop_eq_nil_of_le (by omega)]
    exact K.neg (by omega) (Ev.now _)
  | succ d ih =>
    intro i h0 hd
    refine K.succ ?_
    simp only [spec_InSpans.l0, sIns]
    rw [K.wr (x := i + 1) (by omega) (by omega), rdDrop l i h0 (by omega)]
    refine K.pos (by omega) (K.pos h0 (K.known rfl ?_))
    unfold inl
    rw [List.any_cons]
    cases ins (rd_T52 l i) t with
    | true => exact K.pos rfl (Ev.now _)
    | false => exact K.neg Bool.false_ne_true (ih (i + 1) (by omega) (by omega))
def last (l : List S52) (n : Int) : Int := l.foldl (fun n s => if vs s = true then (if s.f1 > n then s.f1 else n) else n) n
theorem last_le : ∀ (l : List S52) (n : Int), n ≤ last l n ∧ (n ≤ 1000 → last l n ≤ 1000) ∧ ∀ s ∈ l, vs s = true → s.f1 ≤ last l n := by
  intro l
  induction l with
  | nil =>
    intro n
    exact ⟨Int.le_refl _, fun h => h, fun s hs => absurd hs (by simp)⟩
  | cons a l ih =>
    intro n
    have e : last (a :: l) n = last l (if vs a = true then (if a.f1 > n then a.f1 else n) else n) := rfl
    rw [e]
    obtain ⟨h1, h2, h3⟩ := ih (if vs a = true then (if a.f1 > n then a.f1 else n) else n)
    by_cases c : vs a = true
    · rw [if_pos c] at h1 h2 h3 ⊢
      have hv : a.f1 ≤ 1000 := by
        unfold vs at c
        exact (of_decide_eq_true c).2.1
      have hm : n ≤ (if a.f1 > n then a.f1 else n) ∧ a.f1 ≤ (if a.f1 > n then a.f1 else n) ∧ (n ≤ 1000 → (if a.f1 > n then a.f1 else n) ≤ 1000) := by
        split <;> omega
      generalize (if a.f1 > n then a.f1 else n) = m at hm h1 h2 h3 ⊢
      refine ⟨by omega, fun hn => h2 (hm.2.2 hn), ?_⟩
      intro s hs hvs
      rcases List.mem_cons.1 hs with rfl | hs
      · omega
      · exact h3 s hs hvs
    · rw [if_neg c] at h1 h2 h3 ⊢
      refine ⟨h1, h2, ?_⟩
      intro s hs hvs
      rcases List.mem_cons.1 hs with rfl | hs
      · exact absurd hvs c
      · exact h3 s hs hvs
theorem beyond (l : List S52) (u : Int) (h : last l 0 ≤ u) : inl l u = false := by
  unfold inl
  rw [List.any_eq_false]
  intro s hs hc
  unfold ins at hc
  simp only [Bool.and_eq_true, decide_eq_true_eq] at hc
  have := (last_le l 0).2.2 s hs hc.1
  omega
theorem sLast (l : List S52) (hl : l.length ≤ 2097152) : ∀ (d : Nat) (i n : Int), 0 ≤ i → (l.length : Int) - i = d → Ev (fun k => spec_l4Last.l0 k l n i) (last (l.drop i.toNat) n) := by
  intro d
  induction d with
  | zero =>
    intro i n h0 hd
    refine K.succ ?_
    simp only [spec_l4Last.l0]
    rw [List.drop_eq_nil_of_le (by omega)]
    exact K.neg (by omega) (Ev.now _)
  | succ d ih =>
    intro i n h0 hd
    refine K.succ ?_
    simp only [spec_l4Last.l0, sVs]
    rw [K.wr (x := i + 1) (by omega) (by omega), rdDrop l i h0 (by omega)]
    refine K.pos (by omega) (K.pos h0 (K.known rfl ?_))
    have e : ∀ (a : S52) (r : List S52), last (a :: r) n = last r (if vs a = true then (if a.f1 > n then a.f1 else n) else n) := fun _ _ => rfl
    rw [e]
    by_cases c : vs (rd_T52 l i) = true
    · rw [if_pos c]
      refine K.pos c (K.known (b := if (rd_T52 l i).f1 > n then (rd_T52 l i).f1 else n) (by unfold spec_Max.f; split <;> rfl) (ih (i + 1) _ (by omega) (by omega)))
    · rw [if_neg c]
      exact K.neg c (ih (i + 1) _ (by omega) (by omega))
def mark (x : List Bool) (a : Int) : Nat → List Bool
  | 0 => x
  | d + 1 => mark (x.set a.toNat true) (a + 1) d
theorem mark_len : ∀ (d : Nat) (x : List Bool) (a : Int), (mark x a d).length = x.length := by
  intro d
  induction d with
  | zero => intro x a; rfl
  | succ d ih =>
    intro x a
    simp only [mark, ih, List.length_set]
theorem mark_get (t : Int) (h0 : 0 ≤ t) : ∀ (d : Nat) (x : List Bool) (a : Int), 0 ≤ a → t < (x.length : Int) → rdOf false (mark x a d) t = (rdOf false x t || (decide (a ≤ t) && decide (t < a + d))) := by
  intro d
  induction d with
  | zero =>
    intro x a ha ht
    have : ¬ (a ≤ t ∧ t < a + (0 : Nat)) := by omega
    rw [← Bool.decide_and, decide_eq_false this, Bool.or_false]
    rfl
  | succ d ih =>
    intro x a ha ht
    simp only [mark]
    rw [ih _ _ (by omega) (by simp; omega)]
    by_cases c : a = t
    · subst c
      have e : rdOf false (x.set a.toNat true) a = true := by
        simp only [rdOf, List.getD_eq_getElem?_getD]
        rw [List.getElem?_set_self (by omega)]
        rfl
      have e2 : (decide (a ≤ a) && decide (a < a + ((d + 1 : Nat) : Int))) = true := by
        rw [← Bool.decide_and]
        exact decide_eq_true (by omega)
      rw [e, e2, Bool.true_or, Bool.or_true]
    · have e : rdOf false (x.set a.toNat true) t = rdOf false x t := by
        simp only [rdOf, List.getD_eq_getElem?_getD]
        rw [List.getElem?_set_ne (by omega)]
      have e2 : (decide (a + 1 ≤ t) && decide (t < a + 1 + (d : Int))) = (decide (a ≤ t) && decide (t < a + ((d + 1 : Nat) : Int))) := by
        rw [← Bool.decide_and, ← Bool.decide_and]
        exact decide_eq_decide.2 (by omega)
      rw [e, e2]
def tk : List S52 → List Bool → List Bool
  | [], x => x
  | s :: l, x => tk l (if vs s = true then mark x s.f0 (s.f1 - s.f0).toNat else x)
theorem tk_len : ∀ (l : List S52) (x : List Bool), (tk l x).length = x.length := by
  intro l
  induction l with
  | nil => intro x; rfl
  | cons s l ih =>
    intro x
    simp only [tk, ih]
    split
    · exact mark_len _ _ _
    · rfl
theorem tk_get (t : Int) (h0 : 0 ≤ t) : ∀ (l : List S52) (x : List Bool), t < (x.length : Int) → rdOf false (tk l x) t = (rdOf false x t || inl l t) := by
  intro l
  induction l with
  | nil =>
    intro x ht
    simp [tk, inl]
  | cons s l ih =>
    intro x ht
    have e : inl (s :: l) t = (ins s t || inl l t) := rfl
    simp only [tk]
    by_cases c : vs s = true
    · rw [if_pos c, ih _ (by rw [mark_len]; exact ht)]
      have hv : s.f0 ≥ 0 ∧ s.f1 ≤ 1000 ∧ s.f0 < s.f1 := by
        unfold vs at c
        exact of_decide_eq_true c
      rw [mark_get t h0 _ _ _ (by omega) ht, e, Bool.or_assoc]
      have e2 : (decide (s.f0 ≤ t) && decide (t < s.f0 + ((s.f1 - s.f0).toNat : Int))) = ins s t := by
        unfold ins
        rw [c, Bool.true_and, ← Bool.decide_and, ← Bool.decide_and]
        exact decide_eq_decide.2 (by omega)
      rw [e2]
    · rw [if_neg c, ih _ ht, e]
      have e2 : ins s t = false := by
        unfold ins
        rw [Bool.eq_false_iff.2 c]
        rfl
      rw [e2, Bool.false_or]
theorem iInner (l : List S52) (i f0 b : Int) (r : List Bool) : ∀ (d : Nat) (x : List Bool) (a : Int), 0 ≤ a → b - a = d → b ≤ (x.length : Int) → x.length ≤ 1000 → 0 ≤ i → i < (l.length : Int) → l.length ≤ 2097152 →
    Ev (fun k => impl_ticks.l0 k (mark x a d) l (l.length : Int) (i + 1)) r → Ev (fun k => impl_ticks.l1 k x a l (l.length : Int) i f0 b) r := by
  intro d
  induction d with
  | zero =>
    intro x a h0 hd hb hx hi0 hi1 hl h
    refine K.succ ?_
    simp only [impl_ticks.l1]
    rw [K.wr (x := i + 1) (by omega) (by omega)]
    exact K.neg (by omega) h
  | succ d ih =>
    intro x a h0 hd hb hx hi0 hi1 hl h
    refine K.succ ?_
    simp only [impl_ticks.l1]
    rw [K.wr (x := a + 1) (by omega) (by omega)]
    exact K.pos (by omega) (K.pos h0 (K.pos (by omega) (ih (x.set a.toNat true) (a + 1) (by omega) (by omega) (by simp; omega) (by simp; omega) hi0 hi1 hl h)))
theorem iTicks (l : List S52) (hl : l.length ≤ 2097152) : ∀ (d : Nat) (i : Int) (x : List Bool), 0 ≤ i → (l.length : Int) - i = d → x.length = 1000 → Ev (fun k => impl_ticks.l0 k x l (l.length : Int) i) (tk (l.drop i.toNat) x) := by
  intro d
  induction d with
  | zero =>
    intro i x h0 hd hx
    refine K.succ ?_
    simp only [impl_ticks.l0]
    rw [List.drop_eq_nil_of_le (by omega)]
    exact K.neg (by omega) (Ev.now _)
  | succ d ih =>
    intro i x h0 hd hx
    refine K.succ ?_
    simp only [impl_ticks.l0, iVs]
    rw [K.wr (x := i + 1) (by omega) (by omega), rdDrop l i h0 (by omega)]
    refine K.pos (by omega) (K.pos h0 (K.pos (by omega) (K.known rfl ?_)))
    simp only [tk]
    by_cases c : vs (rd_T52 l i) = true
    · rw [if_pos c]
      have hv : (rd_T52 l i).f0 ≥ 0 ∧ (rd_T52 l i).f1 ≤ 1000 ∧ (rd_T52 l i).f0 < (rd_T52 l i).f1 := by
        unfold vs at c
        exact of_decide_eq_true c
      refine K.pos c (iInner l i _ _ _ ((rd_T52 l i).f1 - (rd_T52 l i).f0).toNat x _ (by omega) (by omega) (by omega) (by omega) h0 (by omega) hl ?_)
      exact ih (i + 1) _ (by omega) (by omega) (by rw [mark_len]; exact hx)
    · rw [if_neg c]
      exact K.neg c (ih (i + 1) _ (by omega) (by omega) hx)
theorem ticksOf (l : List S52) (hl : l.length ≤ 2097152) : ∃ x : List Bool, Ev (fun k => impl_ticks.f k l) x ∧ x.length = 1000 ∧ ∀ t, 0 ≤ t → t < 1000 → rdOf false x t = inl l t := by
  refine ⟨tk l (List.replicate 1000 false), ?_, ?_, ?_⟩
  · unfold impl_ticks.f
    exact K.pos (by omega) (iTicks l hl l.length 0 _ (by omega) (by omega) (List.length_replicate ..))
  · rw [tk_len, List.length_replicate]
  · intro t h0 h1
    rw [tk_get t h0 _ _ (by rw [List.length_replicate]; omega)]
    have e : rdOf false (List.replicate 1000 false) t = false := by
      simp only [rdOf, List.getD_eq_getElem?_getD, List.getElem?_replicate]
      split <;> rfl
    rw [e, Bool.false_or]
theorem whereRun (q : Nat → Int → Option Bool) (p : Int → Bool) (hi : Int) (hq : ∀ t, 0 ≤ t → t < mn hi 1000 → Ev (fun k => q k t) (p t)) : ∀ (d : Nat) (o : List S52) (t : Int), 0 ≤ t → (mn hi 1000 - t).toNat = d → o.length + d ≤ 7000000000000 → Ev (fun k => sw.l0 q k hi o t) (run p o t d) := by
  intro d
  have hm : mn hi 1000 ≤ 1000 := by unfold mn; split <;> omega
  induction d with
  | zero =>
    intro o t h0 hd ho
    refine K.succ ?_
    simp only [sw.l0, run]
    exact K.neg (by omega) (Ev.now _)
  | succ d ih =>
    intro o t h0 hd ho
    refine K.succ ?_
    simp only [sw.l0, run]
    have w0 : wrap64 (t + 1) = t + 1 := K.wr (by omega) (by omega)
    have w1 : wrap64 ((o.length : Int) - 1) = (o.length : Int) - 1 := K.wr (by omega) (by omega)
    rw [w0, w1]
    refine K.pos (by omega) (Ev.bind (hq t h0 (by omega)) ?_)
    by_cases c : p t = true
    · refine K.pos c ?_
      rw [if_pos c]
      have hp := put_len o t
      have ih' := ih (put o t) (t + 1) (by omega) (by omega)
      unfold put at ih' ⊢
      by_cases c1 : (o.length : Int) > 0
      · rw [if_pos c1] at ih' ⊢
        refine K.pos (by omega) (K.pos (by omega) (K.pos (by omega) ?_))
        by_cases c2 : (rd_T52 o ((o.length : Int) - 1)).f1 = t
        · rw [if_pos c2] at ih' ⊢
          refine K.pos c2 ?_
          rw [c2, w0]
          exact ih' (by simp; omega)
        · rw [if_neg c2] at ih' ⊢
          refine K.neg c2 (K.pos (by omega) (ih' (by simp; omega)))
      · rw [if_neg c1] at ih' ⊢
        refine K.neg (by omega) (K.pos (by omega) (ih' (by simp; omega)))
    · refine K.neg c ?_
      rw [if_neg c]
      exact ih o (t + 1) (by omega) (by omega) (by omega)
theorem sJoin (l : List S52) (hl : l.length ≤ 2097152) (n : Int) (hn : n ≤ 1000) : ∀ (d : Nat) (o : List S52) (t : Int), 0 ≤ t → n - t = d → o.length + d ≤ 7000000000000 → Ev (fun k => spec_JoinSpans.l0 k l o n t) (run (inl l) o t d) := by
  intro d
  induction d with
  | zero =>
    intro o t h0 hd ho
    refine K.succ ?_
    simp only [spec_JoinSpans.l0, run]
    exact K.neg (by omega) (Ev.now _)
  | succ d ih =>
    intro o t h0 hd ho
    refine K.succ ?_
    simp only [spec_JoinSpans.l0, run]
    rw [K.wr (x := t + 1) (by omega) (by omega)]
    refine K.pos (by omega) (Ev.bind (sInl l hl t l.length 0 (by omega) (by omega)) ?_)
    rw [show l.drop (0 : Int).toNat = l from rfl]
    have hp := put_len o t
    by_cases c : inl l t = true
    · rw [if_pos c]
      exact K.pos c (K.known (sPut o t h0 (by omega) (by omega)) (ih (put o t) (t + 1) (by omega) (by omega) (by omega)))
    · rw [if_neg c]
      exact K.neg c (ih o (t + 1) (by omega) (by omega) (by omega))
theorem joinBoth (l : List S52) (hl : l.length ≤ 2097152) : Ev (fun k => spec_JoinSpans.f k l) (run (inl l) [] 0 1000) ∧ Ev (fun k => impl_JoinSpans.f k l) (run (inl l) [] 0 1000) := by
  refine ⟨?_, ?_⟩
  · unfold spec_JoinSpans.f spec_l4Last.f
    refine Ev.bind (sLast l hl l.length 0 0 (by omega) (by omega)) ?_
    rw [show l.drop (0 : Int).toNat = l from rfl]
    obtain ⟨h1, h2, _⟩ := last_le l 0
    have h2' := h2 (by omega)
    have e : run (inl l) [] 0 1000 = run (inl l) [] 0 (last l 0).toNat := by
      rw [show (1000 : Nat) = (last l 0).toNat + (1000 - (last l 0).toNat) by omega, run_add]
      refine run_none _ _ _ _ (fun u hu => beyond l u (by omega))
    rw [e]
    exact sJoin l hl (last l 0) h2' _ [] 0 (by omega) (by omega) (by simp; omega)
  · unfold impl_JoinSpans.f
    obtain ⟨x, g1, g2, g3⟩ := ticksOf l hl
    refine Ev.bind g1 (Ev.bind (r := run (inl l) [] 0 1000) ?_ (Ev.now _))
    unfold where_impl_JoinSpans_1.f sw.f
    have hm : mn 1000 1000 = 1000 := by unfold mn; rfl
    have hx : mx 0 0 = 0 := by unfold mx; rfl
    rw [hx]
    refine whereRun (fun _ t => impl_JoinSpans_1.f t x) (inl l) 1000 (fun t h0 h1 => ?_) 1000 [] 0 (by omega) (by rw [hm]; rfl) (by simp)
    rw [hm] at h1
    unfold impl_JoinSpans_1.f
    rw [g2]
    refine K.pos h0 (K.pos (by omega) ?_)
    rw [g3 t h0 h1]
    exact Ev.now _
def wide (l : List S52) : Prop := ∀ s ∈ l, 0 ≤ s.f0 ∧ s.f0 ≤ s.f1 ∧ s.f1 ≤ 1000
theorem wput_snoc (o : List S52) (t : Int) : (∃ q r, o = q ++ [r] ∧ r.f1 = t ∧ put o t = q ++ [⟨r.f0, t + 1⟩]) ∨ put o t = o ++ [⟨t, t + 1⟩] := by
  rcases List.eq_nil_or_concat o with rfl | ⟨q, r, rfl⟩
  · exact .inr rfl
  · have hl : ((q ++ [r]).length : Int) - 1 = (q.length : Int) := by simp
    have hrd : rd_T52 (q ++ [r]) (q.length : Int) = r := by
      simp [rd_T52, List.getD_eq_getElem?_getD]
    simp only [List.concat_eq_append]
    unfold put
    rw [if_pos (by simp), hl, hrd]
    by_cases c : r.f1 = t
    · rw [if_pos c]
      refine .inl ⟨q, r, rfl, c, ?_⟩
      simp
    · rw [if_neg c]
      exact .inr rfl
theorem wide_put (o : List S52) (t : Int) (h0 : 0 ≤ t) (h1 : t < 1000) (h : wide o) : wide (put o t) := by
  rcases wput_snoc o t with ⟨q, r, rfl, hr, e⟩ | e
  · rw [e]
    intro s hs
    rcases List.mem_append.1 hs with hs | hs
    · exact h s (by simp [hs])
    · rw [List.mem_singleton] at hs
      subst hs
      have := h r (by simp)
      exact ⟨this.1, by show r.f0 ≤ t + 1; omega, by show t + 1 ≤ 1000; omega⟩
  · rw [e]
    intro s hs
    rcases List.mem_append.1 hs with hs | hs
    · exact h s hs
    · rw [List.mem_singleton] at hs
      subst hs
      exact ⟨h0, by show t ≤ t + 1; omega, by show t + 1 ≤ 1000; omega⟩
theorem wide_run (p : Int → Bool) : ∀ (d : Nat) (o : List S52) (t : Int), 0 ≤ t → t + d ≤ 1000 → wide o → wide (run p o t d) := by
  intro d
  induction d with
  | zero => intro o t _ _ h; exact h
  | succ d ih =>
    intro o t h0 h1 h
    simp only [run]
    refine ih _ _ (by omega) (by omega) ?_
    split
    · exact wide_put o t h0 (by omega) h
    · exact h
theorem sMin (a b : Int) : spec_Min.f a b = some (mn a b) := by
  unfold spec_Min.f mn
  split <;> rfl
theorem sIsSpan (a b : Int) : spec_IsSpan.f a b = some (decide (0 ≤ a ∧ b ≤ 1000 ∧ a < b)) := by
  unfold spec_IsSpan.f
  split <;> (try split) <;> first | rfl | (congr 1; exact decide_eq_decide.2 (by omega)) | (congr 1; exact (decide_eq_false (by omega)).symm)
theorem sShort (st : Int) (h0 : 0 ≤ st) (h1 : st ≤ 1000) : ∀ (q p o : List S52), wide (p ++ q) → p.length + q.length ≤ 1000 → o.length ≤ p.length → ∃ v : List S52, v.length ≤ 1000 ∧ Ev (fun k => spec_ShortenSpans.l0 k st 0 o (p ++ q) (p.length : Int)) v ∧ Ev (fun k => impl_ShortenSpans.l0 k st 0 o (p ++ q) ((p ++ q).length : Int) (p.length : Int)) v
  | [], p, o, hw, hl, ho => by
    refine ⟨o, by omega, K.succ ?_, K.succ ?_⟩
    · simp only [spec_ShortenSpans.l0]
      exact K.neg (by simp) (Ev.now _)
    · simp only [impl_ShortenSpans.l0]
      exact K.neg (by simp) (Ev.now _)
  | s :: q, p, o, hw, hl, ho => by
    simp at hl
    obtain ⟨s0, s1, s2⟩ := hw s (by simp)
    have hr : rd_T52 (p ++ s :: q) (p.length : Int) = s := by simp [rd_T52, List.getD_eq_getElem?_getD]
    have w1 := Aside0.mk (K.wr (x := (p.length : Int) + 1) (by omega) (by omega))
    have w2 := Aside0.mk (K.wr (x := s.f0 + st) (by omega) (by omega))
    have w3 := Aside0.mk (K.wr (x := s.f1 - 0) (by omega) (by omega))
    have m1 : mn st 1000 = st := by unfold mn; split <;> omega
    have m2 : mn 0 1000 = 0 := by unfold mn; rfl
    have e2 : p ++ s :: q = (p ++ [s]) ++ q := by simp
    have e3 : (p.length : Int) + 1 = ((p ++ [s]).length : Int) := by simp
    by_cases c : s.f0 + st < s.f1 - 0
    · obtain ⟨v, hv, g1, g2⟩ := sShort st h0 h1 q (p ++ [s]) (o ++ [⟨s.f0 + st, s.f1 - 0⟩]) (by rw [← e2]; exact hw) (by simp; omega) (by simp; omega)
      rw [← e2, ← e3] at g1 g2
      refine ⟨v, hv, K.succ ?_, K.succ ?_⟩
      · simp only [spec_ShortenSpans.l0, hr, sMin, m1, m2, sIsSpan, Option.bind_some, w1.out, w2.out, w3.out]
        exact K.pos (by simp; omega) (K.pos (by omega) (K.pos (decide_eq_true ⟨by omega, by omega, c⟩) (K.pos (by omega) g1)))
      · simp only [impl_ShortenSpans.l0, hr, w1.out, w2.out, w3.out]
        exact K.pos (by simp; omega) (K.pos (by omega) (K.pos (by simp; omega) (K.pos c (K.pos (by omega) g2))))
    · obtain ⟨v, hv, g1, g2⟩ := sShort st h0 h1 q (p ++ [s]) o (by rw [← e2]; exact hw) (by simp; omega) (by simp; omega)
      rw [← e2, ← e3] at g1 g2
      refine ⟨v, hv, K.succ ?_, K.succ ?_⟩
      · simp only [spec_ShortenSpans.l0, hr, sMin, m1, m2, sIsSpan, Option.bind_some, w1.out, w2.out, w3.out]
        exact K.pos (by simp; omega) (K.pos (by omega) (K.neg (by simp; omega) g1))
      · simp only [impl_ShortenSpans.l0, hr, w1.out, w2.out, w3.out]
        exact K.pos (by simp; omega) (K.pos (by omega) (K.pos (by simp; omega) (K.neg c g2)))
theorem sFar (st : Int) (h1 : 1000 < st) : ∀ (q p : List S52), wide (p ++ q) → p.length + q.length ≤ 1000 → Ev (fun k => spec_ShortenSpans.l0 k st 0 [] (p ++ q) (p.length : Int)) []
  | [], p, hw, hl => by
    refine K.succ ?_
    simp only [spec_ShortenSpans.l0]
    exact K.neg (by simp) (Ev.now _)
  | s :: q, p, hw, hl => by
    simp at hl
    obtain ⟨s0, s1, s2⟩ := hw s (by simp)
    have hr : rd_T52 (p ++ s :: q) (p.length : Int) = s := by simp [rd_T52, List.getD_eq_getElem?_getD]
    have w1 := Aside0.mk (K.wr (x := (p.length : Int) + 1) (by omega) (by omega))
    have w2 := Aside0.mk (K.wr (x := s.f0 + 1000) (by omega) (by omega))
    have w3 := Aside0.mk (K.wr (x := s.f1 - 0) (by omega) (by omega))
    have m1 : mn st 1000 = 1000 := by unfold mn; split <;> omega
    have m2 : mn 0 1000 = 0 := by unfold mn; rfl
    have e2 : p ++ s :: q = (p ++ [s]) ++ q := by simp
    have e3 : (p.length : Int) + 1 = ((p ++ [s]).length : Int) := by simp
    have g := sFar st h1 q (p ++ [s]) (by rw [← e2]; exact hw) (by simp; omega)
    rw [← e2, ← e3] at g
    refine K.succ ?_
    simp only [spec_ShortenSpans.l0, hr, sMin, m1, m2, sIsSpan, Option.bind_some, w1.out, w2.out, w3.out]
    exact K.pos (by simp; omega) (K.pos (by omega) (K.neg (by simp; omega) g))
theorem shorten (l : List S52) (hl : l.length ≤ 2097152) (st : Int) : ∃ v : List S52, v.length ≤ 1000 ∧ Ev (fun k => spec_ShortenSpans.f k l st 0) v ∧ Ev (fun k => impl_ShortenSpans.f k l st 0) v := by
  obtain ⟨j1, j2⟩ := joinBoth l hl
  have hw : wide (run (inl l) [] 0 1000) := wide_run _ 1000 [] 0 (by omega) (by omega) (by intro s hs; simp at hs)
  have hln : (run (inl l) [] 0 1000).length ≤ 1000 := Nat.le_trans (run_len _ 1000 [] 0) (by simp)
  generalize run (inl l) [] 0 1000 = r at j1 j2 hw hln
  unfold spec_ShortenSpans.f impl_ShortenSpans.f
  simp only [Option.bind_some]
  by_cases c : st < 0
  · refine ⟨[], by simp, K.pos c (K.succ ?_), K.pos c (K.succ ?_)⟩
    · simp only [spec_ShortenSpans.j0]
      exact K.pos trivial (Ev.now _)
    · simp only [impl_ShortenSpans.j0]
      exact K.pos trivial (Ev.now _)
  by_cases d : st > 1000
  · refine ⟨[], by simp, K.neg c (K.succ ?_), K.neg c (K.neg (by omega) (K.pos d (K.succ ?_)))⟩
    · simp only [spec_ShortenSpans.j0]
      exact K.neg (by simp) (Ev.bind j1 (sFar st (by omega) r [] hw (by simp; omega)))
    · simp only [impl_ShortenSpans.j0]
      exact K.pos trivial (Ev.now _)
  obtain ⟨v, hv, g1, g2⟩ := sShort st (by omega) (by omega) r [] [] hw (by simp; omega) (by simp)
  refine ⟨v, hv, K.neg c (K.succ ?_), K.neg c (K.neg (by omega) (K.neg d (K.succ ?_)))⟩
  · simp only [spec_ShortenSpans.j0]
    exact K.neg (by simp) (Ev.bind j1 g1)
  · simp only [impl_ShortenSpans.j0]
    exact K.neg (by simp) (Ev.bind j2 g2)
theorem sMax (a b : Int) : spec_Max.f a b = some (mx a b) := by
  unfold spec_Max.f mx
  split <;> first | rfl | (split <;> first | rfl | (exfalso; omega))
theorem inl_app (a b : List S52) (t : Int) : inl (a ++ b) t = (inl a t || inl b t) := by
  unfold inl
  rw [List.any_append]
theorem put_snoc (o : List S52) (t : Int) : (∃ q r, o = q ++ [r] ∧ r.f1 = t ∧ put o t = q ++ [⟨r.f0, t + 1⟩]) ∨ put o t = o ++ [⟨t, t + 1⟩] := by
  rcases List.eq_nil_or_concat o with rfl | ⟨q, r, rfl⟩
  · exact .inr rfl
  · have hl : ((q ++ [r]).length : Int) - 1 = (q.length : Int) := by simp
    have hrd : rd_T52 (q ++ [r]) (q.length : Int) = r := by
      simp [rd_T52, List.getD_eq_getElem?_getD]
    simp only [List.concat_eq_append]
    unfold put
    rw [if_pos (by simp), hl, hrd]
    by_cases c : r.f1 = t
    · rw [if_pos c]
      refine .inl ⟨q, r, rfl, c, ?_⟩
      simp
    · rw [if_neg c]
      exact .inr rfl
theorem ins_one (s : S52) (t : Int) : inl [s] t = ins s t := by
  simp [inl]
theorem put_ok (o : List S52) (t u : Int) (h0 : 0 ≤ t) (h1 : t < 1000) (hv : ∀ s ∈ o, vs s = true) : (∀ s ∈ put o t, vs s = true) ∧ inl (put o t) u = (inl o u || decide (u = t)) := by
  rcases put_snoc o t with ⟨q, r, rfl, hr, e⟩ | e
  · have hvr := hv r (by simp)
    unfold vs at hvr
    have hvr := of_decide_eq_true hvr
    have hn : vs (⟨r.f0, t + 1⟩ : S52) = true := by
      unfold vs
      exact decide_eq_true ⟨hvr.1, by show t + 1 ≤ 1000; omega, by show r.f0 < t + 1; omega⟩
    refine ⟨?_, ?_⟩
    · rw [e]
      intro s hs
      rcases List.mem_append.1 hs with hs | hs
      · exact hv s (by simp [hs])
      · rw [List.mem_singleton] at hs
        subst hs
        exact hn
    · rw [e, inl_app, inl_app, ins_one, ins_one, Bool.or_assoc]
      congr 1
      unfold ins
      rw [hn, hv r (by simp), Bool.true_and, Bool.true_and, ← Bool.decide_and, ← Bool.decide_and, ← Bool.decide_or]
      exact decide_eq_decide.2 (by show r.f0 ≤ u ∧ u < t + 1 ↔ (r.f0 ≤ u ∧ u < r.f1) ∨ u = t; omega)
  · have hn : vs (⟨t, t + 1⟩ : S52) = true := by
      unfold vs
      exact decide_eq_true ⟨h0, by show t + 1 ≤ 1000; omega, by show t < t + 1; omega⟩
    refine ⟨?_, ?_⟩
    · rw [e]
      intro s hs
      rcases List.mem_append.1 hs with hs | hs
      · exact hv s hs
      · rw [List.mem_singleton] at hs
        subst hs
        exact hn
    · rw [e, inl_app, ins_one]
      congr 1
      unfold ins
      rw [hn, Bool.true_and, ← Bool.decide_and]
      exact decide_eq_decide.2 (by show t ≤ u ∧ u < t + 1 ↔ u = t; omega)
theorem run_ok (p : Int → Bool) (u : Int) : ∀ (d : Nat) (o : List S52) (t : Int), 0 ≤ t → t + d ≤ 1000 → (∀ s ∈ o, vs s = true) → (∀ s ∈ run p o t d, vs s = true) ∧ inl (run p o t d) u = (inl o u || (decide (t ≤ u ∧ u < t + d) && p u)) := by
  intro d
  induction d with
  | zero =>
    intro o t h0 h1 hv
    refine ⟨hv, ?_⟩
    rw [decide_eq_false (by omega)]
    simp [run]
  | succ d ih =>
    intro o t h0 h1 hv
    simp only [run]
    by_cases c : p t = true
    · rw [if_pos c]
      obtain ⟨v1, e1⟩ := put_ok o t u h0 (by omega) hv
      obtain ⟨v2, e2⟩ := ih (put o t) (t + 1) (by omega) (by omega) v1
      refine ⟨v2, ?_⟩
      rw [e2, e1, Bool.or_assoc]
      congr 1
      by_cases hu : u = t
      · subst hu
        rw [decide_eq_true rfl, decide_eq_true (show u ≤ u ∧ u < u + ((d + 1 : Nat) : Int) by omega), c]
        rfl
      · rw [decide_eq_false hu, Bool.false_or]
        congr 1
        exact decide_eq_decide.2 (by omega)
    · rw [if_neg c]
      obtain ⟨v2, e2⟩ := ih o (t + 1) (by omega) (by omega) hv
      refine ⟨v2, ?_⟩
      rw [e2]
      congr 1
      by_cases hu : u = t
      · subst hu
        rw [Bool.eq_false_iff.2 c, Bool.and_false, Bool.and_false]
      · congr 1
        exact decide_eq_decide.2 (by omega)
theorem inl_all (p : Int → Bool) (u : Int) (h0 : 0 ≤ u) (h1 : u < 1000) : inl (run p [] 0 1000) u = p u := by
  rw [(run_ok p u 1000 [] 0 (by omega) (by omega) (by simp)).2, decide_eq_true (by omega)]
  simp [inl]
def cutP (a b : List S52) (t : Int) : Bool := inl a t && !inl b t
theorem sCut (a b : List S52) (ha : a.length ≤ 2097152) (hb : b.length ≤ 2097152) (n : Int) (hn : n ≤ 1000) : ∀ (d : Nat) (o : List S52) (t : Int), 0 ≤ t → n - t = d → o.length + d ≤ 7000000000000 → Ev (fun k => spec_CutSpans.l0 k a b o n t) (run (cutP a b) o t d) := by
  intro d
  induction d with
  | zero =>
    intro o t h0 hd ho
    refine K.succ ?_
    simp only [spec_CutSpans.l0, run]
    exact K.neg (by omega) (Ev.now _)
  | succ d ih =>
    intro o t h0 hd ho
    refine K.succ ?_
    simp only [spec_CutSpans.l0, run]
    rw [K.wr (x := t + 1) (by omega) (by omega)]
    refine K.pos (by omega) (Ev.bind (sInl a ha t a.length 0 (by omega) (by omega)) ?_)
    rw [show a.drop (0 : Int).toNat = a from rfl]
    have hp := put_len o t
    by_cases c : inl a t = true
    · refine K.pos c (Ev.bind (sInl b hb t b.length 0 (by omega) (by omega)) ?_)
      rw [show b.drop (0 : Int).toNat = b from rfl]
      by_cases c2 : inl b t = true
      · rw [if_neg (by simp [cutP, c2])]
        exact K.pos c2 (ih o (t + 1) (by omega) (by omega) (by omega))
      · rw [if_pos (by simp [cutP, c, c2])]
        exact K.neg c2 (K.known (sPut o t h0 (by omega) (by omega)) (ih (put o t) (t + 1) (by omega) (by omega) (by omega)))
    · rw [if_neg (by simp [cutP, c])]
      exact K.neg c (ih o (t + 1) (by omega) (by omega) (by omega))
theorem cutBoth (a b : List S52) (ha : a.length ≤ 2097152) (hb : b.length ≤ 2097152) : Ev (fun k => spec_CutSpans.f k a b) (run (cutP a b) [] 0 1000) ∧ Ev (fun k => impl_CutSpans.f k a b) (run (cutP a b) [] 0 1000) := by
  refine ⟨?_, ?_⟩
  · unfold spec_CutSpans.f spec_l4Last.f
    refine Ev.bind (sLast a ha a.length 0 0 (by omega) (by omega)) ?_
    rw [show a.drop (0 : Int).toNat = a from rfl]
    obtain ⟨h1, h2, _⟩ := last_le a 0
    have h2' := h2 (by omega)
    have e : run (cutP a b) [] 0 1000 = run (cutP a b) [] 0 (last a 0).toNat := by
      rw [show (1000 : Nat) = (last a 0).toNat + (1000 - (last a 0).toNat) by omega, run_add]
      refine run_none _ _ _ _ (fun u hu => ?_)
      unfold cutP
      rw [beyond a u (by omega)]
      rfl
    rw [e]
    exact sCut a b ha hb (last a 0) h2' _ [] 0 (by omega) (by omega) (by simp; omega)
  · unfold impl_CutSpans.f
    obtain ⟨x, g1, g2, g3⟩ := ticksOf a ha
    obtain ⟨y, i1, i2, i3⟩ := ticksOf b hb
    refine Ev.bind g1 (Ev.bind i1 (Ev.bind (r := run (cutP a b) [] 0 1000) ?_ (Ev.now _)))
    unfold where_impl_CutSpans_1.f sw.f
    have hm : mn 1000 1000 = 1000 := by unfold mn; rfl
    have hx : mx 0 0 = 0 := by unfold mx; rfl
    rw [hx]
    refine whereRun (fun _ t => impl_CutSpans_1.f t x y) (cutP a b) 1000 (fun t h0 h1 => ?_) 1000 [] 0 (by omega) (by rw [hm]; rfl) (by simp)
    rw [hm] at h1
    unfold impl_CutSpans_1.f cutP
    rw [g2, i2, g3 t h0 h1, i3 t h0 h1]
    refine K.pos h0 (K.pos (by omega) ?_)
    by_cases c : inl a t = true
    · rw [c]
      exact K.pos rfl (K.pos (by omega) (Ev.now _))
    · rw [Bool.eq_false_iff.2 c]
      exact K.neg Bool.false_ne_true (Ev.now _)
theorem cut_cut (a b c : List S52) : run (cutP (run (cutP a b) [] 0 1000) c) [] 0 1000 = run (cutP a (b ++ c)) [] 0 1000 := by
  refine run_eq _ _ _ _ _ (fun u h0 h1 => ?_)
  unfold cutP
  rw [inl_all _ u h0 (by omega), inl_app, Bool.not_or, Bool.and_assoc]
theorem concat2 (a b : List S52) (ha : a.length ≤ 2097152) (hb : b.length ≤ 2097152) : Ev (fun k => impl_Span_57.f k [a, b]) (a ++ b) := by
  unfold impl_Span_57.f
  have r0 : rd_L12 [a, b] 0 = a := rfl
  have r1 : rd_L12 [a, b] 1 = b := rfl
  have hl : (([a, b] : List (List S52)).length : Int) = 2 := rfl
  have w0 : wrap64 (0 + (a.length : Int)) = (a.length : Int) := by
    rw [K.wr (by omega) (by omega)]
    omega
  have w1 : wrap64 ((a.length : Int) + (b.length : Int)) = (a.length : Int) + (b.length : Int) := K.wr (by omega) (by omega)
  have w2 : wrap64 (0 + 1) = 1 := K.wr (x := 0 + 1) (by omega) (by omega)
  have w3 : wrap64 (1 + 1) = 2 := K.wr (x := 1 + 1) (by omega) (by omega)
  have hg : grow75.f ((a.length : Int) + (b.length : Int)) = some [] := by
    unfold grow75.f
    rw [if_pos (by omega)]
  rw [hl]
  refine K.succ ?_
  simp only [impl_Span_57.l0, r0, w0, w2]
  refine K.pos (by decide) (K.pos (by decide) (K.pos (by rw [hl]; decide) (K.neg (by omega) (K.succ ?_))))
  simp only [impl_Span_57.l0, r1, w1, w3]
  refine K.pos (by decide) (K.pos (by decide) (K.pos (by rw [hl]; decide) (K.neg (by omega) (K.succ ?_))))
  simp only [impl_Span_57.l0]
  refine K.neg (by decide) (K.known hg ?_)
  rw [hl]
  refine K.succ ?_
  simp only [impl_Span_57.l1, r0, w2, List.nil_append]
  refine K.pos (by decide) (K.pos (by decide) (K.pos (by rw [hl]; decide) (K.pos (by simp; omega) (K.succ ?_))))
  simp only [impl_Span_57.l1, r1, w3]
  refine K.pos (by decide) (K.pos (by decide) (K.pos (by rw [hl]; decide) (K.pos (by omega) (K.succ ?_))))
  simp only [impl_Span_57.l1]
  exact K.neg (by decide) (Ev.now _)
theorem l1In (a b c : Int) : spec_l1In.f a b c = some (decide (b ≤ a ∧ a ≤ c)) := by
  unfold spec_l1In.f
  split <;> (try split) <;> first | rfl | (congr 1; exact decide_eq_decide.2 (by omega)) | (congr 1; exact (decide_eq_false (by omega)).symm)
theorem InRange (a b c : Int) : impl_InRange.f a b c = some (decide (b ≤ a ∧ a ≤ c)) := by
  unfold impl_InRange.f
  split <;> (try split) <;> first | rfl | (congr 1; exact decide_eq_decide.2 (by omega)) | (congr 1; exact (decide_eq_false (by omega)).symm)
theorem sIsSite (pl : Int) (sa : List S68) (si : List S70) (rc cr vw su sh : Int) (zo : List S76) (ac : Int) (hn : (sa.length : Int) + si.length ≤ 4194304) (i : Int) : spec_IsSite.f pl sa si rc cr vw su sh zo ac i = some (decide ((sa.length : Int) ≤ i ∧ i < (sa.length : Int) + si.length)) := by
  unfold spec_IsSite.f spec_NodesOf.f
  simp only [Option.bind_some, l1In]
  rw [K.wr (x := (sa.length : Int) + si.length) (by omega) (by omega), K.wr (by omega) (by omega)]
  congr 1
  exact decide_eq_decide.2 (by omega)
theorem iIsSite (pl : Int) (sa : List S68) (si : List S70) (rc cr vw su sh : Int) (zo : List S76) (ac : Int) (hn : (sa.length : Int) + si.length ≤ 4194304) (i : Int) : impl_IsSite.f pl sa si rc cr vw su sh zo ac i = some (decide ((sa.length : Int) ≤ i ∧ i < (sa.length : Int) + si.length)) := by
  unfold impl_IsSite.f impl_NodesOf.f
  simp only [Option.bind_some, InRange]
  rw [K.wr (x := (sa.length : Int) + si.length) (by omega) (by omega), K.wr (by omega) (by omega)]
  congr 1
  exact decide_eq_decide.2 (by omega)
theorem iIsSat (pl : Int) (sa : List S68) (si : List S70) (rc cr vw su sh : Int) (zo : List S76) (ac : Int) (hn : (sa.length : Int) + si.length ≤ 4194304) (i : Int) : impl_isSatellite.f pl sa si rc cr vw su sh zo ac i = some (decide (0 ≤ i ∧ i < (sa.length : Int))) := by
  unfold impl_isSatellite.f
  simp only [Option.bind_some, InRange]
  rw [K.wr (by omega) (by omega)]
  congr 1
  exact decide_eq_decide.2 (by omega)
theorem sIsSat (sa : List S68) (hn : (sa.length : Int) ≤ 4194304) (i : Int) : spec_l1In.f i 0 (wrap64 ((sa.length : Int) - 1)) = some (decide (0 ≤ i ∧ i < (sa.length : Int))) := by
  rw [l1In, K.wr (by omega) (by omega)]
  congr 1
  exact decide_eq_decide.2 (by omega)
theorem sAngle (n : Int) : spec_AngleOf.f n = some (n % 360) := by
  unfold spec_AngleOf.f spec_Mod.f
  have e : decide ((1 : Int) ≤ 360 ∧ (360 : Int) ≤ 1000000000000) = true := by decide
  simp only [l1In, e, Option.bind_some, ↓reduceIte]
  rw [if_neg (by omega)]
  have h := Int.tmod_eq_emod (a := n) (b := 360)
  have hb : -360 < Int.tmod n 360 ∧ Int.tmod n 360 < 360 := by
    rw [h]
    split <;> omega
  rw [K.wr (by omega) (by omega), Int.tmod_eq_emod_of_nonneg (by omega)]
  simp only [Option.bind_some]
  congr 1
  rw [h]
  split <;> omega
theorem iAngle (n : Int) : impl_AngleOf.f n = some (n % 360) := by
  unfold impl_AngleOf.f impl_Mod.f
  have e : decide ((1 : Int) ≤ 360 ∧ (360 : Int) ≤ 1000000000000) = true := by decide
  simp only [InRange, e, Option.bind_some, ↓reduceIte]
  rw [if_neg (by omega)]
  have h := Int.tmod_eq_emod (a := n) (b := 360)
  have hb : -360 < Int.tmod n 360 ∧ Int.tmod n 360 < 360 := by
    rw [h]
    split <;> omega
  have hd : (360 : Int) ∣ n → Int.tmod n 360 = n % 360 := by
    intro hd
    rw [h, if_pos (Or.inr hd)]
    simp
  by_cases c : Int.tmod n 360 < 0
  · rw [if_pos c, K.wr (by omega) (by omega)]
    simp only [Option.bind_some]
    congr 1
    rw [h] at c ⊢
    split at c <;> split <;> omega
  · rw [if_neg c]
    simp only [Option.bind_some]
    congr 1
    rw [h] at c ⊢
    split at c <;> split <;> omega
def placeV (ph sp t : Int) : Int := (ph % 360 + (if -60 ≤ sp ∧ sp ≤ 60 then sp else 0) * (if 0 ≤ t ∧ t ≤ 1000 then t else 0)) % 360
theorem place_bd (s t : Int) (hs : -60 ≤ s ∧ s ≤ 60) (ht : 0 ≤ t ∧ t ≤ 1000) : -60000 ≤ s * t ∧ s * t ≤ 60000 := by
  have h1 : s * t ≤ 60 * t := Int.mul_le_mul_of_nonneg_right hs.2 ht.1
  have h2 : -60 * t ≤ s * t := Int.mul_le_mul_of_nonneg_right hs.1 ht.1
  omega
theorem sPlace (a ph sp e t : Int) : spec_PlaceAt.f a ph sp e t = some (placeV ph sp t) := by
  unfold spec_PlaceAt.f placeV spec_l6Speed.f
  simp only [l1In, sAngle, Option.bind_some, decide_eq_true_eq]
  by_cases ct : 0 ≤ t ∧ t ≤ 1000
  · rw [if_pos ct]
    by_cases cs : -60 ≤ sp ∧ sp ≤ 60
    · have := place_bd sp t cs ct
      rw [if_pos cs]
      simp only [Option.bind_some, if_pos ct, if_pos cs]
      rw [K.wr (x := sp * t) (by omega) (by omega), K.wr (by omega) (by omega)]
    · rw [if_neg cs]
      simp only [Option.bind_some, if_pos ct, if_neg cs]
      rw [K.wr (x := 0 * t) (by omega) (by omega), K.wr (by omega) (by omega)]
  · rw [if_neg ct]
    by_cases cs : -60 ≤ sp ∧ sp ≤ 60
    · rw [if_pos cs]
      simp only [Option.bind_some, if_neg ct]
      rw [K.wr (by omega) (by omega), Int.mul_zero, Int.add_zero]
    · rw [if_neg cs]
      simp only [Option.bind_some, if_neg ct]
      rw [K.wr (by omega) (by omega), Int.mul_zero, Int.add_zero]
theorem iPlace (a ph sp e t : Int) : impl_PlaceAt.f a ph sp e t = some (placeV ph sp t) := by
  unfold impl_PlaceAt.f placeV impl_speedOf.f
  simp only [InRange, iAngle, Option.bind_some, decide_eq_true_eq]
  by_cases ct : 0 ≤ t ∧ t ≤ 1000
  · rw [if_pos ct]
    by_cases cs : -60 ≤ sp ∧ sp ≤ 60
    · have := place_bd sp t cs ct
      rw [if_pos cs]
      simp only [Option.bind_some, if_pos ct, if_pos cs]
      rw [K.wr (x := sp * t) (by omega) (by omega), K.wr (by omega) (by omega)]
    · rw [if_neg cs]
      simp only [Option.bind_some, if_pos ct, if_neg cs]
      rw [K.wr (x := 0 * t) (by omega) (by omega), K.wr (by omega) (by omega)]
  · rw [if_neg ct]
    by_cases cs : -60 ≤ sp ∧ sp ≤ 60
    · rw [if_pos cs]
      simp only [Option.bind_some, if_neg ct]
      rw [K.wr (by omega) (by omega), Int.mul_zero, Int.add_zero]
    · rw [if_neg cs]
      simp only [Option.bind_some, if_neg ct]
      rw [K.wr (by omega) (by omega), Int.mul_zero, Int.add_zero]
theorem place_range (ph sp t : Int) : 0 ≤ placeV ph sp t ∧ placeV ph sp t < 360 := by unfold placeV; omega
theorem iWidth (n : Int) : impl_isWidth.f n = some (decide (0 ≤ n ∧ n ≤ 359)) := by
  unfold impl_isWidth.f
  simp only [InRange, Option.bind_some]
/-- The arc about a place, as wide as an error says: its start and its width. -/
def widS (p e : Int) : Int := if 0 ≤ e ∧ e ≤ 360 then (p % 360 - e) % 360 else p % 360
def widW (e : Int) : Int := if 0 ≤ e ∧ e ≤ 360 then mn (2 * e) 359 else 0
theorem sWiden (p e : Int) : Ev (fun k => spec_WidenArc.f k p 0 e) (widS p e, widW e) := by
  unfold spec_WidenArc.f widS widW
  have e0 : decide ((0 : Int) ≤ 0 ∧ (0 : Int) ≤ 359) = true := by decide
  simp only [l1In, e0, Option.bind_some, decide_eq_true_eq]
  by_cases c : 0 ≤ e ∧ e ≤ 360
  · rw [if_pos c, if_pos c]
    refine K.pos c (K.succ ?_)
    simp only [spec_WidenArc.j0, sAngle, sMin, Option.bind_some]
    refine K.neg (by decide) ?_
    rw [K.wr (x := p % 360 - e) (by omega) (by omega), K.wr (x := 2 * e) (by omega) (by omega), Int.zero_add, K.wr (x := 2 * e) (by omega) (by omega)]
    have hm : mn 359 (2 * e) = mn (2 * e) 359 := by unfold mn; split <;> split <;> omega
    rw [hm]
    exact Ev.now _
  · rw [if_neg c, if_neg c]
    refine K.neg c (K.succ ?_)
    simp only [spec_WidenArc.j0, sAngle, Option.bind_some]
    exact K.pos (by trivial) (Ev.now _)
theorem iWiden (p e : Int) : impl_WidenArc.f p 0 e = some (widS p e, widW e) := by
  unfold impl_WidenArc.f widS widW
  have e0 : decide ((0 : Int) ≤ 0 ∧ (0 : Int) ≤ 359) = true := by decide
  simp only [InRange, iWidth, iAngle, e0, Option.bind_some, decide_eq_true_eq, ↓reduceIte]
  by_cases c : 0 ≤ e ∧ e ≤ 360
  · rw [if_pos c, if_pos c, if_pos c, K.wr (x := p % 360 - e) (by omega) (by omega), K.wr (x := 2 * e) (by omega) (by omega), Int.zero_add, K.wr (x := 2 * e) (by omega) (by omega)]
  · rw [if_neg c, if_neg c, if_neg c]
theorem wid_range (p e : Int) : 0 ≤ widS p e ∧ widS p e < 360 ∧ 0 ≤ widW e ∧ widW e ≤ 359 := by
  unfold widS widW mn
  split <;> (try split) <;> omega
def nodeS (sa : List S68) (si : List S70) (i t : Int) : Int :=
  if 0 ≤ i ∧ i < (sa.length : Int) then widS (placeV (rd_T68 sa i).f1 (rd_T68 sa i).f2 t) (rd_T68 sa i).f3 else if (sa.length : Int) ≤ i ∧ i < (sa.length : Int) + si.length then placeV (rd_T70 si (i - sa.length)).f1 (rd_T70 si (i - sa.length)).f2 t else 0
def nodeW (sa : List S68) (i : Int) : Int :=
  if 0 ≤ i ∧ i < (sa.length : Int) then widW (rd_T68 sa i).f3 else 0
theorem sNode (pl : Int) (sa : List S68) (si : List S70) (rc cr vw su sh : Int) (zo : List S76) (ac : Int) (hn : (sa.length : Int) + si.length ≤ 4194304) (i t : Int) : Ev (fun k => spec_NodeAt.f k pl sa si rc cr vw su sh zo ac i t) (nodeS sa si i t, nodeW sa i) := by
  unfold spec_NodeAt.f nodeS nodeW
  simp only [sIsSat sa (by omega), sIsSite _ _ _ _ _ _ _ _ _ _ hn, Option.bind_some, decide_eq_true_eq]
  by_cases c : 0 ≤ i ∧ i < (sa.length : Int)
  · rw [if_pos c, if_pos c]
    refine K.pos c (K.pos c.1 (K.pos c.2 ?_))
    unfold spec_PlacesAt.f
    simp only [sPlace, Option.bind_some]
    exact Ev.bind (Ev.bind (sWiden _ _) (Ev.now _)) (Ev.now _)
  · rw [if_neg c, if_neg c]
    refine K.neg c ?_
    by_cases c2 : (sa.length : Int) ≤ i ∧ i < (sa.length : Int) + si.length
    · simp only [if_pos c2, sPlace, Option.bind_some]
      rw [K.wr (x := i - sa.length) (by omega) (by omega), if_pos (by omega), if_pos (by omega)]
      exact Ev.now _
    · simp only [if_neg c2]
      exact Ev.now _
theorem iNode (pl : Int) (sa : List S68) (si : List S70) (rc cr vw su sh : Int) (zo : List S76) (ac : Int) (hn : (sa.length : Int) + si.length ≤ 4194304) (i t : Int) : impl_NodeAt.f pl sa si rc cr vw su sh zo ac i t = some (nodeS sa si i t, nodeW sa i) := by
  unfold impl_NodeAt.f nodeS nodeW impl_PlacesAt.f
  simp only [iIsSat _ _ _ _ _ _ _ _ _ _ hn, iIsSite _ _ _ _ _ _ _ _ _ _ hn, iPlace, iWiden, Option.bind_some, decide_eq_true_eq]
  by_cases c : 0 ≤ i ∧ i < (sa.length : Int)
  · rw [if_pos c, if_pos c, if_pos c.1, if_pos c.2, if_pos c]
  · rw [if_neg c, if_neg c, if_neg c]
    by_cases c2 : (sa.length : Int) ≤ i ∧ i < (sa.length : Int) + si.length
    · rw [if_pos c2, if_pos c2, K.wr (x := i - sa.length) (by omega) (by omega), if_pos (by omega), if_pos (by omega)]
    · rw [if_neg c2, if_neg c2]
theorem node_range (sa : List S68) (si : List S70) (i t : Int) : 0 ≤ nodeS sa si i t ∧ nodeS sa si i t < 360 ∧ 0 ≤ nodeW sa i ∧ nodeW sa i ≤ 359 := by
  have h1 := wid_range (placeV (rd_T68 sa i).f1 (rd_T68 sa i).f2 t) (rd_T68 sa i).f3
  have h2 := place_range (rd_T70 si (i - sa.length)).f1 (rd_T70 si (i - sa.length)).f2 t
  unfold nodeS nodeW
  split
  · exact h1
  · split <;> omega
def planeV (sa : List S68) (si : List S70) (i : Int) : Int :=
  if 0 ≤ i ∧ i < (sa.length : Int) then (rd_T68 sa i).f0 else if (sa.length : Int) ≤ i ∧ i < (sa.length : Int) + si.length then (rd_T70 si (i - sa.length)).f0 else -1
theorem sPlane (pl : Int) (sa : List S68) (si : List S70) (rc cr vw su sh : Int) (zo : List S76) (ac : Int) (hn : (sa.length : Int) + si.length ≤ 4194304) (i : Int) : spec_PlaneOf.f pl sa si rc cr vw su sh zo ac i = some (planeV sa si i) := by
  unfold spec_PlaneOf.f planeV
  simp only [sIsSat sa (by omega), sIsSite _ _ _ _ _ _ _ _ _ _ hn, Option.bind_some, decide_eq_true_eq]
  by_cases c : 0 ≤ i ∧ i < (sa.length : Int)
  · rw [if_pos c, if_pos c, if_pos c.1, if_pos c.2]
  · rw [if_neg c, if_neg c]
    by_cases c2 : (sa.length : Int) ≤ i ∧ i < (sa.length : Int) + si.length
    · rw [if_pos c2, if_pos c2, K.wr (x := i - sa.length) (by omega) (by omega), if_pos (by omega), if_pos (by omega)]
    · rw [if_neg c2, if_neg c2]
theorem iPlane (pl : Int) (sa : List S68) (si : List S70) (rc cr vw su sh : Int) (zo : List S76) (ac : Int) (hn : (sa.length : Int) + si.length ≤ 4194304) (i : Int) : impl_PlaneOf.f pl sa si rc cr vw su sh zo ac i = some (planeV sa si i) := by
  unfold impl_PlaneOf.f planeV
  simp only [iIsSat _ _ _ _ _ _ _ _ _ _ hn, iIsSite _ _ _ _ _ _ _ _ _ _ hn, Option.bind_some, decide_eq_true_eq]
  by_cases c : 0 ≤ i ∧ i < (sa.length : Int)
  · rw [if_pos c, if_pos c, if_pos c.1, if_pos c.2]
  · rw [if_neg c, if_neg c]
    by_cases c2 : (sa.length : Int) ≤ i ∧ i < (sa.length : Int) + si.length
    · rw [if_pos c2, if_pos c2, K.wr (x := i - sa.length) (by omega) (by omega), if_pos (by omega), if_pos (by omega)]
    · rw [if_neg c2, if_neg c2]
def nearV (pl p q : Int) : Bool := decide (0 ≤ mn p q ∧ mn p q < mx p q ∧ (mx p q - mn p q = 1 ∨ mn p q = 0 ∧ mx p q ≤ 4 ∧ mx p q + 1 = pl))
theorem sNear (pl : Int) (sa : List S68) (si : List S70) (rc cr vw su sh : Int) (zo : List S76) (ac : Int) (p q : Int) (hp0 : -9223372036854775808 ≤ p) (hp1 : p ≤ 9223372036854775807) (hq0 : -9223372036854775808 ≤ q) (hq1 : q ≤ 9223372036854775807) : spec_l7Near.f pl sa si rc cr vw su sh zo ac p q = some (nearV pl p q) := by
  unfold spec_l7Near.f nearV
  simp only [sMin, sMax, Option.bind_some]
  have hm : -9223372036854775808 ≤ mn p q ∧ mn p q ≤ 9223372036854775807 := by unfold mn; split <;> omega
  have hx : -9223372036854775808 ≤ mx p q ∧ mx p q ≤ 9223372036854775807 := by unfold mx; split <;> omega
  generalize mn p q = lo at hm ⊢
  generalize mx p q = hi at hx ⊢
  by_cases c1 : lo ≥ 0
  · rw [if_pos c1]
    by_cases c2 : hi > lo
    · rw [if_pos c2, K.wr (x := hi - lo) (by omega) (by omega)]
      by_cases c3 : hi - lo = 1
      · rw [if_pos c3]
        congr 1
        exact (decide_eq_true (by omega)).symm
      · rw [if_neg c3]
        by_cases c4 : lo = 0
        · rw [if_pos c4]
          by_cases c5 : hi ≤ 4
          · rw [if_pos c5, K.wr (x := hi + 1) (by omega) (by omega)]
            congr 1
            by_cases c6 : hi + 1 = pl
            · rw [beq_iff_eq.2 c6]
              exact (decide_eq_true (by omega)).symm
            · rw [beq_eq_false_iff_ne.2 c6]
              exact (decide_eq_false (by omega)).symm
          · rw [if_neg c5]
            congr 1
            exact (decide_eq_false (by omega)).symm
        · rw [if_neg c4]
          congr 1
          exact (decide_eq_false (by omega)).symm
    · rw [if_neg c2]
      congr 1
      exact (decide_eq_false (by omega)).symm
  · rw [if_neg c1]
    congr 1
    exact (decide_eq_false (by omega)).symm
/-- The program's neighbors, the less plane first. -/
theorem near_side (pl lo hi : Int) (hle : lo ≤ hi) (hl0 : -9223372036854775808 ≤ lo) (hh1 : hi ≤ 9223372036854775807) (hpl0 : -9223372036854775808 ≤ pl) (hpl1 : pl ≤ 9223372036854775807) :
    (if lo ≥ 0 then (if (wrap64 (hi - lo)) = 1 then (some true) else (if lo = 0 then (if hi = (wrap64 (pl - 1)) then ((impl_InRange.f hi 1 4).bind fun t => (some t)) else (some false)) else (some false))) else (if lo = 0 then (if hi = (wrap64 (pl - 1)) then ((impl_InRange.f hi 1 4).bind fun t => (some t)) else (some false)) else (some false)))
      = some (decide (0 ≤ lo ∧ lo < hi ∧ (hi - lo = 1 ∨ lo = 0 ∧ hi ≤ 4 ∧ hi + 1 = pl))) := by
  simp only [InRange, Option.bind_some]
  by_cases c1 : lo ≥ 0
  · rw [if_pos c1, K.wr (x := hi - lo) (by omega) (by omega)]
    by_cases c3 : hi - lo = 1
    · rw [if_pos c3]
      congr 1
      exact (decide_eq_true (by omega)).symm
    · rw [if_neg c3]
      by_cases c4 : lo = 0
      · rw [if_pos c4]
        by_cases cm : pl = -9223372036854775808
        · have : wrap64 (pl - 1) = 9223372036854775807 := by
            rw [cm]
            unfold wrap64
            omega
          rw [this]
          by_cases c5 : hi = 9223372036854775807
          · rw [if_pos c5]
            congr 1
            exact (decide_eq_false (by omega)).trans (decide_eq_false (by omega)).symm
          · rw [if_neg c5]
            congr 1
            exact (decide_eq_false (by omega)).symm
        · rw [K.wr (x := pl - 1) (by omega) (by omega)]
          by_cases c5 : hi = pl - 1
          · rw [if_pos c5]
            congr 1
            exact decide_eq_decide.2 (by omega)
          · rw [if_neg c5]
            congr 1
            exact (decide_eq_false (by omega)).symm
      · rw [if_neg c4]
        congr 1
        exact (decide_eq_false (by omega)).symm
  · rw [if_neg c1, if_neg (by omega)]
    congr 1
    exact (decide_eq_false (by omega)).symm
theorem iNear (pl : Int) (sa : List S68) (si : List S70) (rc cr vw su sh : Int) (zo : List S76) (ac : Int) (hpl0 : -9223372036854775808 ≤ pl) (hpl1 : pl ≤ 9223372036854775807) (p q : Int) (hp0 : -9223372036854775808 ≤ p) (hp1 : p ≤ 9223372036854775807) (hq0 : -9223372036854775808 ≤ q) (hq1 : q ≤ 9223372036854775807) : impl_areNeighbors.f pl sa si rc cr vw su sh zo ac p q = some (nearV pl p q) := by
  unfold impl_areNeighbors.f nearV mn mx
  by_cases c : p > q
  · rw [if_pos c, near_side pl q p (by omega) hq0 hp1 hpl0 hpl1, if_pos (by omega), if_neg (by omega)]
  · rw [if_neg c, near_side pl p q (by omega) hp0 hq1 hpl0 hpl1, if_neg (by omega)]
    by_cases c2 : p < q
    · rw [if_pos c2]
    · have : p = q := by omega
      subst this
      rw [if_neg c2]
theorem plane_wf (sa : List S68) (si : List S70) (h1 : ∀ x ∈ sa, -9223372036854775808 ≤ x.f0 ∧ x.f0 ≤ 9223372036854775807) (h2 : ∀ x ∈ si, -9223372036854775808 ≤ x.f0 ∧ x.f0 ≤ 9223372036854775807) (i : Int) :
    -9223372036854775808 ≤ planeV sa si i ∧ planeV sa si i ≤ 9223372036854775807 := by
  unfold planeV
  split
  · rename_i h
    have hg : sa[i.toNat]? = some (sa[i.toNat]'(by omega)) := List.getElem?_eq_getElem (by omega)
    have : rd_T68 sa i = sa[i.toNat]'(by omega) := by simp only [rd_T68, List.getD_eq_getElem?_getD, hg, Option.getD_some]
    rw [this]
    exact h1 _ (List.getElem_mem _)
  · split
    · rename_i h
      have hg : si[(i - sa.length).toNat]? = some (si[(i - sa.length).toNat]'(by omega)) := List.getElem?_eq_getElem (by omega)
      have : rd_T70 si (i - sa.length) = si[(i - sa.length).toNat]'(by omega) := by simp only [rd_T70, List.getD_eq_getElem?_getD, hg, Option.getD_some]
      rw [this]
      exact h2 _ (List.getElem_mem _)
    · omega
/-- What both come to. -/
def limV (pl : Int) (sa : List S68) (si : List S70) (rc cr vw a b : Int) : Int :=
  if a = b ∨ ¬ (0 ≤ a ∧ a < (sa.length : Int) + si.length) ∨ ¬ (0 ≤ b ∧ b < (sa.length : Int) + si.length) ∨ ((sa.length : Int) ≤ a ∧ (sa.length : Int) ≤ b) then -1
  else if (sa.length : Int) ≤ a ∨ (sa.length : Int) ≤ b then (if planeV sa si a = planeV sa si b ∨ nearV pl (planeV sa si a) (planeV sa si b) = true then vw else -1)
  else if planeV sa si a = planeV sa si b then rc else if nearV pl (planeV sa si a) (planeV sa si b) = true then cr else -1
theorem sLimit (pl : Int) (sa : List S68) (si : List S70) (rc cr vw su sh : Int) (zo : List S76) (ac : Int) (hn : (sa.length : Int) + si.length ≤ 4194304) (h1 : ∀ x ∈ sa, -9223372036854775808 ≤ x.f0 ∧ x.f0 ≤ 9223372036854775807) (h2 : ∀ x ∈ si, -9223372036854775808 ≤ x.f0 ∧ x.f0 ≤ 9223372036854775807) (a b : Int) :
    Ev (fun k => spec_LimitOf.f k pl sa si rc cr vw su sh zo ac a b) (limV pl sa si rc cr vw a b) := by
  have hp := plane_wf sa si h1 h2 a
  have hq := plane_wf sa si h1 h2 b
  have hend : ∀ v, v = -1 → Ev (fun k => spec_LimitOf.j0 k a b true pl sa si rc cr vw su sh zo ac) v := by
    intro v hv
    subst hv
    refine K.succ ?_
    simp only [spec_LimitOf.j0]
    exact K.pos (by trivial) (Ev.now _)
  unfold spec_LimitOf.f spec_NodesOf.f
  simp only [Option.bind_some, l1In, sIsSite _ _ _ _ _ _ _ _ _ _ hn, decide_eq_true_eq]
  rw [K.wr (x := (sa.length : Int) + si.length) (by omega) (by omega), K.wr (x := (sa.length : Int) + si.length - 1) (by omega) (by omega)]
  by_cases ca : 0 ≤ a ∧ a < (sa.length : Int) + si.length
  · refine K.pos (by omega) ?_
    by_cases cb : 0 ≤ b ∧ b < (sa.length : Int) + si.length
    · refine K.pos (by omega) ?_
      by_cases ce : a = b
      · exact K.pos ce (hend _ (by unfold limV; rw [if_pos (Or.inl ce)]))
      · refine K.neg ce ?_
        by_cases sa_ : (sa.length : Int) ≤ a
        · refine K.pos (by omega) ?_
          by_cases sb_ : (sa.length : Int) ≤ b
          · rw [show decide ((sa.length : Int) ≤ b ∧ b < (sa.length : Int) + si.length) = true from decide_eq_true (by omega)]
            exact hend _ (by unfold limV; rw [if_pos (Or.inr (Or.inr (Or.inr ⟨sa_, sb_⟩)))])
          · rw [show decide ((sa.length : Int) ≤ b ∧ b < (sa.length : Int) + si.length) = false from decide_eq_false (by omega)]
            refine K.succ ?_
            simp only [spec_LimitOf.j0, sPlane _ _ _ _ _ _ _ _ _ _ hn, sIsSite _ _ _ _ _ _ _ _ _ _ hn, Option.bind_some]
            refine K.neg Bool.false_ne_true ?_
            rw [show decide ((sa.length : Int) ≤ a ∧ a < (sa.length : Int) + si.length) = true from decide_eq_true (by omega)]
            refine K.pos rfl (K.succ ?_)
            simp only [spec_LimitOf.j1, sNear _ _ _ _ _ _ _ _ _ _ _ _ hp.1 hp.2 hq.1 hq.2, Option.bind_some]
            refine K.pos (by trivial) ?_
            have e : limV pl sa si rc cr vw a b = if planeV sa si a = planeV sa si b ∨ nearV pl (planeV sa si a) (planeV sa si b) = true then vw else -1 := by
              unfold limV
              rw [if_neg (by omega), if_pos (Or.inl sa_)]
            by_cases c1 : planeV sa si a = planeV sa si b
            · rw [e.trans (if_pos (Or.inl c1))]
              exact K.pos c1 (Ev.now _)
            · refine K.neg c1 ?_
              by_cases c2 : nearV pl (planeV sa si a) (planeV sa si b) = true
              · rw [e.trans (if_pos (Or.inr c2))]
                exact K.pos c2 (Ev.now _)
              · rw [e.trans (if_neg (fun h => h.elim c1 c2))]
                exact K.neg c2 (Ev.now _)
        · refine K.neg (by omega) (K.succ ?_)
          simp only [spec_LimitOf.j0, sPlane _ _ _ _ _ _ _ _ _ _ hn, sIsSite _ _ _ _ _ _ _ _ _ _ hn, Option.bind_some]
          refine K.neg Bool.false_ne_true ?_
          rw [show decide ((sa.length : Int) ≤ a ∧ a < (sa.length : Int) + si.length) = false from decide_eq_false (by omega)]
          refine K.neg Bool.false_ne_true (K.succ ?_)
          simp only [spec_LimitOf.j1, sNear _ _ _ _ _ _ _ _ _ _ _ _ hp.1 hp.2 hq.1 hq.2, Option.bind_some, decide_eq_true_eq]
          by_cases sb_ : (sa.length : Int) ≤ b
          · refine K.pos (by omega) ?_
            have e : limV pl sa si rc cr vw a b = if planeV sa si a = planeV sa si b ∨ nearV pl (planeV sa si a) (planeV sa si b) = true then vw else -1 := by
              unfold limV
              rw [if_neg (by omega), if_pos (Or.inr sb_)]
            by_cases c1 : planeV sa si a = planeV sa si b
            · rw [e.trans (if_pos (Or.inl c1))]
              exact K.pos c1 (Ev.now _)
            · refine K.neg c1 ?_
              by_cases c2 : nearV pl (planeV sa si a) (planeV sa si b) = true
              · rw [e.trans (if_pos (Or.inr c2))]
                exact K.pos c2 (Ev.now _)
              · rw [e.trans (if_neg (fun h => h.elim c1 c2))]
                exact K.neg c2 (Ev.now _)
          · refine K.neg (by omega) ?_
            have e : limV pl sa si rc cr vw a b = if planeV sa si a = planeV sa si b then rc else if nearV pl (planeV sa si a) (planeV sa si b) = true then cr else -1 := by
              unfold limV
              rw [if_neg (by omega), if_neg (by omega)]
            by_cases c1 : planeV sa si a = planeV sa si b
            · rw [e.trans (if_pos c1)]
              exact K.pos c1 (Ev.now _)
            · refine K.neg c1 ?_
              by_cases c2 : nearV pl (planeV sa si a) (planeV sa si b) = true
              · rw [e.trans ((if_neg c1).trans (if_pos c2))]
                exact K.pos c2 (Ev.now _)
              · rw [e.trans ((if_neg c1).trans (if_neg c2))]
                exact K.neg c2 (Ev.now _)
    · exact K.neg (by omega) (hend _ (by unfold limV; rw [if_pos (Or.inr (Or.inr (Or.inl cb)))]))
  · exact K.neg (by omega) (hend _ (by unfold limV; rw [if_pos (Or.inr (Or.inl ca))]))
theorem iLimit (pl : Int) (sa : List S68) (si : List S70) (rc cr vw su sh : Int) (zo : List S76) (ac : Int) (hn : (sa.length : Int) + si.length ≤ 4194304) (hpl0 : -9223372036854775808 ≤ pl) (hpl1 : pl ≤ 9223372036854775807) (h1 : ∀ x ∈ sa, -9223372036854775808 ≤ x.f0 ∧ x.f0 ≤ 9223372036854775807) (h2 : ∀ x ∈ si, -9223372036854775808 ≤ x.f0 ∧ x.f0 ≤ 9223372036854775807) (a b : Int) :
    Ev (fun k => impl_LimitOf.f k pl sa si rc cr vw su sh zo ac a b) (limV pl sa si rc cr vw a b) := by
  have hp := plane_wf sa si h1 h2 a
  have hq := plane_wf sa si h1 h2 b
  have hend : ∀ x y v, v = -1 → Ev (fun k => impl_LimitOf.j0 k (planeV sa si a) (planeV sa si b) x y true pl sa si rc cr vw su sh zo ac) v := by
    intro x y v hv
    subst hv
    refine K.succ ?_
    simp only [impl_LimitOf.j0]
    exact K.pos (by trivial) (Ev.now _)
  unfold impl_LimitOf.f
  simp only [Option.bind_some, iPlane _ _ _ _ _ _ _ _ _ _ hn, iIsSat _ _ _ _ _ _ _ _ _ _ hn, iIsSite _ _ _ _ _ _ _ _ _ _ hn, decide_eq_true_eq]
  by_cases ce : a = b
  · exact K.pos ce (hend _ _ _ (by unfold limV; rw [if_pos (Or.inl ce)]))
  · refine K.neg ce ?_
    -- the way on when neither is wrong
    have hgo : ∀ x y : Bool, (x = true ↔ a < (sa.length : Int)) → (y = true ↔ b < (sa.length : Int)) → 0 ≤ a → a < (sa.length : Int) + si.length → 0 ≤ b → b < (sa.length : Int) + si.length →
        Ev (fun k => impl_LimitOf.j0 k (planeV sa si a) (planeV sa si b) x y false pl sa si rc cr vw su sh zo ac) (limV pl sa si rc cr vw a b) := by
      intro x y hx hy a0 a1 b0 b1
      refine K.succ ?_
      simp only [impl_LimitOf.j0]
      refine K.neg Bool.false_ne_true ?_
      have tail : ∀ z : Bool, (z = true ↔ x = true ∧ y = true ∧ planeV sa si a = planeV sa si b) → Ev (fun k => impl_LimitOf.j1 k (planeV sa si a) (planeV sa si b) x y z pl sa si rc cr vw su sh zo ac) (limV pl sa si rc cr vw a b) := by
        intro z hz
        have last : ∀ u : Bool, (u = true ↔ x = true ∧ y = true ∧ nearV pl (planeV sa si a) (planeV sa si b) = true) → z = false → Ev (fun k => impl_LimitOf.j2 k (planeV sa si a) (planeV sa si b) x y u pl sa si rc cr vw su sh zo ac) (limV pl sa si rc cr vw a b) := by
          intro u hu hzf
          refine K.succ ?_
          simp only [impl_LimitOf.j2, iNear _ _ _ _ _ _ _ _ _ _ hpl0 hpl1 _ _ hp.1 hp.2 hq.1 hq.2, Option.bind_some]
          cases u with
          | true =>
            have hu' := hu.1 rfl
            have ha := hx.1 hu'.1
            have hb := hy.1 hu'.2.1
            refine K.pos (by trivial) ?_
            unfold limV
            rw [if_neg (by omega), if_neg (by omega), if_neg (fun e => by
              have := hz.2 ⟨hu'.1, hu'.2.1, e⟩
              rw [hzf] at this
              cases this), if_pos hu'.2.2]
            exact Ev.now _
          | false =>
            refine K.neg Bool.false_ne_true ?_
            cases x with
            | true =>
              have ha := hx.1 rfl
              cases y with
              | true =>
                have hb := hy.1 rfl
                refine K.neg (by decide) ?_
                unfold limV
                rw [if_neg (by omega), if_neg (by omega), if_neg (fun e => by
                  have := hz.2 ⟨rfl, rfl, e⟩
                  rw [hzf] at this
                  cases this), if_neg (fun e => Bool.false_ne_true (hu.2 ⟨rfl, rfl, e⟩))]
                exact Ev.now _
              | false =>
                have hb : ¬ b < (sa.length : Int) := fun h => Bool.false_ne_true (hy.2 h)
                refine K.pos (by decide) ?_
                have e : limV pl sa si rc cr vw a b = if planeV sa si a = planeV sa si b ∨ nearV pl (planeV sa si a) (planeV sa si b) = true then vw else -1 := by
                  unfold limV
                  rw [if_neg (by omega), if_pos (by omega)]
                by_cases c1 : planeV sa si a = planeV sa si b
                · rw [e.trans (if_pos (Or.inl c1))]
                  exact K.pos c1 (Ev.now _)
                · refine K.neg c1 ?_
                  by_cases c2 : nearV pl (planeV sa si a) (planeV sa si b) = true
                  · rw [e.trans (if_pos (Or.inr c2))]
                    exact K.pos c2 (Ev.now _)
                  · rw [e.trans (if_neg (fun h => h.elim c1 c2))]
                    exact K.neg c2 (Ev.now _)
            | false =>
              have ha : ¬ a < (sa.length : Int) := fun h => Bool.false_ne_true (hx.2 h)
              cases y with
              | true =>
                have hb := hy.1 rfl
                refine K.pos (by decide) ?_
                have e : limV pl sa si rc cr vw a b = if planeV sa si a = planeV sa si b ∨ nearV pl (planeV sa si a) (planeV sa si b) = true then vw else -1 := by
                  unfold limV
                  rw [if_neg (by omega), if_pos (by omega)]
                by_cases c1 : planeV sa si a = planeV sa si b
                · rw [e.trans (if_pos (Or.inl c1))]
                  exact K.pos c1 (Ev.now _)
                · refine K.neg c1 ?_
                  by_cases c2 : nearV pl (planeV sa si a) (planeV sa si b) = true
                  · rw [e.trans (if_pos (Or.inr c2))]
                    exact K.pos c2 (Ev.now _)
                  · rw [e.trans (if_neg (fun h => h.elim c1 c2))]
                    exact K.neg c2 (Ev.now _)
              | false =>
                have hb : ¬ b < (sa.length : Int) := fun h => Bool.false_ne_true (hy.2 h)
                refine K.neg (by decide) ?_
                unfold limV
                rw [if_pos (by omega)]
                exact Ev.now _
        refine K.succ ?_
        simp only [impl_LimitOf.j1, iNear _ _ _ _ _ _ _ _ _ _ hpl0 hpl1 _ _ hp.1 hp.2 hq.1 hq.2, Option.bind_some]
        cases z with
        | true =>
          have hz' := hz.1 rfl
          have ha := hx.1 hz'.1
          have hb := hy.1 hz'.2.1
          refine K.pos (by trivial) ?_
          unfold limV
          rw [if_neg (by omega), if_neg (by omega), if_pos hz'.2.2]
          exact Ev.now _
        | false =>
          refine K.neg Bool.false_ne_true ?_
          cases x with
          | true =>
            cases y with
            | true => exact K.pos (by trivial) (K.pos (by trivial) (last _ ⟨fun h => ⟨rfl, rfl, h⟩, fun h => h.2.2⟩ rfl))
            | false => exact K.pos (by trivial) (K.neg Bool.false_ne_true (last false ⟨fun h => absurd h Bool.false_ne_true, fun h => absurd h.2.1 Bool.false_ne_true⟩ rfl))
          | false => exact K.neg Bool.false_ne_true (last false ⟨fun h => absurd h Bool.false_ne_true, fun h => absurd h.1 Bool.false_ne_true⟩ rfl)
      cases x with
      | true =>
        cases y with
        | true => exact K.pos (by trivial) (K.pos (by trivial) (tail _ ⟨fun h => ⟨rfl, rfl, beq_iff_eq.1 h⟩, fun h => beq_iff_eq.2 h.2.2⟩))
        | false => exact K.pos (by trivial) (K.neg Bool.false_ne_true (tail false ⟨fun h => absurd h Bool.false_ne_true, fun h => absurd h.2.1 Bool.false_ne_true⟩))
      | false => exact K.neg Bool.false_ne_true (tail false ⟨fun h => absurd h Bool.false_ne_true, fun h => absurd h.1 Bool.false_ne_true⟩)
    by_cases ca : 0 ≤ a ∧ a < (sa.length : Int)
    · refine K.pos ca ?_
      by_cases cb : 0 ≤ b ∧ b < (sa.length : Int)
      · exact K.pos cb (hgo _ _ ⟨fun h => (of_decide_eq_true h).2, fun h => decide_eq_true ⟨ca.1, h⟩⟩ ⟨fun h => (of_decide_eq_true h).2, fun h => decide_eq_true ⟨cb.1, h⟩⟩ (by omega) (by omega) (by omega) (by omega))
      · refine K.neg cb ?_
        by_cases cs : (sa.length : Int) ≤ b ∧ b < (sa.length : Int) + si.length
        · rw [show (!decide ((sa.length : Int) ≤ b ∧ b < (sa.length : Int) + si.length)) = false from by rw [decide_eq_true cs]; rfl]
          exact hgo _ _ ⟨fun h => (of_decide_eq_true h).2, fun h => decide_eq_true ⟨ca.1, h⟩⟩ ⟨fun h => (of_decide_eq_true h).2, fun h => by omega⟩ (by omega) (by omega) (by omega) (by omega)
        · rw [show (!decide ((sa.length : Int) ≤ b ∧ b < (sa.length : Int) + si.length)) = true from by rw [decide_eq_false cs]; rfl]
          exact hend _ _ _ (by unfold limV; rw [if_pos (Or.inr (Or.inr (Or.inl (by omega))))])
    · refine K.neg ca ?_
      by_cases cs : (sa.length : Int) ≤ a ∧ a < (sa.length : Int) + si.length
      · refine K.pos cs ?_
        by_cases cb : 0 ≤ b ∧ b < (sa.length : Int)
        · exact K.pos cb (hgo _ _ ⟨fun h => (of_decide_eq_true h).2, fun h => by omega⟩ ⟨fun h => (of_decide_eq_true h).2, fun h => decide_eq_true ⟨cb.1, h⟩⟩ (by omega) (by omega) (by omega) (by omega))
        · refine K.neg cb ?_
          by_cases cs2 : (sa.length : Int) ≤ b ∧ b < (sa.length : Int) + si.length
          · rw [show (!decide ((sa.length : Int) ≤ b ∧ b < (sa.length : Int) + si.length)) = false from by rw [decide_eq_true cs2]; rfl]
            exact hgo _ _ ⟨fun h => (of_decide_eq_true h).2, fun h => by omega⟩ ⟨fun h => (of_decide_eq_true h).2, fun h => by omega⟩ (by omega) (by omega) (by omega) (by omega)
          · rw [show (!decide ((sa.length : Int) ≤ b ∧ b < (sa.length : Int) + si.length)) = true from by rw [decide_eq_false cs2]; rfl]
            exact hend _ _ _ (by unfold limV; rw [if_pos (Or.inr (Or.inr (Or.inl (by omega))))])
      · exact K.neg cs (hend _ _ _ (by unfold limV; rw [if_pos (Or.inr (Or.inl (by omega)))]))
def midV (s w : Int) : Int := if 0 ≤ w ∧ w ≤ 359 then (s % 360 + w / 2) % 360 else s % 360
theorem sMiddle (s w : Int) : spec_MiddleOf.f s w = some (midV s w) := by
  unfold spec_MiddleOf.f midV
  simp only [l1In, sAngle, Option.bind_some, decide_eq_true_eq]
  by_cases c : 0 ≤ w ∧ w ≤ 359
  · rw [if_pos c, if_pos c, Int.tdiv_eq_ediv_of_nonneg c.1, K.wr (x := w / 2) (by omega) (by omega), K.wr (by omega) (by omega)]
  · rw [if_neg c, if_neg c]
theorem iMiddle (s w : Int) : impl_MiddleOf.f s w = some (midV s w) := by
  unfold impl_MiddleOf.f midV
  simp only [iWidth, iAngle, Option.bind_some, decide_eq_true_eq]
  by_cases c : 0 ≤ w ∧ w ≤ 359
  · rw [if_pos c, if_pos c, Int.tdiv_eq_ediv_of_nonneg c.1, K.wr (x := w / 2) (by omega) (by omega), K.wr (by omega) (by omega)]
  · rw [if_neg c, if_neg c]
def gapV (a b : Int) : Int := mn ((a % 360 - b % 360) % 360) (360 - (a % 360 - b % 360) % 360)
theorem sGap (a b : Int) : spec_GapOf.f a b = some (gapV a b) := by
  unfold spec_GapOf.f gapV
  simp only [sAngle, sMin, Option.bind_some]
  rw [K.wr (x := a % 360 - b % 360) (by omega) (by omega), K.wr (by omega) (by omega)]
theorem iGap (a b : Int) : impl_GapOf.f a b = some (gapV a b) := by
  unfold impl_GapOf.f gapV
  simp only [iAngle, Option.bind_some]
  rw [K.wr (x := a % 360 - b % 360) (by omega) (by omega), K.wr (by omega) (by omega)]
theorem gap_range (a b : Int) : 0 ≤ gapV a b ∧ gapV a b ≤ 180 := by
  unfold gapV mn
  split <;> omega
def sightOf (lim g w1 w2 : Int) : Int := if lim < 0 then 0 else if g - (w1 + w2) / 2 > lim then 0 else if g + (w1 + w2) / 2 ≤ lim then 2 else 1
def sightV (pl : Int) (sa : List S68) (si : List S70) (rc cr vw a b t : Int) : Int :=
  sightOf (limV pl sa si rc cr vw a b) (gapV (midV (nodeS sa si a t) (nodeW sa a)) (midV (nodeS sa si b t) (nodeW sa b))) (nodeW sa a) (nodeW sa b)
theorem sSight (pl : Int) (sa : List S68) (si : List S70) (rc cr vw su sh : Int) (zo : List S76) (ac : Int) (hn : (sa.length : Int) + si.length ≤ 4194304) (h1 : ∀ x ∈ sa, -9223372036854775808 ≤ x.f0 ∧ x.f0 ≤ 9223372036854775807) (h2 : ∀ x ∈ si, -9223372036854775808 ≤ x.f0 ∧ x.f0 ≤ 9223372036854775807) (a b t : Int) :
    Ev (fun k => spec_SightAt.f k pl sa si rc cr vw su sh zo ac a b t) (sightV pl sa si rc cr vw a b t) := by
  unfold spec_SightAt.f sightV
  refine Ev.bind (sLimit _ _ _ _ _ _ _ _ _ _ hn h1 h2 a b) ?_
  have ha := node_range sa si a t
  have hb := node_range sa si b t
  have hg := gap_range (midV (nodeS sa si a t) (nodeW sa a)) (midV (nodeS sa si b t) (nodeW sa b))
  generalize limV pl sa si rc cr vw a b = lim
  unfold sightOf
  by_cases c : lim < 0
  · rw [if_pos c]
    exact K.pos c (Ev.now _)
  · rw [if_neg c]
    refine K.neg c (Ev.bind (sNode _ _ _ _ _ _ _ _ _ _ hn a t) (Ev.bind (sNode _ _ _ _ _ _ _ _ _ _ hn b t) ?_))
    simp only [sMiddle, sGap, Option.bind_some]
    generalize gapV (midV (nodeS sa si a t) (nodeW sa a)) (midV (nodeS sa si b t) (nodeW sa b)) = g at hg ⊢
    generalize nodeW sa a = x at ha ⊢
    generalize nodeW sa b = y at hb ⊢
    have e : wrap64 ((wrap64 ((wrap64 (Int.tdiv x 2)) + (wrap64 (Int.tdiv y 2)))) + (wrap64 (Int.tdiv (wrap64 ((Int.tmod x 2) + (Int.tmod y 2))) 2))) = (x + y) / 2 := by
      rw [Int.tdiv_eq_ediv_of_nonneg ha.2.2.1, Int.tdiv_eq_ediv_of_nonneg hb.2.2.1, Int.tmod_eq_emod_of_nonneg ha.2.2.1, Int.tmod_eq_emod_of_nonneg hb.2.2.1, K.wr (x := x % 2 + y % 2) (by omega) (by omega), Int.tdiv_eq_ediv_of_nonneg (by omega), K.wr (x := x / 2) (by omega) (by omega), K.wr (x := y / 2) (by omega) (by omega), K.wr (x := x / 2 + y / 2) (by omega) (by omega), K.wr (x := (x % 2 + y % 2) / 2) (by omega) (by omega), K.wr (by omega) (by omega)]
      omega
    rw [e, K.wr (x := g - (x + y) / 2) (by omega) (by omega), K.wr (x := g + (x + y) / 2) (by omega) (by omega)]
    split
    · exact Ev.now _
    · split <;> exact Ev.now _
theorem iSight (pl : Int) (sa : List S68) (si : List S70) (rc cr vw su sh : Int) (zo : List S76) (ac : Int) (hn : (sa.length : Int) + si.length ≤ 4194304) (hpl0 : -9223372036854775808 ≤ pl) (hpl1 : pl ≤ 9223372036854775807) (h1 : ∀ x ∈ sa, -9223372036854775808 ≤ x.f0 ∧ x.f0 ≤ 9223372036854775807) (h2 : ∀ x ∈ si, -9223372036854775808 ≤ x.f0 ∧ x.f0 ≤ 9223372036854775807) (a b t : Int) :
    Ev (fun k => impl_SightAt.f k pl sa si rc cr vw su sh zo ac a b t) (sightV pl sa si rc cr vw a b t) := by
  unfold impl_SightAt.f sightV
  simp only [iNode _ _ _ _ _ _ _ _ _ _ hn, Option.bind_some]
  refine Ev.bind (iLimit _ _ _ _ _ _ _ _ _ _ hn hpl0 hpl1 h1 h2 a b) ?_
  have ha := node_range sa si a t
  have hb := node_range sa si b t
  have hg := gap_range (midV (nodeS sa si a t) (nodeW sa a)) (midV (nodeS sa si b t) (nodeW sa b))
  generalize limV pl sa si rc cr vw a b = lim
  simp only [iMiddle, iGap, Option.bind_some]
  generalize gapV (midV (nodeS sa si a t) (nodeW sa a)) (midV (nodeS sa si b t) (nodeW sa b)) = g at hg ⊢
  generalize nodeW sa a = x at ha ⊢
  generalize nodeW sa b = y at hb ⊢
  rw [K.wr (x := x + y) (by omega) (by omega), Int.tdiv_eq_ediv_of_nonneg (by omega), K.wr (x := (x + y) / 2) (by omega) (by omega), K.wr (x := g - (x + y) / 2) (by omega) (by omega)]
  unfold sightOf
  by_cases c : lim < 0
  · rw [if_pos c]
    refine K.pos c (K.succ ?_)
    simp only [impl_SightAt.j0]
    exact K.pos (by trivial) (Ev.now _)
  · rw [if_neg c]
    refine K.neg c (K.succ ?_)
    by_cases c2 : g - (x + y) / 2 > lim
    · rw [if_pos c2, decide_eq_true c2]
      simp only [impl_SightAt.j0]
      exact K.pos (by trivial) (Ev.now _)
    · rw [if_neg c2, decide_eq_false c2]
      simp only [impl_SightAt.j0]
      rw [K.wr (x := g + (x + y) / 2) (by omega) (by omega)]
      refine K.neg Bool.false_ne_true ?_
      split <;> exact Ev.now _
theorem sSure (pl : Int) (sa : List S68) (si : List S70) (rc cr vw su sh : Int) (zo : List S76) (ac : Int) (hn : (sa.length : Int) + si.length ≤ 4194304) (h1 : ∀ x ∈ sa, -9223372036854775808 ≤ x.f0 ∧ x.f0 ≤ 9223372036854775807) (h2 : ∀ x ∈ si, -9223372036854775808 ≤ x.f0 ∧ x.f0 ≤ 9223372036854775807) (a b t : Int) :
    Ev (fun k => spec_IsSure.f k pl sa si rc cr vw su sh zo ac a b t) (sightV pl sa si rc cr vw a b t == 2) := by
  unfold spec_IsSure.f
  exact Ev.bind (sSight _ _ _ _ _ _ _ _ _ _ hn h1 h2 a b t) (Ev.now _)
theorem iSure (pl : Int) (sa : List S68) (si : List S70) (rc cr vw su sh : Int) (zo : List S76) (ac : Int) (hn : (sa.length : Int) + si.length ≤ 4194304) (hpl0 : -9223372036854775808 ≤ pl) (hpl1 : pl ≤ 9223372036854775807) (h1 : ∀ x ∈ sa, -9223372036854775808 ≤ x.f0 ∧ x.f0 ≤ 9223372036854775807) (h2 : ∀ x ∈ si, -9223372036854775808 ≤ x.f0 ∧ x.f0 ≤ 9223372036854775807) (a b t : Int) :
    Ev (fun k => impl_IsSure.f k pl sa si rc cr vw su sh zo ac a b t) (sightV pl sa si rc cr vw a b t == 2) := by
  unfold impl_IsSure.f
  exact Ev.bind (iSight _ _ _ _ _ _ _ _ _ _ hn hpl0 hpl1 h1 h2 a b t) (Ev.now _)
theorem l8 (a b : Int) : ∃ lo hi : Int, spec_l8Ticks.f a b = some (lo, hi) ∧ 0 ≤ lo ∧ hi ≤ 1000 ∧ ∀ p : Int → Bool, run p [] lo (hi - lo).toNat = run p [] (mx a 0) (mn b 1000 - mx a 0).toNat := by
  refine ⟨if (if a > 0 then a else 0) < 1000 then (if a > 0 then a else 0) else 1000, if (if b < 1000 then b else 1000) > 0 then (if b < 1000 then b else 1000) else 0, ?_, ?_, ?_, ?_⟩
  · have m2 : ∀ x : Int, spec_Min.f 1000 x = some (if x < 1000 then x else 1000) := by
      intro x
      unfold spec_Min.f
      split <;> rfl
    have m3 : ∀ x : Int, spec_Max.f 0 x = some (if x > 0 then x else 0) := by
      intro x
      unfold spec_Max.f
      split <;> rfl
    unfold spec_l8Ticks.f
    rw [m3, Option.bind_some, m2, Option.bind_some, m2, Option.bind_some, m3, Option.bind_some]
  · (repeat' split) <;> omega
  · (repeat' split) <;> omega
  · intro p
    have e1 : mx a 0 = if a > 0 then a else 0 := by unfold mx; (repeat' split) <;> omega
    have e2 : mn b 1000 = if b < 1000 then b else 1000 := by unfold mn; (repeat' split) <;> omega
    rw [e1, e2]
    have hx : 0 ≤ (if a > 0 then a else 0) := by split <;> omega
    have hy : (if b < 1000 then b else 1000) ≤ 1000 := by split <;> omega
    generalize (if a > 0 then a else 0) = x at hx
    generalize (if b < 1000 then b else 1000) = y at hy
    by_cases c : x < y
    · have c1 : x < 1000 := by omega
      have c2 : y > 0 := by omega
      rw [if_pos c1, if_pos c2]
    · have d1 : (y - x).toNat = 0 := by omega
      have d2 : ((if y > 0 then y else 0) - (if x < 1000 then x else 1000)).toNat = 0 := by
        (repeat' split) <;> omega
      rw [d1, d2]
      rfl
theorem sSureW (pl : Int) (sa : List S68) (si : List S70) (rc cr vw su sh : Int) (zo : List S76) (ac : Int) (p : Int → Bool) (i j hi : Int) (hp : ∀ t, Ev (fun k => spec_IsSure.f k pl sa si rc cr vw su sh zo ac i j t) (p t)) (hh : hi ≤ 1000) : ∀ (d : Nat) (o : List S52) (t : Int), 0 ≤ t → (hi - t).toNat = d → o.length + d ≤ 7000000000000 → Ev (fun k => spec_SureWindows.l0 k i j o hi t pl sa si rc cr vw su sh zo ac) (run p o t d) := by
  intro d
  induction d with
  | zero =>
    intro o t h0 hd ho
    refine K.succ ?_
    simp only [spec_SureWindows.l0, run]
    exact K.neg (by omega) (Ev.now _)
  | succ d ih =>
    intro o t h0 hd ho
    refine K.succ ?_
    simp only [spec_SureWindows.l0, run]
    rw [K.wr (x := t + 1) (by omega) (by omega)]
    refine K.pos (by omega) (Ev.bind (hp t) ?_)
    have hp := put_len o t
    by_cases c : p t = true
    · rw [if_pos c]
      exact K.pos c (K.known (sPut o t h0 (by omega) (by omega)) (ih (put o t) (t + 1) (by omega) (by omega) (by omega)))
    · rw [if_neg c]
      exact K.neg c (ih o (t + 1) (by omega) (by omega) (by omega))
theorem sureWins (pl : Int) (sa : List S68) (si : List S70) (rc cr vw su sh : Int) (zo : List S76) (ac : Int) (hn : (sa.length : Int) + si.length ≤ 4194304) (hpl0 : -9223372036854775808 ≤ pl) (hpl1 : pl ≤ 9223372036854775807) (h1 : ∀ x ∈ sa, -9223372036854775808 ≤ x.f0 ∧ x.f0 ≤ 9223372036854775807) (h2 : ∀ x ∈ si, -9223372036854775808 ≤ x.f0 ∧ x.f0 ≤ 9223372036854775807) (i j a b : Int) : ∃ r : List S52, r.length ≤ 1000 ∧ Ev (fun k => spec_SureWindows.f k pl sa si rc cr vw su sh zo ac i j a b) r ∧ Ev (fun k => impl_SureWindows.f k pl sa si rc cr vw su sh zo ac i j a b) r ∧ r = run (fun t => sightV pl sa si rc cr vw i j t == 2) [] (mx a 0) (mn b 1000 - mx a 0).toNat := by
  obtain ⟨lo, hi, e, h0, hh1, hr⟩ := l8 a b
  have hm : mn b 1000 ≤ 1000 := by unfold mn; split <;> omega
  have hx : 0 ≤ mx a 0 := by unfold mx; split <;> omega
  have s_ := fun t => sSure pl sa si rc cr vw su sh zo ac hn h1 h2 i j t
  have i_ := fun t => iSure pl sa si rc cr vw su sh zo ac hn hpl0 hpl1 h1 h2 i j t
  refine ⟨run (fun t => sightV pl sa si rc cr vw i j t == 2) [] lo (hi - lo).toNat, Nat.le_trans (run_len _ _ _ _) (by simp; omega), ?_, ?_, hr _⟩
  · unfold spec_SureWindows.f
    exact K.known e (sSureW pl sa si rc cr vw su sh zo ac _ i j hi s_ hh1 _ [] lo h0 rfl (by simp; omega))
  · rw [hr]
    unfold impl_SureWindows.f where_impl_SureWindows_1.f sw.f
    refine Ev.bind (whereRun (fun k t' => impl_SureWindows_1.f k t' pl sa si rc cr vw su sh zo ac i j) _ b (fun t _ _ => ?_) _ [] (mx a 0) hx rfl (by simp; omega)) (Ev.now _)
    unfold impl_SureWindows_1.f
    exact Ev.bind (i_ t) (Ev.now _)
def inArc (s w a : Int) : Prop := (a % 360 - s % 360) % 360 ≤ w
instance (s w a : Int) : Decidable (inArc s w a) := by
  unfold inArc
  infer_instance
theorem sInArc (s w a : Int) : spec_InArc.f s w a = some (decide (inArc s w a)) := by
  unfold spec_InArc.f inArc
  simp only [sAngle, Option.bind_some]
  rw [K.wr (x := a % 360 - s % 360) (by omega) (by omega)]
  by_cases c : w ≥ 0
  · rw [if_pos c]
  · rw [if_neg c]
    congr 1
    exact (decide_eq_false (by omega)).symm
theorem iInArc (s w a : Int) : impl_InArc.f s w a = some (decide (inArc s w a)) := by
  unfold impl_InArc.f inArc
  simp only [iAngle, Option.bind_some]
  rw [K.wr (x := a % 360 - s % 360) (by omega) (by omega)]
def meetV (s w s2 w2 : Int) : Prop := w ≥ 0 ∧ w2 ≥ 0 ∧ (inArc s w s2 ∨ inArc s2 w2 s)
instance (s w s2 w2 : Int) : Decidable (meetV s w s2 w2) := by
  unfold meetV
  infer_instance
theorem sMeet (s w s2 w2 : Int) : spec_ArcsMeet.f s w s2 w2 = some (decide (meetV s w s2 w2)) := by
  unfold spec_ArcsMeet.f meetV
  simp only [sInArc, Option.bind_some, decide_eq_true_eq]
  by_cases c : w ≥ 0
  · rw [if_pos c]
    by_cases c2 : w2 ≥ 0
    · rw [if_pos c2]
      by_cases c3 : inArc s w s2
      · rw [if_pos c3]
        congr 1
        exact (decide_eq_true ⟨c, c2, Or.inl c3⟩).symm
      · rw [if_neg c3]
        congr 1
        exact decide_eq_decide.2 ⟨fun h => ⟨c, c2, Or.inr h⟩, fun h => h.2.2.resolve_left c3⟩
    · rw [if_neg c2]
      congr 1
      exact (decide_eq_false (fun h => c2 h.2.1)).symm
  · rw [if_neg c]
    congr 1
    exact (decide_eq_false (fun h => c h.1)).symm
theorem meet_iff (s w s2 w2 : Int) : (∃ j : Int, 0 ≤ j ∧ j < ((360 : Nat) : Int) ∧ (inArc s w j ∧ inArc s2 w2 j)) ↔ meetV s w s2 w2 := by
  unfold meetV inArc
  constructor
  · rintro ⟨j, h0, h1, h2, h3⟩
    refine ⟨by omega, by omega, ?_⟩
    by_cases c : (j % 360 - s % 360) % 360 ≥ (j % 360 - s2 % 360) % 360
    · exact Or.inl (by omega)
    · exact Or.inr (by omega)
  · rintro ⟨h0, h1, h | h⟩
    · exact ⟨s2 % 360, by omega, by omega, by omega, by omega⟩
    · exact ⟨s % 360, by omega, by omega, by omega, by omega⟩
theorem iMeet (s w s2 w2 : Int) : Ev (fun k => impl_ArcsMeet.f k s w s2 w2) (decide (meetV s w s2 w2)) := by
  unfold impl_ArcsMeet.f
  have key := K.anys (n := 360) (fun k i => impl_ArcsMeet.l0 k i s w s2 w2) (fun _ => some false) (fun j => inArc s w j ∧ inArc s2 w2 j) (by
    intro k i hi
    simp only [impl_ArcsMeet.l0]
    rw [if_neg (show ¬ i < 360 by omega)]) (by
    intro k i i0 hi ho
    simp only [impl_ArcsMeet.l0, iInArc, Option.bind_some, decide_eq_true_eq]
    rw [if_pos (show i < 360 by omega), if_pos ho.1, if_pos ho.2]) (by
    intro k i i0 hi ho
    simp only [impl_ArcsMeet.l0, iInArc, Option.bind_some, decide_eq_true_eq]
    rw [if_pos (show i < 360 by omega), K.wr (x := i + 1) (by omega) (by omega)]
    by_cases c : inArc s w i
    · rw [if_pos c, if_neg (fun h => ho ⟨c, h⟩)]
    · rw [if_neg c]) 360 0 (by omega) (by omega)
  by_cases c : meetV s w s2 w2
  · rw [decide_eq_true c]
    exact key.1 ((meet_iff s w s2 w2).2 c)
  · rw [decide_eq_false c]
    exact key.2 (fun h => c ((meet_iff s w s2 w2).1 h)) false (Ev.now _)
theorem disturb (pl : Int) (sa : List S68) (si : List S70) (rc cr vw su sh : Int) (zo : List S76) (ac : Int) (hn : (sa.length : Int) + si.length ≤ 4194304) (hz : zo.length ≤ 1048576) (i t : Int) :
    ∃ b : Bool, Ev (fun k => spec_MayDisturb.f k pl sa si rc cr vw su sh zo ac i t) b ∧ Ev (fun k => impl_MayDisturb.f k pl sa si rc cr vw su sh zo ac i t) b ∧ (¬ (0 ≤ i ∧ i < (sa.length : Int)) → b = false) := by
  unfold spec_MayDisturb.f impl_MayDisturb.f
  simp only [sIsSat sa (by omega), iIsSat _ _ _ _ _ _ _ _ _ _ hn, Option.bind_some, decide_eq_true_eq]
  by_cases c : 0 ≤ i ∧ i < (sa.length : Int)
  · rw [iNode _ _ _ _ _ _ _ _ _ _ hn]
    simp only [Option.bind_some]
    have loop : ∀ (d : Nat) (j : Int), 0 ≤ j → (zo.length : Int) - j = d → ∃ b : Bool, Ev (fun k => spec_MayDisturb.l0 k i t j pl sa si rc cr vw su sh zo ac) b ∧ Ev (fun k => impl_MayDisturb.l0 k i zo (zo.length : Int) j pl sa si rc cr vw su sh zo ac (nodeS sa si i t) (nodeW sa i)) b := by
      intro d
      induction d with
      | zero =>
        intro j h0 hd
        refine ⟨false, K.succ ?_, K.succ ?_⟩
        · simp only [spec_MayDisturb.l0]
          exact K.neg (by omega) (Ev.now _)
        · simp only [impl_MayDisturb.l0]
          exact K.neg (by omega) (Ev.now _)
      | succ d ih =>
        intro j h0 hd
        have w1 : wrap64 (j + 1) = j + 1 := K.wr (by omega) (by omega)
        obtain ⟨b, g1, g2⟩ := ih (j + 1) (by omega) (by omega)
        by_cases c2 : (rd_T76 zo j).f0 = (rd_T68 sa i).f0
        · by_cases c3 : meetV (nodeS sa si i t) (nodeW sa i) (rd_T76 zo j).f1.f0 (rd_T76 zo j).f1.f1
          · have e := iMeet (nodeS sa si i t) (nodeW sa i) (rd_T76 zo j).f1.f0 (rd_T76 zo j).f1.f1
            rw [decide_eq_true c3] at e
            refine ⟨true, K.succ ?_, K.succ ?_⟩
            · simp only [spec_MayDisturb.l0, sMeet, Option.bind_some]
              refine K.pos (by omega) (K.pos h0 (K.pos c.1 (K.pos c.2 (K.pos c2 (Ev.bind (sNode _ _ _ _ _ _ _ _ _ _ hn i t) ?_)))))
              exact K.pos (decide_eq_true c3) (Ev.now _)
            · simp only [impl_MayDisturb.l0]
              exact K.pos (by omega) (K.pos h0 (K.pos (by omega) (K.pos c.1 (K.pos c.2 (K.pos c2 (Ev.bind e (K.pos rfl (Ev.now _))))))))
          · have e := iMeet (nodeS sa si i t) (nodeW sa i) (rd_T76 zo j).f1.f0 (rd_T76 zo j).f1.f1
            rw [decide_eq_false c3] at e
            refine ⟨b, K.succ ?_, K.succ ?_⟩
            · simp only [spec_MayDisturb.l0, sMeet, Option.bind_some, w1]
              refine K.pos (by omega) (K.pos h0 (K.pos c.1 (K.pos c.2 (K.pos c2 (Ev.bind (sNode _ _ _ _ _ _ _ _ _ _ hn i t) ?_)))))
              exact K.neg (fun h => c3 (of_decide_eq_true h)) g1
            · simp only [impl_MayDisturb.l0, w1]
              exact K.pos (by omega) (K.pos h0 (K.pos (by omega) (K.pos c.1 (K.pos c.2 (K.pos c2 (Ev.bind e (K.neg Bool.false_ne_true g2)))))))
        · refine ⟨b, K.succ ?_, K.succ ?_⟩
          · simp only [spec_MayDisturb.l0, w1]
            exact K.pos (by omega) (K.pos h0 (K.pos c.1 (K.pos c.2 (K.neg c2 g1))))
          · simp only [impl_MayDisturb.l0, w1]
            exact K.pos (by omega) (K.pos h0 (K.pos (by omega) (K.pos c.1 (K.pos c.2 (K.neg c2 g2)))))
    obtain ⟨b, g1, g2⟩ := loop zo.length 0 (by omega) (by omega)
    exact ⟨b, K.pos c g1, K.pos c g2, fun h => absurd c h⟩
  · exact ⟨false, K.neg c (Ev.now _), K.neg c (Ev.now _), fun _ => rfl⟩

theorem sQuiet (pl : Int) (sa : List S68) (si : List S70) (rc cr vw su sh : Int) (zo : List S76) (ac : Int) (p : Int → Bool) (i hi : Int) (hp : ∀ t, Ev (fun k => spec_MayDisturb.f k pl sa si rc cr vw su sh zo ac i t) (p t)) (hh : hi ≤ 1000) : ∀ (d : Nat) (o : List S52) (t : Int), 0 ≤ t → (hi - t).toNat = d → o.length + d ≤ 7000000000000 → Ev (fun k => spec_QuietSpans.l0 k i o hi t pl sa si rc cr vw su sh zo ac) (run p o t d) := by
  intro d
  induction d with
  | zero =>
    intro o t h0 hd ho
    refine K.succ ?_
    simp only [spec_QuietSpans.l0, run]
    exact K.neg (by omega) (Ev.now _)
  | succ d ih =>
    intro o t h0 hd ho
    refine K.succ ?_
    simp only [spec_QuietSpans.l0, run]
    rw [K.wr (x := t + 1) (by omega) (by omega)]
    refine K.pos (by omega) (Ev.bind (hp t) ?_)
    have hp := put_len o t
    by_cases c : p t = true
    · rw [if_pos c]
      exact K.pos c (K.known (sPut o t h0 (by omega) (by omega)) (ih (put o t) (t + 1) (by omega) (by omega) (by omega)))
    · rw [if_neg c]
      exact K.neg c (ih o (t + 1) (by omega) (by omega) (by omega))
theorem quiets (pl : Int) (sa : List S68) (si : List S70) (rc cr vw su sh : Int) (zo : List S76) (ac : Int) (hn : (sa.length : Int) + si.length ≤ 4194304) (hz : zo.length ≤ 1048576) (i a b : Int) : ∃ r : List S52, r.length ≤ 1000 ∧ Ev (fun k => spec_QuietSpans.f k pl sa si rc cr vw su sh zo ac i a b) r ∧ Ev (fun k => impl_QuietSpans.f k pl sa si rc cr vw su sh zo ac i a b) r := by
  obtain ⟨lo, hi, e, h0, h1, hr⟩ := l8 a b
  have hm : mn b 1000 ≤ 1000 := by unfold mn; split <;> omega
  have hx : 0 ≤ mx a 0 := by unfold mx; split <;> omega
  obtain ⟨p, hp⟩ : ∃ p : Int → Bool, ∀ t, Ev (fun k => spec_MayDisturb.f k pl sa si rc cr vw su sh zo ac i t) (p t) ∧ Ev (fun k => impl_MayDisturb.f k pl sa si rc cr vw su sh zo ac i t) (p t) :=
    ⟨fun t => (disturb pl sa si rc cr vw su sh zo ac hn hz i t).choose, fun t => ⟨(disturb pl sa si rc cr vw su sh zo ac hn hz i t).choose_spec.1, (disturb pl sa si rc cr vw su sh zo ac hn hz i t).choose_spec.2.1⟩⟩
  refine ⟨run p [] lo (hi - lo).toNat, Nat.le_trans (run_len _ _ _ _) (by simp; omega), ?_, ?_⟩
  · unfold spec_QuietSpans.f
    exact K.known e (sQuiet pl sa si rc cr vw su sh zo ac p i hi (fun t => (hp t).1) h1 _ [] lo h0 rfl (by simp; omega))
  · rw [hr]
    unfold impl_QuietSpans.f where_impl_QuietSpans_1.f sw.f
    refine Ev.bind (whereRun (fun k t' => impl_QuietSpans_1.f k t' pl sa si rc cr vw su sh zo ac i) p b (fun t _ _ => ?_) _ [] (mx a 0) hx rfl (by simp; omega)) (Ev.now _)
    unfold impl_QuietSpans_1.f
    exact Ev.bind (hp t).2 (Ev.now _)
theorem speaking (pl : Int) (sa : List S68) (si : List S70) (rc cr vw su sh : Int) (zo : List S76) (ac : Int) (hn : (sa.length : Int) + si.length ≤ 4194304) (hz : zo.length ≤ 1048576) (hpl0 : -9223372036854775808 ≤ pl) (hpl1 : pl ≤ 9223372036854775807) (h1 : ∀ x ∈ sa, -9223372036854775808 ≤ x.f0 ∧ x.f0 ≤ 9223372036854775807) (h2 : ∀ x ∈ si, -9223372036854775808 ≤ x.f0 ∧ x.f0 ≤ 9223372036854775807) (i j a b : Int) : ∃ r : List S52, r.length ≤ 1000 ∧ Ev (fun k => spec_SpeakingSpans.f k pl sa si rc cr vw su sh zo ac i j a b) r ∧ Ev (fun k => impl_SpeakingSpans.f k pl sa si rc cr vw su sh zo ac i j a b) r := by
  obtain ⟨w, hw, sw_, iw, _⟩ := sureWins pl sa si rc cr vw su sh zo ac hn hpl0 hpl1 h1 h2 i j a b
  obtain ⟨qa, ha, sa_, ia⟩ := quiets pl sa si rc cr vw su sh zo ac hn hz i a b
  obtain ⟨qb, hb, sb_, ib⟩ := quiets pl sa si rc cr vw su sh zo ac hn hz j a b
  obtain ⟨s1, _⟩ := cutBoth w qa (by omega) (by omega)
  have hl1 : (run (cutP w qa) [] 0 1000).length ≤ 1000 := Nat.le_trans (run_len _ 1000 [] 0) (by simp)
  obtain ⟨s2, _⟩ := cutBoth (run (cutP w qa) [] 0 1000) qb (by omega) (by omega)
  rw [cut_cut] at s2
  obtain ⟨_, i1⟩ := cutBoth w (qa ++ qb) (by omega) (by simp; omega)
  have hcc := concat2 qa qb (by omega) (by omega)
  refine ⟨run (cutP w (qa ++ qb)) [] 0 1000, Nat.le_trans (run_len _ 1000 [] 0) (by simp), ?_, ?_⟩
  · unfold spec_SpeakingSpans.f
    exact Ev.bind sw_ (Ev.bind sa_ (Ev.bind s1 (Ev.bind sb_ (Ev.bind s2 (Ev.now _)))))
  · unfold impl_SpeakingSpans.f
    exact Ev.bind iw (Ev.bind ia (Ev.bind ib (Ev.bind hcc (Ev.bind i1 (Ev.now _)))))

def satOk (pl : Int) (x : S68) : Prop := 0 ≤ x.f0 ∧ x.f0 < pl ∧ (0 ≤ x.f1 ∧ x.f1 ≤ 359) ∧ (-60 ≤ x.f2 ∧ x.f2 ≤ 60) ∧ (0 ≤ x.f3 ∧ x.f3 ≤ 20)
def siteOk (pl : Int) (x : S70) : Prop := 0 ≤ x.f0 ∧ x.f0 < pl ∧ (0 ≤ x.f1 ∧ x.f1 ≤ 359) ∧ (-60 ≤ x.f2 ∧ x.f2 ≤ 60)
def zoneOk (pl : Int) (x : S76) : Prop := 0 ≤ x.f0 ∧ x.f0 < pl ∧ (0 ≤ x.f1.f1 ∧ x.f1.f1 ≤ 359)
theorem sIsSat' (x : S68) (pl : Int) : ∃ b, spec_IsSat.f x.f0 x.f1 x.f2 x.f3 pl = some b ∧ (b = true ↔ satOk pl x) := by
  unfold spec_IsSat.f satOk
  simp only [l1In, Option.bind_some, decide_eq_true_eq]
  by_cases c0 : x.f0 ≥ 0
  · rw [if_pos c0]
    by_cases c1 : x.f0 < pl
    · rw [if_pos c1]
      by_cases c2 : 0 ≤ x.f1 ∧ x.f1 ≤ 359
      · rw [if_pos c2]
        by_cases c3 : -60 ≤ x.f2 ∧ x.f2 ≤ 60
        · rw [if_pos c3]
          exact ⟨_, rfl, by rw [decide_eq_true_eq]; omega⟩
        · rw [if_neg c3]
          exact ⟨_, rfl, fun h => absurd h Bool.false_ne_true, fun h => absurd h.2.2.2.1 c3⟩
      · rw [if_neg c2]
        exact ⟨_, rfl, fun h => absurd h Bool.false_ne_true, fun h => absurd h.2.2.1 c2⟩
    · rw [if_neg c1]
      exact ⟨_, rfl, fun h => absurd h Bool.false_ne_true, fun h => absurd h.2.1 c1⟩
  · rw [if_neg c0]
    exact ⟨_, rfl, fun h => absurd h Bool.false_ne_true, fun h => absurd h.1 c0⟩
theorem iIsSat' (x : S68) (pl : Int) : ∃ b, impl_IsSat.f x.f0 x.f1 x.f2 x.f3 pl = some b ∧ (b = true ↔ satOk pl x) := by
  unfold impl_IsSat.f satOk
  simp only [InRange, Option.bind_some, decide_eq_true_eq]
  by_cases c0 : x.f0 ≥ 0
  · rw [if_pos c0]
    by_cases c1 : x.f0 < pl
    · rw [if_pos c1]
      by_cases c2 : 0 ≤ x.f1 ∧ x.f1 ≤ 359
      · rw [if_pos c2]
        by_cases c3 : -60 ≤ x.f2 ∧ x.f2 ≤ 60
        · rw [if_pos c3]
          exact ⟨_, rfl, by rw [decide_eq_true_eq]; omega⟩
        · rw [if_neg c3]
          exact ⟨_, rfl, fun h => absurd h Bool.false_ne_true, fun h => absurd h.2.2.2.1 c3⟩
      · rw [if_neg c2]
        exact ⟨_, rfl, fun h => absurd h Bool.false_ne_true, fun h => absurd h.2.2.1 c2⟩
    · rw [if_neg c1]
      exact ⟨_, rfl, fun h => absurd h Bool.false_ne_true, fun h => absurd h.2.1 c1⟩
  · rw [if_neg c0]
    exact ⟨_, rfl, fun h => absurd h Bool.false_ne_true, fun h => absurd h.1 c0⟩
def headOk (pl : Int) (sa : List S68) (si : List S70) (zo : List S76) : Prop := (1 ≤ pl ∧ pl ≤ 4) ∧ (1 ≤ (sa.length : Int) ∧ (sa.length : Int) ≤ 8) ∧ ¬ (si.length : Int) > 4 ∧ ¬ (zo.length : Int) > 4
def tailOk (rc cr vw su sh ac : Int) : Prop := (0 ≤ rc ∧ rc ≤ 180) ∧ (0 ≤ cr ∧ cr ≤ 180) ∧ (0 ≤ vw ∧ vw ≤ 180) ∧ (0 ≤ sh ∧ sh ≤ 180) ∧ (-60 ≤ su ∧ su ≤ 60) ∧ (0 ≤ ac ∧ ac ≤ 20)
theorem sTail (pl : Int) (sa : List S68) (si : List S70) (rc cr vw su sh : Int) (zo : List S76) (ac : Int) : ∃ b : Bool, Ev (fun k => spec_IsSky.j3 k false pl sa si rc cr vw su sh zo ac) b ∧ (b = true ↔ tailOk rc cr vw su sh ac) := by
  have key : ∃ b : Bool, (∀ k, spec_IsSky.j3 (k + 1) false pl sa si rc cr vw su sh zo ac = some b) ∧ (b = true ↔ tailOk rc cr vw su sh ac) := by
    unfold tailOk
    simp only [spec_IsSky.j3, spec_l7Half.f, spec_l7Turn.f, l1In, Option.bind_some, decide_eq_true_eq]
    by_cases c1 : 0 ≤ rc ∧ rc ≤ 180
    · by_cases c2 : 0 ≤ cr ∧ cr ≤ 180
      · by_cases c3 : 0 ≤ vw ∧ vw ≤ 180
        · by_cases c4 : 0 ≤ sh ∧ sh ≤ 180
          · by_cases c5 : -60 ≤ su ∧ su ≤ 60
            · exact ⟨decide (0 ≤ ac ∧ ac ≤ 20), fun k => by rw [if_neg Bool.false_ne_true, if_pos c1, if_pos c2, if_pos c3, if_pos c4, if_pos c5], by rw [decide_eq_true_eq]; exact ⟨fun h => ⟨c1, c2, c3, c4, c5, h⟩, fun h => h.2.2.2.2.2⟩⟩
            · exact ⟨false, fun k => by rw [if_neg Bool.false_ne_true, if_pos c1, if_pos c2, if_pos c3, if_pos c4, if_neg c5], fun h => absurd h Bool.false_ne_true, fun h => absurd h.2.2.2.2.1 c5⟩
          · exact ⟨false, fun k => by rw [if_neg Bool.false_ne_true, if_pos c1, if_pos c2, if_pos c3, if_neg c4], fun h => absurd h Bool.false_ne_true, fun h => absurd h.2.2.2.1 c4⟩
        · exact ⟨false, fun k => by rw [if_neg Bool.false_ne_true, if_pos c1, if_pos c2, if_neg c3], fun h => absurd h Bool.false_ne_true, fun h => absurd h.2.2.1 c3⟩
      · exact ⟨false, fun k => by rw [if_neg Bool.false_ne_true, if_pos c1, if_neg c2], fun h => absurd h Bool.false_ne_true, fun h => absurd h.2.1 c2⟩
    · exact ⟨false, fun k => by rw [if_neg Bool.false_ne_true, if_neg c1], fun h => absurd h Bool.false_ne_true, fun h => absurd h.1 c1⟩
  obtain ⟨b, h1, h2⟩ := key
  exact ⟨b, K.succ (by simp only [h1]; exact Ev.now _), h2⟩
theorem iTail (pl : Int) (sa : List S68) (si : List S70) (rc cr vw su sh : Int) (zo : List S76) (ac : Int) : ∃ b : Bool, Ev (fun k => impl_IsSky.l3 k [rc, cr, vw, sh] (([rc, cr, vw, sh] : List Int).length : Int) 0 pl sa si rc cr vw su sh zo ac) b ∧ (b = true ↔ tailOk rc cr vw su sh ac) := by
  have hg : ∃ b : Bool, ∀ _k : Nat, ((impl_InRange.f su (-60) 60).bind fun t228 => (if t228 = true then ((impl_InRange.f ac 0 20).bind fun t229 => (some t229)) else (some false))) = some b ∧ (b = true ↔ (-60 ≤ su ∧ su ≤ 60) ∧ (0 ≤ ac ∧ ac ≤ 20)) := by
    simp only [InRange, Option.bind_some, decide_eq_true_eq]
    by_cases c5 : -60 ≤ su ∧ su ≤ 60
    · exact ⟨decide (0 ≤ ac ∧ ac ≤ 20), fun k => ⟨by rw [if_pos c5], by rw [decide_eq_true_eq]; exact ⟨fun h => ⟨c5, h⟩, fun h => h.2⟩⟩⟩
    · exact ⟨false, fun k => ⟨by rw [if_neg c5], fun h => absurd h Bool.false_ne_true, fun h => absurd h.1 c5⟩⟩
  obtain ⟨b, hb⟩ := hg
  obtain ⟨h1, h2⟩ := K.alls (n := 4) (fun k i => impl_IsSky.l3 k [rc, cr, vw, sh] 4 i pl sa si rc cr vw su sh zo ac) (fun _ => some b) (fun j => 0 ≤ rd [rc, cr, vw, sh] j ∧ rd [rc, cr, vw, sh] j ≤ 180) (by
      intro k i hi
      simp only [impl_IsSky.l3]
      rw [if_neg (show ¬ i < 4 by omega)]
      exact (hb 0).1) (by
      intro k i i0 hi ho
      simp only [impl_IsSky.l3, InRange, Option.bind_some, decide_eq_true_eq]
      rw [if_pos (show i < 4 by omega), if_pos i0, if_pos (show i < (([rc, cr, vw, sh] : List Int).length : Int) by simp; omega), if_pos ho, K.wr (x := i + 1) (by omega) (by omega)]) (by
      intro k i i0 hi ho
      simp only [impl_IsSky.l3, InRange, Option.bind_some, decide_eq_true_eq]
      rw [if_pos (show i < 4 by omega), if_pos i0, if_pos (show i < (([rc, cr, vw, sh] : List Int).length : Int) by simp; omega), if_neg ho]) 4 0 (by omega) (by omega)
  · by_cases c : ∀ j : Int, 0 ≤ j → j < 4 → 0 ≤ rd [rc, cr, vw, sh] j ∧ rd [rc, cr, vw, sh] j ≤ 180
    · refine ⟨b, h1 c b (Ev.now _), ?_⟩
      rw [(hb 0).2]
      exact ⟨fun h => ⟨c 0 (by omega) (by omega), c 1 (by omega) (by omega), c 2 (by omega) (by omega), c 3 (by omega) (by omega), h⟩, fun h => h.2.2.2.2⟩
    · refine ⟨false, h2 c, fun h => absurd h Bool.false_ne_true, fun h => absurd (fun j j0 j1 => ?_) c⟩
      have hj : j = 0 ∨ j = 1 ∨ j = 2 ∨ j = 3 := by omega
      rcases hj with rfl | rfl | rfl | rfl
      · exact h.1
      · exact h.2.1
      · exact h.2.2.1
      · exact h.2.2.2.1
theorem isSky (pl : Int) (sa : List S68) (si : List S70) (rc cr vw su sh : Int) (zo : List S76) (ac : Int) (h1 : sa.length ≤ 1048576) (h2 : si.length ≤ 1048576) (h3 : zo.length ≤ 1048576) (hpl0 : -9223372036854775808 ≤ pl) (hpl1 : pl ≤ 9223372036854775807) :
    ∃ b, Ev (fun k => spec_IsSky.f k pl sa si rc cr vw su sh zo ac) b ∧ Ev (fun k => impl_IsSky.f k pl sa si rc cr vw su sh zo ac) b := by
  -- the reference's loops
  obtain ⟨s0y, s0n⟩ := K.alls (n := sa.length) (fun k i => spec_IsSky.l0 k i pl sa si rc cr vw su sh zo ac) (fun k => spec_IsSky.l1 k 0 pl sa si rc cr vw su sh zo ac) (fun j => satOk pl (rd_T68 sa j)) (by
      intro k i hi
      simp only [spec_IsSky.l0]
      rw [if_neg hi]) (by
      intro k i i0 hi ho
      obtain ⟨b, e, hb⟩ := sIsSat' (rd_T68 sa i) pl
      simp only [spec_IsSky.l0, e, Option.bind_some]
      rw [if_pos hi, if_pos i0, if_pos (hb.2 ho), K.wr (x := i + 1) (by omega) (by omega)]) (by
      intro k i i0 hi ho
      obtain ⟨b, e, hb⟩ := sIsSat' (rd_T68 sa i) pl
      simp only [spec_IsSky.l0, e, Option.bind_some]
      rw [if_pos hi, if_pos i0, if_neg (fun h => ho (hb.1 h))]) sa.length 0 (by omega) (by omega)
  obtain ⟨s1y, s1n⟩ := K.alls (n := si.length) (fun k i => spec_IsSky.l1 k i pl sa si rc cr vw su sh zo ac) (fun k => spec_IsSky.l2 k 0 pl sa si rc cr vw su sh zo ac) (fun j => siteOk pl (rd_T70 si j)) (by
      intro k i hi
      simp only [spec_IsSky.l1]
      rw [if_neg hi]) (by
      intro k i i0 hi ho
      simp only [spec_IsSky.l1, spec_l7Turn.f, l1In, Option.bind_some, decide_eq_true_eq]
      unfold siteOk at ho
      rw [if_pos hi, if_pos i0, if_neg (by omega), if_neg (by omega), if_pos ho.2.2.1, if_pos ho.2.2.2, K.wr (x := i + 1) (by omega) (by omega)]) (by
      intro k i i0 hi ho
      simp only [spec_IsSky.l1, spec_l7Turn.f, l1In, Option.bind_some, decide_eq_true_eq]
      unfold siteOk at ho
      rw [if_pos hi, if_pos i0]
      by_cases e0 : (rd_T70 si i).f0 < 0
      · rw [if_pos e0]
      · rw [if_neg e0]
        by_cases e1 : (rd_T70 si i).f0 ≥ pl
        · rw [if_pos e1]
        · rw [if_neg e1]
          by_cases e2 : 0 ≤ (rd_T70 si i).f1 ∧ (rd_T70 si i).f1 ≤ 359
          · rw [if_pos e2, if_neg (fun e3 => ho ⟨by omega, by omega, e2, e3⟩)]
          · rw [if_neg e2]) si.length 0 (by omega) (by omega)
  obtain ⟨s2y, s2n⟩ := K.alls (n := zo.length) (fun k i => spec_IsSky.l2 k i pl sa si rc cr vw su sh zo ac) (fun k => (spec_l1In.f pl 1 4).bind fun t195 => (if t195 = true then ((spec_l1In.f (sa.length : Int) 1 8).bind fun t196 => (if t196 = true then (if (si.length : Int) > 4 then (spec_IsSky.j3 k true pl sa si rc cr vw su sh zo ac) else (spec_IsSky.j3 k (decide ((zo.length : Int) > 4)) pl sa si rc cr vw su sh zo ac)) else (spec_IsSky.j3 k true pl sa si rc cr vw su sh zo ac))) else (spec_IsSky.j3 k true pl sa si rc cr vw su sh zo ac))) (fun j => zoneOk pl (rd_T76 zo j)) (by
      intro k i hi
      simp only [spec_IsSky.l2]
      rw [if_neg hi]) (by
      intro k i i0 hi ho
      simp only [spec_IsSky.l2, l1In, Option.bind_some, decide_eq_true_eq]
      unfold zoneOk at ho
      rw [if_pos hi, if_pos i0, if_neg (by omega), if_neg (by omega), if_pos ho.2.2, K.wr (x := i + 1) (by omega) (by omega)]) (by
      intro k i i0 hi ho
      simp only [spec_IsSky.l2, l1In, Option.bind_some, decide_eq_true_eq]
      unfold zoneOk at ho
      rw [if_pos hi, if_pos i0]
      by_cases e0 : (rd_T76 zo i).f0 < 0
      · rw [if_pos e0]
      · rw [if_neg e0]
        by_cases e1 : (rd_T76 zo i).f0 ≥ pl
        · rw [if_pos e1]
        · rw [if_neg e1, if_neg (fun e3 => ho ⟨by omega, by omega, e3⟩)]) zo.length 0 (by omega) (by omega)
  have sbad : Ev (fun k => spec_IsSky.j3 k true pl sa si rc cr vw su sh zo ac) false := by
    refine K.succ ?_
    simp only [spec_IsSky.j3]
    exact K.pos (by trivial) (Ev.now _)
  have ibad : Ev (fun k => impl_IsSky.j0 k true pl sa si rc cr vw su sh zo ac) false := by
    refine K.succ ?_
    simp only [impl_IsSky.j0]
    exact K.pos (by trivial) (Ev.now _)
  unfold spec_IsSky.f impl_IsSky.f
  simp only [InRange, Option.bind_some, decide_eq_true_eq]
  simp only [l1In, Option.bind_some, decide_eq_true_eq] at s2y
  -- what stands behind the reference's loops, where the head is wrong
  by_cases hh : headOk pl sa si zo
  · obtain ⟨p1, p2, p3, p4⟩ := hh
    have hz : decide ((zo.length : Int) > 4) = false := decide_eq_false p4
    have w1 : wrap64 (pl - 1) = pl - 1 := K.wr (by omega) (by omega)
    -- the program's loops
    obtain ⟨i0y, i0n⟩ := K.alls (n := sa.length) (fun k i => impl_IsSky.l0 k sa (sa.length : Int) i pl sa si rc cr vw su sh zo ac) (fun k => impl_IsSky.l1 k si (si.length : Int) 0 pl sa si rc cr vw su sh zo ac) (fun j => satOk pl (rd_T68 sa j)) (by
        intro k i hi
        simp only [impl_IsSky.l0]
        rw [if_neg hi]) (by
        intro k i i0 hi ho
        obtain ⟨b, e, hb⟩ := iIsSat' (rd_T68 sa i) pl
        simp only [impl_IsSky.l0, e, Option.bind_some]
        rw [if_pos hi, if_pos i0, if_pos hi, if_pos (hb.2 ho), K.wr (x := i + 1) (by omega) (by omega)]) (by
        intro k i i0 hi ho
        obtain ⟨b, e, hb⟩ := iIsSat' (rd_T68 sa i) pl
        simp only [impl_IsSky.l0, e, Option.bind_some]
        rw [if_pos hi, if_pos i0, if_pos hi, if_neg (fun h => ho (hb.1 h))]) sa.length 0 (by omega) (by omega)
    obtain ⟨i1y, i1n⟩ := K.alls (n := si.length) (fun k i => impl_IsSky.l1 k si (si.length : Int) i pl sa si rc cr vw su sh zo ac) (fun k => impl_IsSky.l2 k zo (zo.length : Int) 0 pl sa si rc cr vw su sh zo ac) (fun j => siteOk pl (rd_T70 si j)) (by
        intro k i hi
        simp only [impl_IsSky.l1]
        rw [if_neg hi]) (by
        intro k i i0 hi ho
        simp only [impl_IsSky.l1, InRange, Option.bind_some, decide_eq_true_eq, w1]
        unfold siteOk at ho
        rw [if_pos hi, if_pos i0, if_pos hi, if_pos (by omega), if_pos ho.2.2.1, if_pos ho.2.2.2, K.wr (x := i + 1) (by omega) (by omega)]) (by
        intro k i i0 hi ho
        simp only [impl_IsSky.l1, InRange, Option.bind_some, decide_eq_true_eq, w1]
        unfold siteOk at ho
        rw [if_pos hi, if_pos i0, if_pos hi]
        by_cases e0 : 0 ≤ (rd_T70 si i).f0 ∧ (rd_T70 si i).f0 ≤ pl - 1
        · rw [if_pos e0]
          by_cases e2 : 0 ≤ (rd_T70 si i).f1 ∧ (rd_T70 si i).f1 ≤ 359
          · rw [if_pos e2, if_neg (fun e3 => ho ⟨by omega, by omega, e2, e3⟩)]
          · rw [if_neg e2]
        · rw [if_neg e0]) si.length 0 (by omega) (by omega)
    obtain ⟨i2y, i2n⟩ := K.alls (n := zo.length) (fun k i => impl_IsSky.l2 k zo (zo.length : Int) i pl sa si rc cr vw su sh zo ac) (fun k => impl_IsSky.l3 k [rc, cr, vw, sh] (([rc, cr, vw, sh] : List Int).length : Int) 0 pl sa si rc cr vw su sh zo ac) (fun j => zoneOk pl (rd_T76 zo j)) (by
        intro k i hi
        simp only [impl_IsSky.l2, Option.bind_some]
        rw [if_neg hi]) (by
        intro k i i0 hi ho
        simp only [impl_IsSky.l2, InRange, iWidth, Option.bind_some, decide_eq_true_eq, w1]
        unfold zoneOk at ho
        rw [if_pos hi, if_pos i0, if_pos hi, if_pos (by omega), if_pos ho.2.2, K.wr (x := i + 1) (by omega) (by omega)]) (by
        intro k i i0 hi ho
        simp only [impl_IsSky.l2, InRange, iWidth, Option.bind_some, decide_eq_true_eq, w1]
        unfold zoneOk at ho
        rw [if_pos hi, if_pos i0, if_pos hi]
        by_cases e0 : 0 ≤ (rd_T76 zo i).f0 ∧ (rd_T76 zo i).f0 ≤ pl - 1
        · rw [if_pos e0, if_neg (fun e3 => ho ⟨by omega, by omega, e3⟩)]
        · rw [if_neg e0]) zo.length 0 (by omega) (by omega)
    have igo : ∀ v, Ev (fun k => impl_IsSky.l0 k sa (sa.length : Int) 0 pl sa si rc cr vw su sh zo ac) v → Ev (fun k => if 1 ≤ pl ∧ pl ≤ 4 then if 1 ≤ (sa.length : Int) ∧ (sa.length : Int) ≤ 8 then if (si.length : Int) > 4 then impl_IsSky.j0 k true pl sa si rc cr vw su sh zo ac else impl_IsSky.j0 k (decide ((zo.length : Int) > 4)) pl sa si rc cr vw su sh zo ac else impl_IsSky.j0 k true pl sa si rc cr vw su sh zo ac else impl_IsSky.j0 k true pl sa si rc cr vw su sh zo ac) v := by
      intro v hv
      refine K.pos p1 (K.pos p2 (K.neg p3 ?_))
      rw [hz]
      refine K.succ ?_
      simp only [impl_IsSky.j0]
      exact K.neg Bool.false_ne_true hv
    by_cases q0 : ∀ j : Int, 0 ≤ j → j < (sa.length : Int) → satOk pl (rd_T68 sa j)
    · by_cases q1 : ∀ j : Int, 0 ≤ j → j < (si.length : Int) → siteOk pl (rd_T70 si j)
      · by_cases q2 : ∀ j : Int, 0 ≤ j → j < (zo.length : Int) → zoneOk pl (rd_T76 zo j)
        · obtain ⟨b, t1, t2⟩ := sTail pl sa si rc cr vw su sh zo ac
          obtain ⟨b', t3, t4⟩ := iTail pl sa si rc cr vw su sh zo ac
          have hbb : b = b' := by
            rw [Bool.eq_iff_iff, t2, t4]
          subst hbb
          refine ⟨b, s0y q0 b (s1y q1 b (s2y q2 b (K.pos p1 (K.pos p2 (K.neg p3 ?_))))), igo b (i0y q0 b (i1y q1 b (i2y q2 b t3)))⟩
          rw [hz]
          exact t1
        · exact ⟨false, s0y q0 _ (s1y q1 _ (s2n q2)), igo _ (i0y q0 _ (i1y q1 _ (i2n q2)))⟩
      · exact ⟨false, s0y q0 _ (s1n q1), igo _ (i0y q0 _ (i1n q1))⟩
    · exact ⟨false, s0n q0, igo _ (i0n q0)⟩
  · have hs : Ev (fun k => if 1 ≤ pl ∧ pl ≤ 4 then if 1 ≤ (sa.length : Int) ∧ (sa.length : Int) ≤ 8 then if (si.length : Int) > 4 then spec_IsSky.j3 k true pl sa si rc cr vw su sh zo ac else spec_IsSky.j3 k (decide ((zo.length : Int) > 4)) pl sa si rc cr vw su sh zo ac else spec_IsSky.j3 k true pl sa si rc cr vw su sh zo ac else spec_IsSky.j3 k true pl sa si rc cr vw su sh zo ac) false := by
      by_cases p1 : 1 ≤ pl ∧ pl ≤ 4
      · refine K.pos p1 ?_
        by_cases p2 : 1 ≤ (sa.length : Int) ∧ (sa.length : Int) ≤ 8
        · refine K.pos p2 ?_
          by_cases p3 : (si.length : Int) > 4
          · exact K.pos p3 sbad
          · refine K.neg p3 ?_
            have p4 : (zo.length : Int) > 4 := Decidable.byContradiction (fun p4 => hh ⟨p1, p2, p3, p4⟩)
            rw [decide_eq_true p4]
            exact sbad
        · exact K.neg p2 sbad
      · exact K.neg p1 sbad
    have hi : Ev (fun k => if 1 ≤ pl ∧ pl ≤ 4 then if 1 ≤ (sa.length : Int) ∧ (sa.length : Int) ≤ 8 then if (si.length : Int) > 4 then impl_IsSky.j0 k true pl sa si rc cr vw su sh zo ac else impl_IsSky.j0 k (decide ((zo.length : Int) > 4)) pl sa si rc cr vw su sh zo ac else impl_IsSky.j0 k true pl sa si rc cr vw su sh zo ac else impl_IsSky.j0 k true pl sa si rc cr vw su sh zo ac) false := by
      by_cases p1 : 1 ≤ pl ∧ pl ≤ 4
      · refine K.pos p1 ?_
        by_cases p2 : 1 ≤ (sa.length : Int) ∧ (sa.length : Int) ≤ 8
        · refine K.pos p2 ?_
          by_cases p3 : (si.length : Int) > 4
          · exact K.pos p3 ibad
          · refine K.neg p3 ?_
            have p4 : (zo.length : Int) > 4 := Decidable.byContradiction (fun p4 => hh ⟨p1, p2, p3, p4⟩)
            rw [decide_eq_true p4]
            exact ibad
        · exact K.neg p2 ibad
      · exact K.neg p1 ibad
    refine ⟨false, ?_, hi⟩
    by_cases q0 : ∀ j : Int, 0 ≤ j → j < (sa.length : Int) → satOk pl (rd_T68 sa j)
    · by_cases q1 : ∀ j : Int, 0 ≤ j → j < (si.length : Int) → siteOk pl (rd_T70 si j)
      · by_cases q2 : ∀ j : Int, 0 ≤ j → j < (zo.length : Int) → zoneOk pl (rd_T76 zo j)
        · exact s0y q0 _ (s1y q1 _ (s2y q2 _ hs))
        · exact s0y q0 _ (s1y q1 _ (s2n q2))
      · exact s0y q0 _ (s1n q1)
    · exact s0n q0
theorem conts (a b : Int) : ∀ (q p : List S52) (o : List S54), p.length + q.length ≤ 1000 → o.length ≤ p.length → ∃ v : List S54, v.length ≤ 1000 ∧ Ev (fun k => spec_ContactsOf.l0 k a b o (p ++ q) (p.length : Int)) v ∧ Ev (fun k => impl_ContactsOf.l0 k a b o (p ++ q) ((p ++ q).length : Int) (p.length : Int)) v
  | [], p, o, hl, ho => by
    refine ⟨o, by omega, K.succ ?_, K.succ ?_⟩
    · simp only [spec_ContactsOf.l0]
      exact K.neg (by simp) (Ev.now _)
    · simp only [impl_ContactsOf.l0]
      exact K.neg (by simp) (Ev.now _)
  | s :: q, p, o, hl, ho => by
    simp at hl
    have hr : rd_T52 (p ++ s :: q) (p.length : Int) = s := by simp [rd_T52, List.getD_eq_getElem?_getD]
    have w1 := Aside0.mk (K.wr (x := (p.length : Int) + 1) (by omega) (by omega))
    have e2 : p ++ s :: q = (p ++ [s]) ++ q := by simp
    have e3 : (p.length : Int) + 1 = ((p ++ [s]).length : Int) := by simp
    obtain ⟨v, hv, g1, g2⟩ := conts a b q (p ++ [s]) (o ++ [⟨mn a b, mx a b, s.f0, s.f1⟩]) (by simp; omega) (by simp; omega)
    rw [← e2, ← e3] at g1 g2
    refine ⟨v, hv, K.succ ?_, K.succ ?_⟩
    · simp only [spec_ContactsOf.l0, hr, sMin, sMax, Option.bind_some, w1.out]
      exact K.pos (by simp; omega) (K.pos (by omega) (K.pos (by omega) g1))
    · simp only [impl_ContactsOf.l0, hr, w1.out]
      exact K.pos (by simp; omega) (K.pos (by omega) (K.pos (by simp; omega) (K.pos (by omega) g2)))
theorem contacts (pl : Int) (sa : List S68) (si : List S70) (rc cr vw su sh : Int) (zo : List S76) (ac : Int) (hn : (sa.length : Int) + si.length ≤ 4194304) (hz : zo.length ≤ 1048576) (hs1 : sa.length ≤ 1048576) (hs2 : si.length ≤ 1048576) (hpl0 : -9223372036854775808 ≤ pl) (hpl1 : pl ≤ 9223372036854775807) (h1 : ∀ x ∈ sa, -9223372036854775808 ≤ x.f0 ∧ x.f0 ≤ 9223372036854775807) (h2 : ∀ x ∈ si, -9223372036854775808 ≤ x.f0 ∧ x.f0 ≤ 9223372036854775807) (i j a b : Int) : ∃ r : List S54, r.length ≤ 1000 ∧ Ev (fun k => spec_ContactsOf.f k pl sa si rc cr vw su sh zo ac i j a b) r ∧ Ev (fun k => impl_ContactsOf.f k pl sa si rc cr vw su sh zo ac i j a b) r := by
  unfold spec_ContactsOf.f impl_ContactsOf.f
  simp only [Option.bind_some]
  by_cases c : i = j
  · refine ⟨[], by simp, K.pos c (K.succ ?_), K.pos c (K.succ ?_)⟩
    · simp only [spec_ContactsOf.j0]
      exact K.pos trivial (Ev.now _)
    · simp only [impl_ContactsOf.j0]
      exact K.pos trivial (Ev.now _)
  obtain ⟨y, y1, y2⟩ := isSky pl sa si rc cr vw su sh zo ac hs1 hs2 hz hpl0 hpl1
  cases y with
  | false =>
    refine ⟨[], by simp, K.neg c (Ev.bind y1 (K.succ ?_)), K.neg c (Ev.bind y2 (K.succ ?_))⟩
    · simp only [spec_ContactsOf.j0]
      exact K.pos (by simp) (Ev.now _)
    · simp only [impl_ContactsOf.j0]
      exact K.pos (by simp) (Ev.now _)
  | true =>
    obtain ⟨w, hw, w1, w2⟩ := speaking pl sa si rc cr vw su sh zo ac hn hz hpl0 hpl1 h1 h2 i j a b
    obtain ⟨u, hu, u1, u2⟩ := shorten w (by omega) ac
    obtain ⟨v, hv, v1, v2⟩ := conts i j u [] [] (by simp; omega) (by simp)
    refine ⟨v, hv, K.neg c (Ev.bind y1 (K.succ ?_)), K.neg c (Ev.bind y2 (K.succ ?_))⟩
    · simp only [spec_ContactsOf.j0]
      exact K.neg (by simp) (Ev.bind w1 (Ev.bind u1 v1))
    · simp only [impl_ContactsOf.j0]
      exact K.neg (by simp) (Ev.bind w2 (Ev.bind u2 v2))

theorem skyBig (pl : Int) (sa : List S68) (si : List S70) (rc cr vw su sh : Int) (zo : List S76) (ac : Int) (h : ¬ (sa.length ≤ 8 ∧ si.length ≤ 4)) : Ev (fun k => impl_IsSky.f k pl sa si rc cr vw su sh zo ac) false := by
  have bad : Ev (fun k => impl_IsSky.j0 k true pl sa si rc cr vw su sh zo ac) false := by
    refine K.succ ?_
    simp only [impl_IsSky.j0]
    exact K.pos (by trivial) (Ev.now _)
  unfold impl_IsSky.f
  simp only [InRange, Option.bind_some]
  by_cases c1 : 1 ≤ pl ∧ pl ≤ 4
  · refine K.pos (decide_eq_true c1) ?_
    by_cases c2 : 1 ≤ (sa.length : Int) ∧ (sa.length : Int) ≤ 8
    · exact K.pos (decide_eq_true c2) (K.pos (by omega) bad)
    · exact K.neg (fun h => c2 (of_decide_eq_true h)) bad
  · exact K.neg (fun h => c1 (of_decide_eq_true h)) bad
theorem evOne {α : Type} {g : Nat → Option α} {r s : α} (h : Ev g r) (k : Ev g s) : r = s := by
  obtain ⟨n, hn⟩ := h
  obtain ⟨m, hm⟩ := k
  exact Option.some.inj ((hn (n + m) (by omega)).symm.trans (hm (n + m) (by omega)))
theorem contactsN (pl : Int) (sa : List S68) (si : List S70) (rc cr vw su sh : Int) (zo : List S76) (ac : Int) (hn : (sa.length : Int) + si.length ≤ 4194304) (hz : zo.length ≤ 1048576) (hs1 : sa.length ≤ 1048576) (hs2 : si.length ≤ 1048576) (hpl0 : -9223372036854775808 ≤ pl) (hpl1 : pl ≤ 9223372036854775807) (h1 : ∀ x ∈ sa, -9223372036854775808 ≤ x.f0 ∧ x.f0 ≤ 9223372036854775807) (h2 : ∀ x ∈ si, -9223372036854775808 ≤ x.f0 ∧ x.f0 ≤ 9223372036854775807) (a b i j : Int) : ∃ r : List S54, (r.length ≤ 1000 ∧ (¬ (sa.length ≤ 8 ∧ si.length ≤ 4) → r = [])) ∧ Ev (fun k => spec_ContactsOf.f k pl sa si rc cr vw su sh zo ac i j a b) r ∧ Ev (fun k => impl_ContactsOf.f k pl sa si rc cr vw su sh zo ac i j a b) r := by
  obtain ⟨r, hr, e1, e2⟩ := contacts pl sa si rc cr vw su sh zo ac hn hz hs1 hs2 hpl0 hpl1 h1 h2 i j a b
  refine ⟨r, ⟨hr, fun h => ?_⟩, e1, e2⟩
  refine evOne e2 ?_
  unfold impl_ContactsOf.f
  simp only [Option.bind_some]
  by_cases c : i = j
  · refine K.pos c (K.succ ?_)
    simp only [impl_ContactsOf.j0]
    exact K.pos trivial (Ev.now _)
  · refine K.neg c (Ev.bind (skyBig pl sa si rc cr vw su sh zo ac h) (K.succ ?_))
    simp only [impl_ContactsOf.j0]
    exact K.pos (by simp) (Ev.now _)
theorem planIn (pl : Int) (sa : List S68) (si : List S70) (rc cr vw su sh : Int) (zo : List S76) (ac : Int) (N a b : Int) (hN : N = (sa.length : Int) + si.length) (hN2 : N ≤ 4194304) (C : Int → Int → List S54) (M : Nat) (hM : M = 0 ∨ M = 1000 ∧ N ≤ 12) (hC : ∀ i j, (C i j).length ≤ M ∧ Ev (fun k => spec_ContactsOf.f k pl sa si rc cr vw su sh zo ac i j a b) (C i j) ∧ Ev (fun k => impl_ContactsOf.f k pl sa si rc cr vw su sh zo ac i j a b) (C i j)) (i : Int) (hi : 0 ≤ i) (hi2 : i < N) : ∀ (d : Nat) (j : Int) (o : List S54), N - j = d → 0 ≤ j → (o.length : Int) ≤ M * (12 * i + j) → ∃ o' : List S54, (o'.length : Int) ≤ M * (12 * (i + 1)) ∧ ∀ r, (Ev (fun k => spec_PlanOf.l0 k a b o' N (i + 1) pl sa si rc cr vw su sh zo ac) r → Ev (fun k => spec_PlanOf.l1 k a b o N i j pl sa si rc cr vw su sh zo ac) r) ∧ (Ev (fun k => impl_PlanOf.l0 k a b o' N (i + 1) pl sa si rc cr vw su sh zo ac) r → Ev (fun k => impl_PlanOf.l1 k a b o i j N i pl sa si rc cr vw su sh zo ac) r) := by
  have w0 := Aside0.mk (K.wr (x := i + 1) (by omega) (by omega))
  have wn := Aside0.mk (K.wr (x := (sa.length : Int) + si.length) (by omega) (by omega))
  intro d
  induction d with
  | zero =>
    intro j o hd hj ho
    have hj2 : j = N := by omega
    refine ⟨o, ?_, fun r => ⟨fun g => K.succ ?_, fun g => K.succ ?_⟩⟩
    · rcases hM with rfl | ⟨rfl, hh⟩ <;> omega
    · simp only [spec_PlanOf.l1, w0.out]
      exact K.neg (by omega) g
    · simp only [impl_PlanOf.l1, impl_NodesOf.f, Option.bind_some, wn.out, w0.out]
      exact K.neg (by omega) g
  | succ d ih =>
    intro j o hd hj ho
    have w1 := Aside0.mk (K.wr (x := j + 1) (by omega) (by omega))
    obtain ⟨c1, c2, c3⟩ := hC i j
    have hl : ((o ++ C i j).length : Int) ≤ M * (12 * i + (j + 1)) := by
      rw [List.length_append]
      rcases hM with rfl | ⟨rfl, hh⟩ <;> omega
    have hs : o.length + (C i j).length < 4398046511104 := by
      rw [List.length_append] at hl
      rcases hM with rfl | ⟨rfl, hh⟩ <;> omega
    obtain ⟨o', h1, h2⟩ := ih (j + 1) (o ++ C i j) (by omega) (by omega) hl
    refine ⟨o', h1, fun r => ⟨fun g => K.succ ?_, fun g => K.succ ?_⟩⟩
    · simp only [spec_PlanOf.l1, w1.out]
      exact K.pos (by omega) (Ev.bind c2 (K.pos hs ((h2 r).1 g)))
    · simp only [impl_PlanOf.l1, impl_NodesOf.f, Option.bind_some, wn.out, w1.out]
      exact K.pos (by omega) (Ev.bind c3 (K.pos hs ((h2 r).2 g)))
theorem planOut (pl : Int) (sa : List S68) (si : List S70) (rc cr vw su sh : Int) (zo : List S76) (ac : Int) (N a b : Int) (hN : N = (sa.length : Int) + si.length) (hN2 : N ≤ 4194304) (C : Int → Int → List S54) (M : Nat) (hM : M = 0 ∨ M = 1000 ∧ N ≤ 12) (hC : ∀ i j, (C i j).length ≤ M ∧ Ev (fun k => spec_ContactsOf.f k pl sa si rc cr vw su sh zo ac i j a b) (C i j) ∧ Ev (fun k => impl_ContactsOf.f k pl sa si rc cr vw su sh zo ac i j a b) (C i j)) : ∀ (d : Nat) (i : Int) (o : List S54), N - i = d → 0 ≤ i → (o.length : Int) ≤ M * (12 * i) → ∃ v : List S54, v.length ≤ 200000 ∧ Ev (fun k => spec_PlanOf.l0 k a b o N i pl sa si rc cr vw su sh zo ac) v ∧ Ev (fun k => impl_PlanOf.l0 k a b o N i pl sa si rc cr vw su sh zo ac) v := by
  intro d
  induction d with
  | zero =>
    intro i o hd hi ho
    refine ⟨o, ?_, K.succ ?_, K.succ ?_⟩
    · rcases hM with rfl | ⟨rfl, hh⟩ <;> omega
    · simp only [spec_PlanOf.l0]
      exact K.neg (by omega) (Ev.now _)
    · simp only [impl_PlanOf.l0]
      exact K.neg (by omega) (Ev.now _)
  | succ d ih =>
    intro i o hd hi ho
    have w1 := Aside0.mk (K.wr (x := i + 1) (by omega) (by omega))
    obtain ⟨o', h1, h2⟩ := planIn pl sa si rc cr vw su sh zo ac N a b hN hN2 C M hM hC i hi (by omega) (N - (i + 1)).toNat (i + 1) o (by omega) (by omega) (by rcases hM with rfl | ⟨rfl, hh⟩ <;> omega)
    obtain ⟨v, hv, g1, g2⟩ := ih (i + 1) o' (by omega) (by omega) h1
    refine ⟨v, hv, K.succ ?_, K.succ ?_⟩
    · simp only [spec_PlanOf.l0, w1.out]
      exact K.pos (by omega) ((h2 v).1 g1)
    · simp only [impl_PlanOf.l0, w1.out]
      exact K.pos (by omega) ((h2 v).2 g2)
theorem plans (pl : Int) (sa : List S68) (si : List S70) (rc cr vw su sh : Int) (zo : List S76) (ac : Int) (hn : (sa.length : Int) + si.length ≤ 4194304) (hz : zo.length ≤ 1048576) (hs1 : sa.length ≤ 1048576) (hs2 : si.length ≤ 1048576) (hpl0 : -9223372036854775808 ≤ pl) (hpl1 : pl ≤ 9223372036854775807) (h1 : ∀ x ∈ sa, -9223372036854775808 ≤ x.f0 ∧ x.f0 ≤ 9223372036854775807) (h2 : ∀ x ∈ si, -9223372036854775808 ≤ x.f0 ∧ x.f0 ≤ 9223372036854775807) (a b : Int) : ∃ v : List S54, v.length ≤ 200000 ∧ Ev (fun k => spec_PlanOf.f k pl sa si rc cr vw su sh zo ac a b) v ∧ Ev (fun k => impl_PlanOf.f k pl sa si rc cr vw su sh zo ac a b) v := by
  obtain ⟨C, hC⟩ := Classical.axiomOfChoice (fun i => Classical.axiomOfChoice (contactsN pl sa si rc cr vw su sh zo ac hn hz hs1 hs2 hpl0 hpl1 h1 h2 a b i))
  have wn := K.wr (x := (sa.length : Int) + si.length) (by omega) (by omega)
  have key : ∃ M : Nat, (M = 0 ∨ M = 1000 ∧ (sa.length : Int) + si.length ≤ 12) ∧ ∀ i j, (C i j).length ≤ M := by
    by_cases c : sa.length ≤ 8 ∧ si.length ≤ 4
    · exact ⟨1000, .inr ⟨rfl, by omega⟩, fun i j => (hC i j).1.1⟩
    · exact ⟨0, .inl rfl, fun i j => by rw [(hC i j).1.2 c]; exact Nat.le_refl _⟩
  obtain ⟨M, hM, hM2⟩ := key
  obtain ⟨v, hv, g1, g2⟩ := planOut pl sa si rc cr vw su sh zo ac _ a b rfl hn C M hM (fun i j => ⟨hM2 i j, (hC i j).2⟩) ((sa.length : Int) + si.length).toNat 0 [] (by omega) (by omega) (by simp)
  refine ⟨v, hv, ?_, ?_⟩
  · unfold spec_PlanOf.f spec_NodesOf.f
    refine K.known rfl ?_
    rw [wn]
    exact g1
  · unfold impl_PlanOf.f impl_NodesOf.f
    refine K.known rfl ?_
    rw [wn]
    exact g2


end LFnExactPlanOf
theorem FnExactPlanOf (pl : Int) (sa : List S82) (si : List S84) (rc cr vw su sh : Int) (zo : List S88) (ac : Int) (a b : Int) (h1 : sa.length ≤ 9223372036854775807) (h2 : si.length ≤ 9223372036854775807) (h3 : zo.length ≤ 9223372036854775807) (hw1 : ∀ x ∈ sa, (Lit.int .i64 x.f0).wf = true ∧ (Lit.int .i64 x.f1).wf = true ∧ (Lit.int .i64 x.f2).wf = true ∧ (Lit.int .i64 x.f3).wf = true) (hw2 : ∀ x ∈ si, (Lit.int .i64 x.f0).wf = true ∧ (Lit.int .i64 x.f1).wf = true ∧ (Lit.int .i64 x.f2).wf = true) (hwp : (Lit.int .i64 pl).wf = true) : ∃ k, laws_FnExactPlanOf.f k pl sa si rc cr vw su sh zo ac a b = some true := by
  refine K.rounds (g := fun k => laws_FnExactPlanOf.f k pl sa si rc cr vw su sh zo ac a b) ?_
  unfold laws_FnExactPlanOf.f
  refine K.known (LFnExactPlanOf.szSky _ _ _ _ _ _ _ _ _ _ h1 h2 h3) ?_
  by_cases c : (sa.length : Int) + si.length + zo.length ≤ 1048576
  · rw [if_pos c]
    have hn : ((sa.map LFnExactPlanOf.cvSat).length : Int) + (si.map LFnExactPlanOf.cvSite).length ≤ 4194304 := by simp; omega
    have g1 : ∀ x ∈ sa.map LFnExactPlanOf.cvSat, -9223372036854775808 ≤ x.f0 ∧ x.f0 ≤ 9223372036854775807 := by
      intro x hx
      obtain ⟨y, hy, rfl⟩ := List.mem_map.1 hx
      exact K.wf64 (hw1 y hy).1
    have g2 : ∀ x ∈ si.map LFnExactPlanOf.cvSite, -9223372036854775808 ≤ x.f0 ∧ x.f0 ≤ 9223372036854775807 := by
      intro x hx
      obtain ⟨y, hy, rfl⟩ := List.mem_map.1 hx
      exact K.wf64 (hw2 y hy).1
    have gp := K.wf64 hwp
    obtain ⟨v, hv, e1, e2⟩ := LFnExactPlanOf.plans pl (sa.map LFnExactPlanOf.cvSat) (si.map LFnExactPlanOf.cvSite) rc cr vw su sh (zo.map LFnExactPlanOf.cvZone) ac hn (by simp; omega) (by simp; omega) (by simp; omega) gp.1 gp.2 g1 g2 a b
    obtain ⟨m0, y1, y2, y3, hm0, g0⟩ := LFnExactPlanOf.markSky pl (sa.map LFnExactPlanOf.cvSat) (si.map LFnExactPlanOf.cvSite) rc cr vw su sh (zo.map LFnExactPlanOf.cvZone) ac (by simp; omega) (by simp; omega) (by simp; omega)
    obtain ⟨m1, ys, hm1, g1_, g2_⟩ := LFnExactPlanOf.markContactS v (by omega)
    repeat (first | exact Ev.now _ | refine K.pos (by first | exact True.intro | with_reducible rfl | omega) ?_ | refine K.neg (by first | omega | exact Bool.false_ne_true | exact K.nbne _) ?_ | refine Ev.bind (LFnExactPlanOf.toSky pl sa si rc cr vw su sh zo ac (by omega) (by omega) (by omega)) ?_ | refine Ev.bind (e1) ?_ | refine Ev.bind (e2) ?_ | refine Ev.bind (LFnExactPlanOf.eqSky pl (sa.map LFnExactPlanOf.cvSat) (si.map LFnExactPlanOf.cvSite) rc cr vw su sh (zo.map LFnExactPlanOf.cvZone) ac (by simp; omega) (by simp; omega) (by simp; omega)) ?_ | refine Ev.bind (LFnExactPlanOf.eqContactS v (by omega)) ?_ | refine Ev.bind (g0) ?_ | refine Ev.bind (g1_) ?_ | refine Ev.bind (g2_) ?_ | (refine K.succ ?_; simp only [laws_FnExactPlanOf.j0]))
  · rw [if_neg c]
    exact K.pos (by omega) (Ev.now _)

end Go.Proofs.YtpjhdehbikohmaaGreat.Pure
