/- The sure neighbors are one list in the program and in the reference, for every sky of at most 2^20 parts, every node and tick. -/
import Derived.Test.YtcjfalmhohcifaaQFnExactSureNeighborsx
import Derived.Test.YtcjfalmhohcifaaKKit
namespace Go.Proofs.Ytcjfalmhohcifaa.Pure
open Go.RowKit Go.Proofs.Ytcjfalmhohcifaa.PFnExactSureNeighbors Go.Proofs.YtcjfalmhohcifaaW.PrintWords Go.Proofs.YtcjfalmhohcifaaW.PrintLast Go.Proofs.YtcjfalmhohcifaaW.PrintMore Go.Proofs.Ytcjfalmhohcifaa
set_option linter.unusedSimpArgs false
set_option linter.unusedVariables false
namespace LFnExactSureNeighbors

def cvSat (x : S107) : S105 := ⟨x.f0, x.f1, x.f2, x.f3⟩
theorem toSatS (l : List S107) (hl : l.length ≤ 1048576) : Ev (fun k => laws_toSatS.f k l) (l.map cvSat) := by
  unfold laws_toSatS.f
  refine K.pos (by omega) (K.pos (by omega) ?_)
  refine K.fill (fun k xs i => laws_toSatS.l0 k l xs i) (l.map cvSat) (by simpa using hl) ?_ ?_ l.length _ 0 (by omega) (by simp) (by simp) (by intro j hj; omega)
  · intro k xs i hi
    simp only [List.length_map] at hi
    simp only [laws_toSatS.l0]
    rw [if_neg hi]
  · intro k xs i y h0 hi hx hy
    simp only [List.length_map] at hi hx
    simp only [laws_toSatS.l0, laws_toSat.f, Option.bind_some]
    rw [if_pos hi, if_pos h0, if_pos (by omega), K.wr (x := i + 1) (by omega) (by omega)]
    have hg : l[i.toNat]? = some (l[i.toNat]'(by omega)) := List.getElem?_eq_getElem (by omega)
    rw [List.getElem?_map, hg, Option.map_some] at hy
    obtain rfl := Option.some.inj hy
    have hr : rd_T107 l i = l[i.toNat]'(by omega) := by
      simp only [rd_T107, List.getD_eq_getElem?_getD, hg, Option.getD_some]
    rw [hr]
    rfl
theorem szSatS (l : List S107) (left : Int) (h0 : 0 ≤ left) (h1 : left ≤ 1048576) (hm : l.length ≤ 9223372036854775807) : laws_szSatS.f l left = some (if (l.length : Int) ≤ left then left - l.length else -1) := by
  unfold laws_szSatS.f
  rw [K.wr (by omega) (by omega)]
  split <;> split <;> first | rfl | omega


def cvSite (x : S111) : S109 := ⟨x.f0, x.f1, x.f2⟩
theorem toSiteS (l : List S111) (hl : l.length ≤ 1048576) : Ev (fun k => laws_toSiteS.f k l) (l.map cvSite) := by
  unfold laws_toSiteS.f
  refine K.pos (by omega) (K.pos (by omega) ?_)
  refine K.fill (fun k xs i => laws_toSiteS.l0 k l xs i) (l.map cvSite) (by simpa using hl) ?_ ?_ l.length _ 0 (by omega) (by simp) (by simp) (by intro j hj; omega)
  · intro k xs i hi
    simp only [List.length_map] at hi
    simp only [laws_toSiteS.l0]
    rw [if_neg hi]
  · intro k xs i y h0 hi hx hy
    simp only [List.length_map] at hi hx
    simp only [laws_toSiteS.l0, laws_toSite.f, Option.bind_some]
    rw [if_pos hi, if_pos h0, if_pos (by omega), K.wr (x := i + 1) (by omega) (by omega)]
    have hg : l[i.toNat]? = some (l[i.toNat]'(by omega)) := List.getElem?_eq_getElem (by omega)
    rw [List.getElem?_map, hg, Option.map_some] at hy
    obtain rfl := Option.some.inj hy
    have hr : rd_T111 l i = l[i.toNat]'(by omega) := by
      simp only [rd_T111, List.getD_eq_getElem?_getD, hg, Option.getD_some]
    rw [hr]
    rfl
theorem szSiteS (l : List S111) (left : Int) (h0 : 0 ≤ left) (h1 : left ≤ 1048576) (hm : l.length ≤ 9223372036854775807) : laws_szSiteS.f l left = some (if (l.length : Int) ≤ left then left - l.length else -1) := by
  unfold laws_szSiteS.f
  rw [K.wr (by omega) (by omega)]
  split <;> split <;> first | rfl | omega


theorem eqSatS (l : List S105) (hl : l.length ≤ 67108864) : Ev (fun k => laws_eqSatS.f k l l) true := by
  unfold laws_eqSatS.f
  refine K.pos rfl ?_
  refine K.all (n := l.length) (fun k i => laws_eqSatS.l0 k l l i) ?_ ?_ l.length 0 (by omega) (by omega)
  · intro k i hi
    simp only [laws_eqSatS.l0]
    rw [if_neg hi]
  · intro k i h0 hi
    simp only [laws_eqSatS.l0, laws_eqSat.f, ↓reduceIte, Option.bind_some]
    rw [if_pos hi, if_pos h0, if_pos hi, K.wr (x := i + 1) (by omega) (by omega)]


theorem eqSiteS (l : List S109) (hl : l.length ≤ 67108864) : Ev (fun k => laws_eqSiteS.f k l l) true := by
  unfold laws_eqSiteS.f
  refine K.pos rfl ?_
  refine K.all (n := l.length) (fun k i => laws_eqSiteS.l0 k l l i) ?_ ?_ l.length 0 (by omega) (by omega)
  · intro k i hi
    simp only [laws_eqSiteS.l0]
    rw [if_neg hi]
  · intro k i h0 hi
    simp only [laws_eqSiteS.l0, laws_eqSite.f, ↓reduceIte, Option.bind_some]
    rw [if_pos hi, if_pos h0, if_pos hi, K.wr (x := i + 1) (by omega) (by omega)]

def cvZone (x : S119) : S115 := ⟨x.f0, ⟨x.f1.f0, x.f1.f1⟩⟩
theorem toZoneS (l : List S119) (hl : l.length ≤ 1048576) : Ev (fun k => laws_toZoneS.f k l) (l.map cvZone) := by
  unfold laws_toZoneS.f
  refine K.pos (by omega) (K.pos (by omega) ?_)
  refine K.fill (fun k xs i => laws_toZoneS.l0 k l xs i) (l.map cvZone) (by simpa using hl) ?_ ?_ l.length _ 0 (by omega) (by simp) (by simp) (by intro j hj; omega)
  · intro k xs i hi
    simp only [List.length_map] at hi
    simp only [laws_toZoneS.l0]
    rw [if_neg hi]
  · intro k xs i y h0 hi hx hy
    simp only [List.length_map] at hi hx
    simp only [laws_toZoneS.l0, laws_toZone.f, laws_toArc.f, Option.bind_some]
    rw [if_pos hi, if_pos h0, if_pos (by omega), K.wr (x := i + 1) (by omega) (by omega)]
    have hg : l[i.toNat]? = some (l[i.toNat]'(by omega)) := List.getElem?_eq_getElem (by omega)
    rw [List.getElem?_map, hg, Option.map_some] at hy
    obtain rfl := Option.some.inj hy
    have hr : rd_T119 l i = l[i.toNat]'(by omega) := by
      simp only [rd_T119, List.getD_eq_getElem?_getD, hg, Option.getD_some]
    rw [hr]
    rfl
theorem szZoneS (l : List S119) (left : Int) (h0 : 0 ≤ left) (h1 : left ≤ 1048576) (hm : l.length ≤ 9223372036854775807) : laws_szZoneS.f l left = some (if (l.length : Int) ≤ left then left - l.length else -1) := by
  unfold laws_szZoneS.f
  rw [K.wr (by omega) (by omega)]
  split <;> split <;> first | rfl | omega
theorem eqZoneS (l : List S115) (hl : l.length ≤ 67108864) : Ev (fun k => laws_eqZoneS.f k l l) true := by
  unfold laws_eqZoneS.f
  refine K.pos rfl ?_
  refine K.all (n := l.length) (fun k i => laws_eqZoneS.l0 k l l i) ?_ ?_ l.length 0 (by omega) (by omega)
  · intro k i hi
    simp only [laws_eqZoneS.l0]
    rw [if_neg hi]
  · intro k i h0 hi
    simp only [laws_eqZoneS.l0, laws_eqZone.f, laws_eqArc.f, ↓reduceIte, Option.bind_some]
    rw [if_pos hi, if_pos h0, if_pos hi, K.wr (x := i + 1) (by omega) (by omega)]
theorem szSky (pl : Int) (sa : List S107) (si : List S111) (rc cr vw su sh : Int) (zo : List S119) (ac : Int) (h1 : sa.length ≤ 9223372036854775807) (h2 : si.length ≤ 9223372036854775807) (h3 : zo.length ≤ 9223372036854775807) :
    laws_szSky.f pl sa si rc cr vw su sh zo ac 1048576 = some (if (sa.length : Int) + si.length + zo.length ≤ 1048576 then (1048576 : Int) - sa.length - si.length - zo.length else (-1 : Int)) := by
  unfold laws_szSky.f
  rw [szSatS sa 1048576 (by omega) (by omega) h1]
  simp only [Option.bind_some]
  by_cases c1 : (sa.length : Int) ≤ 1048576
  · rw [if_pos c1, if_neg (by omega), szSiteS si _ (by omega) (by omega) h2]
    simp only [Option.bind_some]
    by_cases c2 : (si.length : Int) ≤ 1048576 - sa.length
    · rw [if_pos c2, if_neg (by omega), szZoneS zo _ (by omega) (by omega) h3]
      simp only [Option.bind_some]
      by_cases c3 : (zo.length : Int) ≤ 1048576 - sa.length - si.length
      · rw [if_pos c3, if_neg (by omega), if_pos (by omega)]
      · rw [if_neg c3, if_pos (by omega), if_neg (by omega)]
    · rw [if_neg c2, if_pos (by omega), if_neg (by omega)]
  · rw [if_neg c1, if_pos (by omega), if_neg (by omega)]
theorem toSky (pl : Int) (sa : List S107) (si : List S111) (rc cr vw su sh : Int) (zo : List S119) (ac : Int) (h1 : sa.length ≤ 1048576) (h2 : si.length ≤ 1048576) (h3 : zo.length ≤ 1048576) :
    Ev (fun k => laws_toSky.f k pl sa si rc cr vw su sh zo ac) (pl, sa.map cvSat, si.map cvSite, rc, cr, vw, su, sh, zo.map cvZone, ac) := by
  unfold laws_toSky.f
  exact Ev.bind (toSatS sa h1) (Ev.bind (toSiteS si h2) (Ev.bind (toZoneS zo h3) (Ev.now _)))
theorem eqSky (pl : Int) (sa : List S105) (si : List S109) (rc cr vw su sh : Int) (zo : List S115) (ac : Int) (h1 : sa.length ≤ 1048576) (h2 : si.length ≤ 1048576) (h3 : zo.length ≤ 1048576) : Ev (fun k => laws_eqSky.f k pl sa si rc cr vw su sh zo ac pl sa si rc cr vw su sh zo ac) true := by
  unfold laws_eqSky.f
  exact K.pos rfl (Ev.bind (eqSatS sa (by omega)) (K.pos rfl (Ev.bind (eqSiteS si (by omega)) (K.pos rfl (K.pos rfl (K.pos rfl (K.pos rfl (K.pos rfl (K.pos rfl (Ev.bind (eqZoneS zo (by omega)) (K.pos rfl (K.pos rfl (Ev.now _)))))))))))))

theorem rd_Sat_of {l : List S105} {i : Int} {x : S105} (h : l[i.toNat]? = some x) : rd_T105 l i = x := by
  simp only [rd_T105, List.getD_eq_getElem?_getD, h, Option.getD_some]
theorem rd_Sat_set {l : List S105} {i : Int} {x : S105} (h : i.toNat < l.length) : rd_T105 (l.set i.toNat x) i = x :=
  rd_Sat_of (List.getElem?_set_self h)


theorem laySatS (l : List S105) (c : Int) (hl : l.length ≤ 67108864) (hc0 : 0 ≤ c) (hc1 : c ≤ 1099511627776) : ∃ m ys, c ≤ m ∧ m ≤ c + 16 * l.length ∧ Ev (fun k => laws_markSatS.f k l c) (m, ys) := by
  unfold laws_markSatS.f
  refine Exists.elim (K.lay (fun k xs c i => laws_markSatS.l0 k xs c i) l.length 4 (fun c _ => (⟨c, c + 1, c + 2, c + 3⟩ : S105)) (by omega) (by omega)
    ?_ ?_ l.length l c 0 (by omega) (by omega) rfl (by omega) (by omega)) (fun m h => h.elim fun ys h => ⟨m, ys, h.1, h.2.1, h.2.2.2⟩)
  · intro k xs c i hi hx
    simp only [laws_markSatS.l0]
    rw [if_neg (by omega)]
  · intro k xs c i x h0 hi hx hc0 hc1 hxi
    have hlt : i.toNat < xs.length := by omega
    simp only [laws_markSatS.l0, Option.bind_some]
    rw [if_pos (by omega), if_pos h0]
    rw [K.wr (x := c + 1) (by omega) (by omega)]
    rw [K.wr (x := c + 1 + 1) (by omega) (by omega), show c + 1 + 1 = c + 2 by omega]
    rw [K.wr (x := c + 2 + 1) (by omega) (by omega), show c + 2 + 1 = c + 3 by omega]
    rw [K.wr (x := c + 3 + 1) (by omega) (by omega), show c + 3 + 1 = c + 4 by omega]
    simp only [rd_Sat_set, List.length_set, hlt, List.set_set]
    rw [K.wr (x := i + 1) (by omega) (by omega)]


theorem rd_Site_of {l : List S109} {i : Int} {x : S109} (h : l[i.toNat]? = some x) : rd_T109 l i = x := by
  simp only [rd_T109, List.getD_eq_getElem?_getD, h, Option.getD_some]
theorem rd_Site_set {l : List S109} {i : Int} {x : S109} (h : i.toNat < l.length) : rd_T109 (l.set i.toNat x) i = x :=
  rd_Site_of (List.getElem?_set_self h)


theorem laySiteS (l : List S109) (c : Int) (hl : l.length ≤ 67108864) (hc0 : 0 ≤ c) (hc1 : c ≤ 1099511627776) : ∃ m ys, c ≤ m ∧ m ≤ c + 16 * l.length ∧ Ev (fun k => laws_markSiteS.f k l c) (m, ys) := by
  unfold laws_markSiteS.f
  refine Exists.elim (K.lay (fun k xs c i => laws_markSiteS.l0 k xs c i) l.length 3 (fun c _ => (⟨c, c + 1, c + 2⟩ : S109)) (by omega) (by omega)
    ?_ ?_ l.length l c 0 (by omega) (by omega) rfl (by omega) (by omega)) (fun m h => h.elim fun ys h => ⟨m, ys, h.1, h.2.1, h.2.2.2⟩)
  · intro k xs c i hi hx
    simp only [laws_markSiteS.l0]
    rw [if_neg (by omega)]
  · intro k xs c i x h0 hi hx hc0 hc1 hxi
    have hlt : i.toNat < xs.length := by omega
    simp only [laws_markSiteS.l0, Option.bind_some]
    rw [if_pos (by omega), if_pos h0]
    rw [K.wr (x := c + 1) (by omega) (by omega)]
    rw [K.wr (x := c + 1 + 1) (by omega) (by omega), show c + 1 + 1 = c + 2 by omega]
    rw [K.wr (x := c + 2 + 1) (by omega) (by omega), show c + 2 + 1 = c + 3 by omega]
    simp only [rd_Site_set, List.length_set, hlt, List.set_set]
    rw [K.wr (x := i + 1) (by omega) (by omega)]


theorem rd_Zone_of {l : List S115} {i : Int} {x : S115} (h : l[i.toNat]? = some x) : rd_T115 l i = x := by
  simp only [rd_T115, List.getD_eq_getElem?_getD, h, Option.getD_some]
theorem rd_Zone_set {l : List S115} {i : Int} {x : S115} (h : i.toNat < l.length) : rd_T115 (l.set i.toNat x) i = x :=
  rd_Zone_of (List.getElem?_set_self h)

theorem layZoneS (l : List S115) (c : Int) (hl : l.length ≤ 67108864) (hc0 : 0 ≤ c) (hc1 : c ≤ 1099511627776) : ∃ m ys, c ≤ m ∧ m ≤ c + 16 * l.length ∧ Ev (fun k => laws_markZoneS.f k l c) (m, ys) := by
  unfold laws_markZoneS.f
  refine Exists.elim (K.lay (fun k xs c i => laws_markZoneS.l0 k xs c i) l.length 3 (fun c _ => (⟨c, ⟨c + 1, c + 2⟩⟩ : S115)) (by omega) (by omega)
    ?_ ?_ l.length l c 0 (by omega) (by omega) rfl (by omega) (by omega)) (fun m h => h.elim fun ys h => ⟨m, ys, h.1, h.2.1, h.2.2.2⟩)
  · intro k xs c i hi hx
    simp only [laws_markZoneS.l0]
    rw [if_neg (by omega)]
  · intro k xs c i x h0 hi hx hc0 hc1 hxi
    have hlt : i.toNat < xs.length := by omega
    simp only [laws_markZoneS.l0, Option.bind_some]
    rw [if_pos (by omega), if_pos h0]
    rw [K.wr (x := c + 1) (by omega) (by omega)]
    rw [K.wr (x := c + 1 + 1) (by omega) (by omega), show c + 1 + 1 = c + 2 by omega]
    rw [K.wr (x := c + 2 + 1) (by omega) (by omega), show c + 2 + 1 = c + 3 by omega]
    simp only [rd_Zone_set, List.length_set, hlt, List.set_set]
    rw [K.wr (x := i + 1) (by omega) (by omega)]
theorem markSky (pl : Int) (sa : List S105) (si : List S109) (rc cr vw su sh : Int) (zo : List S115) (ac : Int) (h1 : sa.length ≤ 1048576) (h2 : si.length ≤ 1048576) (h3 : zo.length ≤ 1048576) :
    ∃ m y1 y2 y3, 0 ≤ m ∧ Ev (fun k => laws_markSky.f k pl sa si rc cr vw su sh zo ac 1) (m, y1, y2, y3) := by
  obtain ⟨m1, y1, a1, b1, g1⟩ := laySatS sa 1 (by omega) (by omega) (by omega)
  obtain ⟨m2, y2, a2, b2, g2⟩ := laySiteS si m1 (by omega) (by omega) (by omega)
  obtain ⟨m3, y3, a3, b3, g3⟩ := layZoneS zo m2 (by omega) (by omega) (by omega)
  refine ⟨m3, y1, y2, y3, by omega, ?_⟩
  unfold laws_markSky.f
  exact Ev.bind g1 (Ev.bind g2 (Ev.bind g3 (Ev.now _)))
theorem eqIntS (l : List Int) (hl : l.length ≤ 67108864) : Ev (fun k => laws_eqIntS.f k l l) true := by
  unfold laws_eqIntS.f
  refine K.pos rfl ?_
  refine K.all (n := l.length) (fun k i => laws_eqIntS.l0 k l l i) ?_ ?_ l.length 0 (by omega) (by omega)
  · intro k i hi
    simp only [laws_eqIntS.l0]
    rw [if_neg hi]
  · intro k i h0 hi
    simp only [laws_eqIntS.l0, ↓reduceIte]
    rw [if_pos hi, if_pos h0, if_pos hi, K.wr (x := i + 1) (by omega) (by omega)]
theorem rd_of {l : List Int} {i : Int} {x : Int} (h : l[i.toNat]? = some x) : rd l i = x := by
  simp only [rd, List.getD_eq_getElem?_getD, h, Option.getD_some]
theorem rd_mem {l : List Int} {i : Int} (h0 : 0 ≤ i) (h : i < (l.length : Int)) : rd l i ∈ l := by
  have hg : l[i.toNat]? = some (l[i.toNat]'(by omega)) := List.getElem?_eq_getElem (by omega)
  rw [rd_of hg]
  exact List.getElem_mem _
theorem markIntS (l : List Int) (hl : l.length ≤ 67108864) : ∃ m ys, 1 ≤ m ∧ Ev (fun k => laws_markIntS.f k l 1) (m, ys) ∧ Ev (fun k => laws_heldIntS.f k ys 1) m := by
  unfold laws_markIntS.f laws_heldIntS.f
  refine Exists.elim (K.marks (fun k xs c i => laws_markIntS.l0 k xs c i) (fun k xs c i => laws_heldIntS.l0 k xs c i) l.length 1 (fun c _ => c) (by omega) (by omega) hl
    ?_ ?_ ?_ ?_ l.length l 1 0 (by omega) (by omega) rfl (by omega) (by omega)) (fun m h => h.elim fun ys h => ⟨m, ys, h.1, h.2.2.2.2.1, h.2.2.2.2.2⟩)
  · intro k xs c i hi hx
    simp only [laws_markIntS.l0]
    rw [if_neg (by omega)]
  · intro k xs c i x h0 hi hx hc0 hc1 hxi
    simp only [laws_markIntS.l0]
    rw [if_pos (by omega), if_pos h0, K.wr (x := c + 1) (by omega) (by omega), K.wr (x := i + 1) (by omega) (by omega)]
  · intro k xs c i hi hx
    simp only [laws_heldIntS.l0]
    rw [if_neg (by omega)]
  · intro k xs c i x h0 hi hx hc0 hc1 hxi
    simp only [laws_heldIntS.l0]
    rw [if_pos (by omega), if_pos h0, rd_of hxi, if_pos rfl, K.wr (x := c + 1) (by omega) (by omega), K.wr (x := i + 1) (by omega) (by omega)]
theorem l1In (a b c : Int) : spec_l1In.f a b c = some (decide (b ≤ a ∧ a ≤ c)) := by
  unfold spec_l1In.f
  split <;> (try split) <;> first | rfl | (congr 1; exact decide_eq_decide.2 (by omega)) | (congr 1; exact (decide_eq_false (by omega)).symm)
theorem InRange (a b c : Int) : impl_InRange.f a b c = some (decide (b ≤ a ∧ a ≤ c)) := by
  unfold impl_InRange.f
  split <;> (try split) <;> first | rfl | (congr 1; exact decide_eq_decide.2 (by omega)) | (congr 1; exact (decide_eq_false (by omega)).symm)
theorem sIsSite (pl : Int) (sa : List S105) (si : List S109) (rc cr vw su sh : Int) (zo : List S115) (ac : Int) (hn : (sa.length : Int) + si.length ≤ 4194304) (i : Int) : spec_IsSite.f pl sa si rc cr vw su sh zo ac i = some (decide ((sa.length : Int) ≤ i ∧ i < (sa.length : Int) + si.length)) := by
  unfold spec_IsSite.f spec_NodesOf.f
  simp only [Option.bind_some, l1In]
  rw [K.wr (x := (sa.length : Int) + si.length) (by omega) (by omega), K.wr (by omega) (by omega)]
  congr 1
  exact decide_eq_decide.2 (by omega)
theorem iIsSite (pl : Int) (sa : List S105) (si : List S109) (rc cr vw su sh : Int) (zo : List S115) (ac : Int) (hn : (sa.length : Int) + si.length ≤ 4194304) (i : Int) : impl_IsSite.f pl sa si rc cr vw su sh zo ac i = some (decide ((sa.length : Int) ≤ i ∧ i < (sa.length : Int) + si.length)) := by
  unfold impl_IsSite.f impl_NodesOf.f
  simp only [Option.bind_some, InRange]
  rw [K.wr (x := (sa.length : Int) + si.length) (by omega) (by omega), K.wr (by omega) (by omega)]
  congr 1
  exact decide_eq_decide.2 (by omega)
theorem iIsSat (pl : Int) (sa : List S105) (si : List S109) (rc cr vw su sh : Int) (zo : List S115) (ac : Int) (hn : (sa.length : Int) + si.length ≤ 4194304) (i : Int) : impl_isSatellite.f pl sa si rc cr vw su sh zo ac i = some (decide (0 ≤ i ∧ i < (sa.length : Int))) := by
  unfold impl_isSatellite.f
  simp only [Option.bind_some, InRange]
  rw [K.wr (by omega) (by omega)]
  congr 1
  exact decide_eq_decide.2 (by omega)
theorem sIsSat (sa : List S105) (hn : (sa.length : Int) ≤ 4194304) (i : Int) : spec_l1In.f i 0 (wrap64 ((sa.length : Int) - 1)) = some (decide (0 ≤ i ∧ i < (sa.length : Int))) := by
  rw [l1In, K.wr (by omega) (by omega)]
  congr 1
  exact decide_eq_decide.2 (by omega)
theorem sAngle (n : Int) : spec_AngleOf.f n = some (n % 360) := by
  unfold spec_AngleOf.f spec_Mod.f
  have e : decide ((1 : Int) ≤ 360 ∧ (360 : Int) ≤ 1000000000000) = true := by decide
  simp only [l1In, e, Option.bind_some, ↓reduceIte]
  rw [if_neg (by omega)]
  have h := Int.tmod_eq_emod (a := n) (b := 360)
  have hb : -360 < Int.tmod n 360 ∧ Int.tmod n 360 < 360 := by
    rw [h]
    split <;> omega
  rw [K.wr (by omega) (by omega), Int.tmod_eq_emod_of_nonneg (by omega)]
  simp only [Option.bind_some]
  congr 1
  rw [h]
  split <;> omega
theorem iAngle (n : Int) : impl_AngleOf.f n = some (n % 360) := by
  unfold impl_AngleOf.f impl_Mod.f
  have e : decide ((1 : Int) ≤ 360 ∧ (360 : Int) ≤ 1000000000000) = true := by decide
  simp only [InRange, e, Option.bind_some, ↓reduceIte]
  rw [if_neg (by omega)]
  have h := Int.tmod_eq_emod (a := n) (b := 360)
  have hb : -360 < Int.tmod n 360 ∧ Int.tmod n 360 < 360 := by
    rw [h]
    split <;> omega
  have hd : (360 : Int) ∣ n → Int.tmod n 360 = n % 360 := by
    intro hd
    rw [h, if_pos (Or.inr hd)]
    simp
  by_cases c : Int.tmod n 360 < 0
  · rw [if_pos c, K.wr (by omega) (by omega)]
    simp only [Option.bind_some]
    congr 1
    rw [h] at c ⊢
    split at c <;> split <;> omega
  · rw [if_neg c]
    simp only [Option.bind_some]
    congr 1
    rw [h] at c ⊢
    split at c <;> split <;> omega
def placeV (ph sp t : Int) : Int := (ph % 360 + (if -60 ≤ sp ∧ sp ≤ 60 then sp else 0) * (if 0 ≤ t ∧ t ≤ 1000 then t else 0)) % 360
theorem place_bd (s t : Int) (hs : -60 ≤ s ∧ s ≤ 60) (ht : 0 ≤ t ∧ t ≤ 1000) : -60000 ≤ s * t ∧ s * t ≤ 60000 := by
  have h1 : s * t ≤ 60 * t := Int.mul_le_mul_of_nonneg_right hs.2 ht.1
  have h2 : -60 * t ≤ s * t := Int.mul_le_mul_of_nonneg_right hs.1 ht.1
  omega
theorem sPlace (a ph sp e t : Int) : spec_PlaceAt.f a ph sp e t = some (placeV ph sp t) := by
  unfold spec_PlaceAt.f placeV spec_l6Speed.f
  simp only [l1In, sAngle, Option.bind_some, decide_eq_true_eq]
  by_cases ct : 0 ≤ t ∧ t ≤ 1000
  · rw [if_pos ct]
    by_cases cs : -60 ≤ sp ∧ sp ≤ 60
    · have := place_bd sp t cs ct
      rw [if_pos cs]
      simp only [Option.bind_some, if_pos ct, if_pos cs]
      rw [K.wr (x := sp * t) (by omega) (by omega), K.wr (by omega) (by omega)]
    · rw [if_neg cs]
      simp only [Option.bind_some, if_pos ct, if_neg cs]
      rw [K.wr (x := 0 * t) (by omega) (by omega), K.wr (by omega) (by omega)]
  · rw [if_neg ct]
    by_cases cs : -60 ≤ sp ∧ sp ≤ 60
    · rw [if_pos cs]
      simp only [Option.bind_some, if_neg ct]
      rw [K.wr (by omega) (by omega), Int.mul_zero, Int.add_zero]
    · rw [if_neg cs]
      simp only [Option.bind_some, if_neg ct]
      rw [K.wr (by omega) (by omega), Int.mul_zero, Int.add_zero]
theorem iPlace (a ph sp e t : Int) : impl_PlaceAt.f a ph sp e t = some (placeV ph sp t) := by
  unfold impl_PlaceAt.f placeV impl_speedOf.f
  simp only [InRange, iAngle, Option.bind_some, decide_eq_true_eq]
  by_cases ct : 0 ≤ t ∧ t ≤ 1000
  · rw [if_pos ct]
    by_cases cs : -60 ≤ sp ∧ sp ≤ 60
    · have := place_bd sp t cs ct
      rw [if_pos cs]
      simp only [Option.bind_some, if_pos ct, if_pos cs]
      rw [K.wr (x := sp * t) (by omega) (by omega), K.wr (by omega) (by omega)]
    · rw [if_neg cs]
      simp only [Option.bind_some, if_pos ct, if_neg cs]
      rw [K.wr (x := 0 * t) (by omega) (by omega), K.wr (by omega) (by omega)]
  · rw [if_neg ct]
    by_cases cs : -60 ≤ sp ∧ sp ≤ 60
    · rw [if_pos cs]
      simp only [Option.bind_some, if_neg ct]
      rw [K.wr (by omega) (by omega), Int.mul_zero, Int.add_zero]
    · rw [if_neg cs]
      simp only [Option.bind_some, if_neg ct]
      rw [K.wr (by omega) (by omega), Int.mul_zero, Int.add_zero]
theorem place_range (ph sp t : Int) : 0 ≤ placeV ph sp t ∧ placeV ph sp t < 360 := by unfold placeV; omega
theorem sMin (a b : Int) : spec_Min.f a b = some (mn a b) := by
  unfold spec_Min.f mn
  split <;> rfl
theorem iWidth (n : Int) : impl_isWidth.f n = some (decide (0 ≤ n ∧ n ≤ 359)) := by
  unfold impl_isWidth.f
  simp only [InRange, Option.bind_some]
/-- The arc about a place, as wide as an error says: its start and its width. -/
def widS (p e : Int) : Int := if 0 ≤ e ∧ e ≤ 360 then (p % 360 - e) % 360 else p % 360
def widW (e : Int) : Int := if 0 ≤ e ∧ e ≤ 360 then mn (2 * e) 359 else 0
theorem sWiden (p e : Int) : Ev (fun k => spec_WidenArc.f k p 0 e) (widS p e, widW e) := by
  unfold spec_WidenArc.f widS widW
  have e0 : decide ((0 : Int) ≤ 0 ∧ (0 : Int) ≤ 359) = true := by decide
  simp only [l1In, e0, Option.bind_some, decide_eq_true_eq]
  by_cases c : 0 ≤ e ∧ e ≤ 360
  · rw [if_pos c, if_pos c]
    refine K.pos c (K.succ ?_)
    simp only [spec_WidenArc.j0, sAngle, sMin, Option.bind_some]
    refine K.neg (by decide) ?_
    rw [K.wr (x := p % 360 - e) (by omega) (by omega), K.wr (x := 2 * e) (by omega) (by omega), Int.zero_add, K.wr (x := 2 * e) (by omega) (by omega)]
    have hm : mn 359 (2 * e) = mn (2 * e) 359 := by unfold mn; split <;> split <;> omega
    rw [hm]
    exact Ev.now _
  · rw [if_neg c, if_neg c]
    refine K.neg c (K.succ ?_)
    simp only [spec_WidenArc.j0, sAngle, Option.bind_some]
    exact K.pos (by trivial) (Ev.now _)
theorem iWiden (p e : Int) : impl_WidenArc.f p 0 e = some (widS p e, widW e) := by
  unfold impl_WidenArc.f widS widW
  have e0 : decide ((0 : Int) ≤ 0 ∧ (0 : Int) ≤ 359) = true := by decide
  simp only [InRange, iWidth, iAngle, e0, Option.bind_some, decide_eq_true_eq, ↓reduceIte]
  by_cases c : 0 ≤ e ∧ e ≤ 360
  · rw [if_pos c, if_pos c, if_pos c, K.wr (x := p % 360 - e) (by omega) (by omega), K.wr (x := 2 * e) (by omega) (by omega), Int.zero_add, K.wr (x := 2 * e) (by omega) (by omega)]
  · rw [if_neg c, if_neg c, if_neg c]
theorem wid_range (p e : Int) : 0 ≤ widS p e ∧ widS p e < 360 ∧ 0 ≤ widW e ∧ widW e ≤ 359 := by
  unfold widS widW mn
  split <;> (try split) <;> omega
def nodeS (sa : List S105) (si : List S109) (i t : Int) : Int :=
  if 0 ≤ i ∧ i < (sa.length : Int) then widS (placeV (rd_T105 sa i).f1 (rd_T105 sa i).f2 t) (rd_T105 sa i).f3 else if (sa.length : Int) ≤ i ∧ i < (sa.length : Int) + si.length then placeV (rd_T109 si (i - sa.length)).f1 (rd_T109 si (i - sa.length)).f2 t else 0
def nodeW (sa : List S105) (i : Int) : Int :=
  if 0 ≤ i ∧ i < (sa.length : Int) then widW (rd_T105 sa i).f3 else 0
theorem sNode (pl : Int) (sa : List S105) (si : List S109) (rc cr vw su sh : Int) (zo : List S115) (ac : Int) (hn : (sa.length : Int) + si.length ≤ 4194304) (i t : Int) : Ev (fun k => spec_NodeAt.f k pl sa si rc cr vw su sh zo ac i t) (nodeS sa si i t, nodeW sa i) := by
  unfold spec_NodeAt.f nodeS nodeW
  simp only [sIsSat sa (by omega), sIsSite _ _ _ _ _ _ _ _ _ _ hn, Option.bind_some, decide_eq_true_eq]
  by_cases c : 0 ≤ i ∧ i < (sa.length : Int)
  · rw [if_pos c, if_pos c]
    refine K.pos c (K.pos c.1 (K.pos c.2 ?_))
    unfold spec_PlacesAt.f
    simp only [sPlace, Option.bind_some]
    exact Ev.bind (Ev.bind (sWiden _ _) (Ev.now _)) (Ev.now _)
  · rw [if_neg c, if_neg c]
    refine K.neg c ?_
    by_cases c2 : (sa.length : Int) ≤ i ∧ i < (sa.length : Int) + si.length
    · simp only [if_pos c2, sPlace, Option.bind_some]
      rw [K.wr (x := i - sa.length) (by omega) (by omega), if_pos (by omega), if_pos (by omega)]
      exact Ev.now _
    · simp only [if_neg c2]
      exact Ev.now _
theorem iNode (pl : Int) (sa : List S105) (si : List S109) (rc cr vw su sh : Int) (zo : List S115) (ac : Int) (hn : (sa.length : Int) + si.length ≤ 4194304) (i t : Int) : impl_NodeAt.f pl sa si rc cr vw su sh zo ac i t = some (nodeS sa si i t, nodeW sa i) := by
  unfold impl_NodeAt.f nodeS nodeW impl_PlacesAt.f
  simp only [iIsSat _ _ _ _ _ _ _ _ _ _ hn, iIsSite _ _ _ _ _ _ _ _ _ _ hn, iPlace, iWiden, Option.bind_some, decide_eq_true_eq]
  by_cases c : 0 ≤ i ∧ i < (sa.length : Int)
  · rw [if_pos c, if_pos c, if_pos c.1, if_pos c.2, if_pos c]
  · rw [if_neg c, if_neg c, if_neg c]
    by_cases c2 : (sa.length : Int) ≤ i ∧ i < (sa.length : Int) + si.length
    · rw [if_pos c2, if_pos c2, K.wr (x := i - sa.length) (by omega) (by omega), if_pos (by omega), if_pos (by omega)]
    · rw [if_neg c2, if_neg c2]
theorem node_range (sa : List S105) (si : List S109) (i t : Int) : 0 ≤ nodeS sa si i t ∧ nodeS sa si i t < 360 ∧ 0 ≤ nodeW sa i ∧ nodeW sa i ≤ 359 := by
  have h1 := wid_range (placeV (rd_T105 sa i).f1 (rd_T105 sa i).f2 t) (rd_T105 sa i).f3
  have h2 := place_range (rd_T109 si (i - sa.length)).f1 (rd_T109 si (i - sa.length)).f2 t
  unfold nodeS nodeW
  split
  · exact h1
  · split <;> omega
def planeV (sa : List S105) (si : List S109) (i : Int) : Int :=
  if 0 ≤ i ∧ i < (sa.length : Int) then (rd_T105 sa i).f0 else if (sa.length : Int) ≤ i ∧ i < (sa.length : Int) + si.length then (rd_T109 si (i - sa.length)).f0 else -1
theorem sPlane (pl : Int) (sa : List S105) (si : List S109) (rc cr vw su sh : Int) (zo : List S115) (ac : Int) (hn : (sa.length : Int) + si.length ≤ 4194304) (i : Int) : spec_PlaneOf.f pl sa si rc cr vw su sh zo ac i = some (planeV sa si i) := by
  unfold spec_PlaneOf.f planeV
  simp only [sIsSat sa (by omega), sIsSite _ _ _ _ _ _ _ _ _ _ hn, Option.bind_some, decide_eq_true_eq]
  by_cases c : 0 ≤ i ∧ i < (sa.length : Int)
  · rw [if_pos c, if_pos c, if_pos c.1, if_pos c.2]
  · rw [if_neg c, if_neg c]
    by_cases c2 : (sa.length : Int) ≤ i ∧ i < (sa.length : Int) + si.length
    · rw [if_pos c2, if_pos c2, K.wr (x := i - sa.length) (by omega) (by omega), if_pos (by omega), if_pos (by omega)]
    · rw [if_neg c2, if_neg c2]
theorem iPlane (pl : Int) (sa : List S105) (si : List S109) (rc cr vw su sh : Int) (zo : List S115) (ac : Int) (hn : (sa.length : Int) + si.length ≤ 4194304) (i : Int) : impl_PlaneOf.f pl sa si rc cr vw su sh zo ac i = some (planeV sa si i) := by
  unfold impl_PlaneOf.f planeV
  simp only [iIsSat _ _ _ _ _ _ _ _ _ _ hn, iIsSite _ _ _ _ _ _ _ _ _ _ hn, Option.bind_some, decide_eq_true_eq]
  by_cases c : 0 ≤ i ∧ i < (sa.length : Int)
  · rw [if_pos c, if_pos c, if_pos c.1, if_pos c.2]
  · rw [if_neg c, if_neg c]
    by_cases c2 : (sa.length : Int) ≤ i ∧ i < (sa.length : Int) + si.length
    · rw [if_pos c2, if_pos c2, K.wr (x := i - sa.length) (by omega) (by omega), if_pos (by omega), if_pos (by omega)]
    · rw [if_neg c2, if_neg c2]
theorem sMax (a b : Int) : spec_Max.f a b = some (mx a b) := by
  unfold spec_Max.f mx
  split <;> first | rfl | (split <;> first | rfl | (exfalso; omega))
def nearV (pl p q : Int) : Bool := decide (0 ≤ mn p q ∧ mn p q < mx p q ∧ (mx p q - mn p q = 1 ∨ mn p q = 0 ∧ mx p q ≤ 4 ∧ mx p q + 1 = pl))
theorem sNear (pl : Int) (sa : List S105) (si : List S109) (rc cr vw su sh : Int) (zo : List S115) (ac : Int) (p q : Int) (hp0 : -9223372036854775808 ≤ p) (hp1 : p ≤ 9223372036854775807) (hq0 : -9223372036854775808 ≤ q) (hq1 : q ≤ 9223372036854775807) : spec_l7Near.f pl sa si rc cr vw su sh zo ac p q = some (nearV pl p q) := by
  unfold spec_l7Near.f nearV
  simp only [sMin, sMax, Option.bind_some]
  have hm : -9223372036854775808 ≤ mn p q ∧ mn p q ≤ 9223372036854775807 := by unfold mn; split <;> omega
  have hx : -9223372036854775808 ≤ mx p q ∧ mx p q ≤ 9223372036854775807 := by unfold mx; split <;> omega
  generalize mn p q = lo at hm ⊢
  generalize mx p q = hi at hx ⊢
  by_cases c1 : lo ≥ 0
  · rw [if_pos c1]
    by_cases c2 : hi > lo
    · rw [if_pos c2, K.wr (x := hi - lo) (by omega) (by omega)]
      by_cases c3 : hi - lo = 1
      · rw [if_pos c3]
        congr 1
        exact (decide_eq_true (by omega)).symm
      · rw [if_neg c3]
        by_cases c4 : lo = 0
        · rw [if_pos c4]
          by_cases c5 : hi ≤ 4
          · rw [if_pos c5, K.wr (x := hi + 1) (by omega) (by omega)]
            congr 1
            by_cases c6 : hi + 1 = pl
            · rw [beq_iff_eq.2 c6]
              exact (decide_eq_true (by omega)).symm
            · rw [beq_eq_false_iff_ne.2 c6]
              exact (decide_eq_false (by omega)).symm
          · rw [if_neg c5]
            congr 1
            exact (decide_eq_false (by omega)).symm
        · rw [if_neg c4]
          congr 1
          exact (decide_eq_false (by omega)).symm
    · rw [if_neg c2]
      congr 1
      exact (decide_eq_false (by omega)).symm
  · rw [if_neg c1]
    congr 1
    exact (decide_eq_false (by omega)).symm
/-- The program's neighbors, the less plane first. -/
theorem near_side (pl lo hi : Int) (hle : lo ≤ hi) (hl0 : -9223372036854775808 ≤ lo) (hh1 : hi ≤ 9223372036854775807) (hpl0 : -9223372036854775808 ≤ pl) (hpl1 : pl ≤ 9223372036854775807) :
    (if lo ≥ 0 then (if (wrap64 (hi - lo)) = 1 then (some true) else (if lo = 0 then (if hi = (wrap64 (pl - 1)) then ((impl_InRange.f hi 1 4).bind fun t => (some t)) else (some false)) else (some false))) else (if lo = 0 then (if hi = (wrap64 (pl - 1)) then ((impl_InRange.f hi 1 4).bind fun t => (some t)) else (some false)) else (some false)))
      = some (decide (0 ≤ lo ∧ lo < hi ∧ (hi - lo = 1 ∨ lo = 0 ∧ hi ≤ 4 ∧ hi + 1 = pl))) := by
  simp only [InRange, Option.bind_some]
  by_cases c1 : lo ≥ 0
  · rw [if_pos c1, K.wr (x := hi - lo) (by omega) (by omega)]
    by_cases c3 : hi - lo = 1
    · rw [if_pos c3]
      congr 1
      exact (decide_eq_true (by omega)).symm
    · rw [if_neg c3]
      by_cases c4 : lo = 0
      · rw [if_pos c4]
        by_cases cm : pl = -9223372036854775808
        · have : wrap64 (pl - 1) = 9223372036854775807 := by
            rw [cm]
            unfold wrap64
            omega
          rw [this]
          by_cases c5 : hi = 9223372036854775807
          · rw [if_pos c5]
            congr 1
            exact (decide_eq_false (by omega)).trans (decide_eq_false (by omega)).symm
          · rw [if_neg c5]
            congr 1
            exact (decide_eq_false (by omega)).symm
        · rw [K.wr (x := pl - 1) (by omega) (by omega)]
          by_cases c5 : hi = pl - 1
          · rw [if_pos c5]
            congr 1
            exact decide_eq_decide.2 (by omega)
          · rw [if_neg c5]
            congr 1
            exact (decide_eq_false (by omega)).symm
      · rw [if_neg c4]
        congr 1
        exact (decide_eq_false (by omega)).symm
  · rw [if_neg c1, if_neg (by omega)]
    congr 1
    exact (decide_eq_false (by omega)).symm
theorem iNear (pl : Int) (sa : List S105) (si : List S109) (rc cr vw su sh : Int) (zo : List S115) (ac : Int) (hpl0 : -9223372036854775808 ≤ pl) (hpl1 : pl ≤ 9223372036854775807) (p q : Int) (hp0 : -9223372036854775808 ≤ p) (hp1 : p ≤ 9223372036854775807) (hq0 : -9223372036854775808 ≤ q) (hq1 : q ≤ 9223372036854775807) : impl_areNeighbors.f pl sa si rc cr vw su sh zo ac p q = some (nearV pl p q) := by
  unfold impl_areNeighbors.f nearV mn mx
  by_cases c : p > q
  · rw [if_pos c, near_side pl q p (by omega) hq0 hp1 hpl0 hpl1, if_pos (by omega), if_neg (by omega)]
  · rw [if_neg c, near_side pl p q (by omega) hp0 hq1 hpl0 hpl1, if_neg (by omega)]
    by_cases c2 : p < q
    · rw [if_pos c2]
    · have : p = q := by omega
      subst this
      rw [if_neg c2]
theorem near_self (pl p : Int) : nearV pl p p = false := by
  unfold nearV
  refine decide_eq_false (fun h => ?_)
  have h1 : mn p p = p := by unfold mn; split <;> rfl
  have h2 : mx p p = p := by unfold mx; split <;> rfl
  rw [h1, h2] at h
  omega
theorem plane_wf (sa : List S105) (si : List S109) (h1 : ∀ x ∈ sa, -9223372036854775808 ≤ x.f0 ∧ x.f0 ≤ 9223372036854775807) (h2 : ∀ x ∈ si, -9223372036854775808 ≤ x.f0 ∧ x.f0 ≤ 9223372036854775807) (i : Int) :
    -9223372036854775808 ≤ planeV sa si i ∧ planeV sa si i ≤ 9223372036854775807 := by
  unfold planeV
  split
  · rename_i h
    have hg : sa[i.toNat]? = some (sa[i.toNat]'(by omega)) := List.getElem?_eq_getElem (by omega)
    have : rd_T105 sa i = sa[i.toNat]'(by omega) := by simp only [rd_T105, List.getD_eq_getElem?_getD, hg, Option.getD_some]
    rw [this]
    exact h1 _ (List.getElem_mem _)
  · split
    · rename_i h
      have hg : si[(i - sa.length).toNat]? = some (si[(i - sa.length).toNat]'(by omega)) := List.getElem?_eq_getElem (by omega)
      have : rd_T109 si (i - sa.length) = si[(i - sa.length).toNat]'(by omega) := by simp only [rd_T109, List.getD_eq_getElem?_getD, hg, Option.getD_some]
      rw [this]
      exact h2 _ (List.getElem_mem _)
    · omega
/-- What both come to. -/
def limV (pl : Int) (sa : List S105) (si : List S109) (rc cr vw a b : Int) : Int :=
  if a = b ∨ ¬ (0 ≤ a ∧ a < (sa.length : Int) + si.length) ∨ ¬ (0 ≤ b ∧ b < (sa.length : Int) + si.length) ∨ ((sa.length : Int) ≤ a ∧ (sa.length : Int) ≤ b) then -1
  else if (sa.length : Int) ≤ a ∨ (sa.length : Int) ≤ b then (if planeV sa si a = planeV sa si b ∨ nearV pl (planeV sa si a) (planeV sa si b) = true then vw else -1)
  else if planeV sa si a = planeV sa si b then rc else if nearV pl (planeV sa si a) (planeV sa si b) = true then cr else -1
theorem sLimit (pl : Int) (sa : List S105) (si : List S109) (rc cr vw su sh : Int) (zo : List S115) (ac : Int) (hn : (sa.length : Int) + si.length ≤ 4194304) (h1 : ∀ x ∈ sa, -9223372036854775808 ≤ x.f0 ∧ x.f0 ≤ 9223372036854775807) (h2 : ∀ x ∈ si, -9223372036854775808 ≤ x.f0 ∧ x.f0 ≤ 9223372036854775807) (a b : Int) :
    Ev (fun k => spec_LimitOf.f k pl sa si rc cr vw su sh zo ac a b) (limV pl sa si rc cr vw a b) := by
  have hp := plane_wf sa si h1 h2 a
  have hq := plane_wf sa si h1 h2 b
  have hend : ∀ v, v = -1 → Ev (fun k => spec_LimitOf.j0 k a b true pl sa si rc cr vw su sh zo ac) v := by
    intro v hv
    subst hv
    refine K.succ ?_
    simp only [spec_LimitOf.j0]
    exact K.pos (by trivial) (Ev.now _)
  unfold spec_LimitOf.f spec_NodesOf.f
  simp only [Option.bind_some, l1In, sIsSite _ _ _ _ _ _ _ _ _ _ hn, decide_eq_true_eq]
  rw [K.wr (x := (sa.length : Int) + si.length) (by omega) (by omega), K.wr (x := (sa.length : Int) + si.length - 1) (by omega) (by omega)]
  by_cases ca : 0 ≤ a ∧ a < (sa.length : Int) + si.length
  · refine K.pos (by omega) ?_
    by_cases cb : 0 ≤ b ∧ b < (sa.length : Int) + si.length
    · refine K.pos (by omega) ?_
      by_cases ce : a = b
      · exact K.pos ce (hend _ (by unfold limV; rw [if_pos (Or.inl ce)]))
      · refine K.neg ce ?_
        by_cases sa_ : (sa.length : Int) ≤ a
        · refine K.pos (by omega) ?_
          by_cases sb_ : (sa.length : Int) ≤ b
          · rw [show decide ((sa.length : Int) ≤ b ∧ b < (sa.length : Int) + si.length) = true from decide_eq_true (by omega)]
            exact hend _ (by unfold limV; rw [if_pos (Or.inr (Or.inr (Or.inr ⟨sa_, sb_⟩)))])
          · rw [show decide ((sa.length : Int) ≤ b ∧ b < (sa.length : Int) + si.length) = false from decide_eq_false (by omega)]
            refine K.succ ?_
            simp only [spec_LimitOf.j0, sPlane _ _ _ _ _ _ _ _ _ _ hn, sIsSite _ _ _ _ _ _ _ _ _ _ hn, Option.bind_some]
            refine K.neg Bool.false_ne_true ?_
            rw [show decide ((sa.length : Int) ≤ a ∧ a < (sa.length : Int) + si.length) = true from decide_eq_true (by omega)]
            refine K.pos rfl (K.succ ?_)
            simp only [spec_LimitOf.j1, sNear _ _ _ _ _ _ _ _ _ _ _ _ hp.1 hp.2 hq.1 hq.2, Option.bind_some]
            refine K.pos (by trivial) ?_
            have e : limV pl sa si rc cr vw a b = if planeV sa si a = planeV sa si b ∨ nearV pl (planeV sa si a) (planeV sa si b) = true then vw else -1 := by
              unfold limV
              rw [if_neg (by omega), if_pos (Or.inl sa_)]
            by_cases c1 : planeV sa si a = planeV sa si b
            · rw [e.trans (if_pos (Or.inl c1))]
              exact K.pos c1 (Ev.now _)
            · refine K.neg c1 ?_
              by_cases c2 : nearV pl (planeV sa si a) (planeV sa si b) = true
              · rw [e.trans (if_pos (Or.inr c2))]
                exact K.pos c2 (Ev.now _)
              · rw [e.trans (if_neg (fun h => h.elim c1 c2))]
                exact K.neg c2 (Ev.now _)
        · refine K.neg (by omega) (K.succ ?_)
          simp only [spec_LimitOf.j0, sPlane _ _ _ _ _ _ _ _ _ _ hn, sIsSite _ _ _ _ _ _ _ _ _ _ hn, Option.bind_some]
          refine K.neg Bool.false_ne_true ?_
          rw [show decide ((sa.length : Int) ≤ a ∧ a < (sa.length : Int) + si.length) = false from decide_eq_false (by omega)]
          refine K.neg Bool.false_ne_true (K.succ ?_)
          simp only [spec_LimitOf.j1, sNear _ _ _ _ _ _ _ _ _ _ _ _ hp.1 hp.2 hq.1 hq.2, Option.bind_some, decide_eq_true_eq]
          by_cases sb_ : (sa.length : Int) ≤ b
          · refine K.pos (by omega) ?_
            have e : limV pl sa si rc cr vw a b = if planeV sa si a = planeV sa si b ∨ nearV pl (planeV sa si a) (planeV sa si b) = true then vw else -1 := by
              unfold limV
              rw [if_neg (by omega), if_pos (Or.inr sb_)]
            by_cases c1 : planeV sa si a = planeV sa si b
            · rw [e.trans (if_pos (Or.inl c1))]
              exact K.pos c1 (Ev.now _)
            · refine K.neg c1 ?_
              by_cases c2 : nearV pl (planeV sa si a) (planeV sa si b) = true
              · rw [e.trans (if_pos (Or.inr c2))]
                exact K.pos c2 (Ev.now _)
              · rw [e.trans (if_neg (fun h => h.elim c1 c2))]
                exact K.neg c2 (Ev.now _)
          · refine K.neg (by omega) ?_
            have e : limV pl sa si rc cr vw a b = if planeV sa si a = planeV sa si b then rc else if nearV pl (planeV sa si a) (planeV sa si b) = true then cr else -1 := by
              unfold limV
              rw [if_neg (by omega), if_neg (by omega)]
            by_cases c1 : planeV sa si a = planeV sa si b
            · rw [e.trans (if_pos c1)]
              exact K.pos c1 (Ev.now _)
            · refine K.neg c1 ?_
              by_cases c2 : nearV pl (planeV sa si a) (planeV sa si b) = true
              · rw [e.trans ((if_neg c1).trans (if_pos c2))]
                exact K.pos c2 (Ev.now _)
              · rw [e.trans ((if_neg c1).trans (if_neg c2))]
                exact K.neg c2 (Ev.now _)
    · exact K.neg (by omega) (hend _ (by unfold limV; rw [if_pos (Or.inr (Or.inr (Or.inl cb)))]))
  · exact K.neg (by omega) (hend _ (by unfold limV; rw [if_pos (Or.inr (Or.inl ca))]))
theorem iLimit (pl : Int) (sa : List S105) (si : List S109) (rc cr vw su sh : Int) (zo : List S115) (ac : Int) (hn : (sa.length : Int) + si.length ≤ 4194304) (hpl0 : -9223372036854775808 ≤ pl) (hpl1 : pl ≤ 9223372036854775807) (h1 : ∀ x ∈ sa, -9223372036854775808 ≤ x.f0 ∧ x.f0 ≤ 9223372036854775807) (h2 : ∀ x ∈ si, -9223372036854775808 ≤ x.f0 ∧ x.f0 ≤ 9223372036854775807) (a b : Int) :
    Ev (fun k => impl_LimitOf.f k pl sa si rc cr vw su sh zo ac a b) (limV pl sa si rc cr vw a b) := by
  have hp := plane_wf sa si h1 h2 a
  have hq := plane_wf sa si h1 h2 b
  have hend : ∀ x y v, v = -1 → Ev (fun k => impl_LimitOf.j0 k (planeV sa si a) (planeV sa si b) x y true pl sa si rc cr vw su sh zo ac) v := by
    intro x y v hv
    subst hv
    refine K.succ ?_
    simp only [impl_LimitOf.j0]
    exact K.pos (by trivial) (Ev.now _)
  unfold impl_LimitOf.f
  simp only [Option.bind_some, iPlane _ _ _ _ _ _ _ _ _ _ hn, iIsSat _ _ _ _ _ _ _ _ _ _ hn, iIsSite _ _ _ _ _ _ _ _ _ _ hn, decide_eq_true_eq]
  by_cases ce : a = b
  · exact K.pos ce (hend _ _ _ (by unfold limV; rw [if_pos (Or.inl ce)]))
  · refine K.neg ce ?_
    -- the way on when neither is wrong
    have hgo : ∀ x y : Bool, (x = true ↔ a < (sa.length : Int)) → (y = true ↔ b < (sa.length : Int)) → 0 ≤ a → a < (sa.length : Int) + si.length → 0 ≤ b → b < (sa.length : Int) + si.length →
        Ev (fun k => impl_LimitOf.j0 k (planeV sa si a) (planeV sa si b) x y false pl sa si rc cr vw su sh zo ac) (limV pl sa si rc cr vw a b) := by
      intro x y hx hy a0 a1 b0 b1
      refine K.succ ?_
      simp only [impl_LimitOf.j0]
      refine K.neg Bool.false_ne_true ?_
      have tail : ∀ z : Bool, (z = true ↔ x = true ∧ y = true ∧ planeV sa si a = planeV sa si b) → Ev (fun k => impl_LimitOf.j1 k (planeV sa si a) (planeV sa si b) x y z pl sa si rc cr vw su sh zo ac) (limV pl sa si rc cr vw a b) := by
        intro z hz
        have last : ∀ u : Bool, (u = true ↔ x = true ∧ y = true ∧ nearV pl (planeV sa si a) (planeV sa si b) = true) → z = false → Ev (fun k => impl_LimitOf.j2 k (planeV sa si a) (planeV sa si b) x y u pl sa si rc cr vw su sh zo ac) (limV pl sa si rc cr vw a b) := by
          intro u hu hzf
          refine K.succ ?_
          simp only [impl_LimitOf.j2, iNear _ _ _ _ _ _ _ _ _ _ hpl0 hpl1 _ _ hp.1 hp.2 hq.1 hq.2, Option.bind_some]
          cases u with
          | true =>
            have hu' := hu.1 rfl
            have ha := hx.1 hu'.1
            have hb := hy.1 hu'.2.1
            refine K.pos (by trivial) ?_
            unfold limV
            rw [if_neg (by omega), if_neg (by omega), if_neg (fun e => by
              have := hz.2 ⟨hu'.1, hu'.2.1, e⟩
              rw [hzf] at this
              cases this), if_pos hu'.2.2]
            exact Ev.now _
          | false =>
            refine K.neg Bool.false_ne_true ?_
            cases x with
            | true =>
              have ha := hx.1 rfl
              cases y with
              | true =>
                have hb := hy.1 rfl
                refine K.neg (by decide) ?_
                unfold limV
                rw [if_neg (by omega), if_neg (by omega), if_neg (fun e => by
                  have := hz.2 ⟨rfl, rfl, e⟩
                  rw [hzf] at this
                  cases this), if_neg (fun e => Bool.false_ne_true (hu.2 ⟨rfl, rfl, e⟩))]
                exact Ev.now _
              | false =>
                have hb : ¬ b < (sa.length : Int) := fun h => Bool.false_ne_true (hy.2 h)
                refine K.pos (by decide) ?_
                have e : limV pl sa si rc cr vw a b = if planeV sa si a = planeV sa si b ∨ nearV pl (planeV sa si a) (planeV sa si b) = true then vw else -1 := by
                  unfold limV
                  rw [if_neg (by omega), if_pos (by omega)]
                by_cases c1 : planeV sa si a = planeV sa si b
                · rw [e.trans (if_pos (Or.inl c1))]
                  exact K.pos c1 (Ev.now _)
                · refine K.neg c1 ?_
                  by_cases c2 : nearV pl (planeV sa si a) (planeV sa si b) = true
                  · rw [e.trans (if_pos (Or.inr c2))]
                    exact K.pos c2 (Ev.now _)
                  · rw [e.trans (if_neg (fun h => h.elim c1 c2))]
                    exact K.neg c2 (Ev.now _)
            | false =>
              have ha : ¬ a < (sa.length : Int) := fun h => Bool.false_ne_true (hx.2 h)
              cases y with
              | true =>
                have hb := hy.1 rfl
                refine K.pos (by decide) ?_
                have e : limV pl sa si rc cr vw a b = if planeV sa si a = planeV sa si b ∨ nearV pl (planeV sa si a) (planeV sa si b) = true then vw else -1 := by
                  unfold limV
                  rw [if_neg (by omega), if_pos (by omega)]
                by_cases c1 : planeV sa si a = planeV sa si b
                · rw [e.trans (if_pos (Or.inl c1))]
                  exact K.pos c1 (Ev.now _)
                · refine K.neg c1 ?_
                  by_cases c2 : nearV pl (planeV sa si a) (planeV sa si b) = true
                  · rw [e.trans (if_pos (Or.inr c2))]
                    exact K.pos c2 (Ev.now _)
                  · rw [e.trans (if_neg (fun h => h.elim c1 c2))]
                    exact K.neg c2 (Ev.now _)
              | false =>
                have hb : ¬ b < (sa.length : Int) := fun h => Bool.false_ne_true (hy.2 h)
                refine K.neg (by decide) ?_
                unfold limV
                rw [if_pos (by omega)]
                exact Ev.now _
        refine K.succ ?_
        simp only [impl_LimitOf.j1, iNear _ _ _ _ _ _ _ _ _ _ hpl0 hpl1 _ _ hp.1 hp.2 hq.1 hq.2, Option.bind_some]
        cases z with
        | true =>
          have hz' := hz.1 rfl
          have ha := hx.1 hz'.1
          have hb := hy.1 hz'.2.1
          refine K.pos (by trivial) ?_
          unfold limV
          rw [if_neg (by omega), if_neg (by omega), if_pos hz'.2.2]
          exact Ev.now _
        | false =>
          refine K.neg Bool.false_ne_true ?_
          cases x with
          | true =>
            cases y with
            | true => exact K.pos (by trivial) (K.pos (by trivial) (last _ ⟨fun h => ⟨rfl, rfl, h⟩, fun h => h.2.2⟩ rfl))
            | false => exact K.pos (by trivial) (K.neg Bool.false_ne_true (last false ⟨fun h => absurd h Bool.false_ne_true, fun h => absurd h.2.1 Bool.false_ne_true⟩ rfl))
          | false => exact K.neg Bool.false_ne_true (last false ⟨fun h => absurd h Bool.false_ne_true, fun h => absurd h.1 Bool.false_ne_true⟩ rfl)
      cases x with
      | true =>
        cases y with
        | true => exact K.pos (by trivial) (K.pos (by trivial) (tail _ ⟨fun h => ⟨rfl, rfl, beq_iff_eq.1 h⟩, fun h => beq_iff_eq.2 h.2.2⟩))
        | false => exact K.pos (by trivial) (K.neg Bool.false_ne_true (tail false ⟨fun h => absurd h Bool.false_ne_true, fun h => absurd h.2.1 Bool.false_ne_true⟩))
      | false => exact K.neg Bool.false_ne_true (tail false ⟨fun h => absurd h Bool.false_ne_true, fun h => absurd h.1 Bool.false_ne_true⟩)
    by_cases ca : 0 ≤ a ∧ a < (sa.length : Int)
    · refine K.pos ca ?_
      by_cases cb : 0 ≤ b ∧ b < (sa.length : Int)
      · exact K.pos cb (hgo _ _ ⟨fun h => (of_decide_eq_true h).2, fun h => decide_eq_true ⟨ca.1, h⟩⟩ ⟨fun h => (of_decide_eq_true h).2, fun h => decide_eq_true ⟨cb.1, h⟩⟩ (by omega) (by omega) (by omega) (by omega))
      · refine K.neg cb ?_
        by_cases cs : (sa.length : Int) ≤ b ∧ b < (sa.length : Int) + si.length
        · rw [show (!decide ((sa.length : Int) ≤ b ∧ b < (sa.length : Int) + si.length)) = false from by rw [decide_eq_true cs]; rfl]
          exact hgo _ _ ⟨fun h => (of_decide_eq_true h).2, fun h => decide_eq_true ⟨ca.1, h⟩⟩ ⟨fun h => (of_decide_eq_true h).2, fun h => by omega⟩ (by omega) (by omega) (by omega) (by omega)
        · rw [show (!decide ((sa.length : Int) ≤ b ∧ b < (sa.length : Int) + si.length)) = true from by rw [decide_eq_false cs]; rfl]
          exact hend _ _ _ (by unfold limV; rw [if_pos (Or.inr (Or.inr (Or.inl (by omega))))])
    · refine K.neg ca ?_
      by_cases cs : (sa.length : Int) ≤ a ∧ a < (sa.length : Int) + si.length
      · refine K.pos cs ?_
        by_cases cb : 0 ≤ b ∧ b < (sa.length : Int)
        · exact K.pos cb (hgo _ _ ⟨fun h => (of_decide_eq_true h).2, fun h => by omega⟩ ⟨fun h => (of_decide_eq_true h).2, fun h => decide_eq_true ⟨cb.1, h⟩⟩ (by omega) (by omega) (by omega) (by omega))
        · refine K.neg cb ?_
          by_cases cs2 : (sa.length : Int) ≤ b ∧ b < (sa.length : Int) + si.length
          · rw [show (!decide ((sa.length : Int) ≤ b ∧ b < (sa.length : Int) + si.length)) = false from by rw [decide_eq_true cs2]; rfl]
            exact hgo _ _ ⟨fun h => (of_decide_eq_true h).2, fun h => by omega⟩ ⟨fun h => (of_decide_eq_true h).2, fun h => by omega⟩ (by omega) (by omega) (by omega) (by omega)
          · rw [show (!decide ((sa.length : Int) ≤ b ∧ b < (sa.length : Int) + si.length)) = true from by rw [decide_eq_false cs2]; rfl]
            exact hend _ _ _ (by unfold limV; rw [if_pos (Or.inr (Or.inr (Or.inl (by omega))))])
      · exact K.neg cs (hend _ _ _ (by unfold limV; rw [if_pos (Or.inr (Or.inl (by omega)))]))
def midV (s w : Int) : Int := if 0 ≤ w ∧ w ≤ 359 then (s % 360 + w / 2) % 360 else s % 360
theorem sMiddle (s w : Int) : spec_MiddleOf.f s w = some (midV s w) := by
  unfold spec_MiddleOf.f midV
  simp only [l1In, sAngle, Option.bind_some, decide_eq_true_eq]
  by_cases c : 0 ≤ w ∧ w ≤ 359
  · rw [if_pos c, if_pos c, Int.tdiv_eq_ediv_of_nonneg c.1, K.wr (x := w / 2) (by omega) (by omega), K.wr (by omega) (by omega)]
  · rw [if_neg c, if_neg c]
theorem iMiddle (s w : Int) : impl_MiddleOf.f s w = some (midV s w) := by
  unfold impl_MiddleOf.f midV
  simp only [iWidth, iAngle, Option.bind_some, decide_eq_true_eq]
  by_cases c : 0 ≤ w ∧ w ≤ 359
  · rw [if_pos c, if_pos c, Int.tdiv_eq_ediv_of_nonneg c.1, K.wr (x := w / 2) (by omega) (by omega), K.wr (by omega) (by omega)]
  · rw [if_neg c, if_neg c]
theorem mid_range (s w : Int) : 0 ≤ midV s w ∧ midV s w < 360 := by
  unfold midV
  split <;> omega
def gapV (a b : Int) : Int := mn ((a % 360 - b % 360) % 360) (360 - (a % 360 - b % 360) % 360)
theorem sGap (a b : Int) : spec_GapOf.f a b = some (gapV a b) := by
  unfold spec_GapOf.f gapV
  simp only [sAngle, sMin, Option.bind_some]
  rw [K.wr (x := a % 360 - b % 360) (by omega) (by omega), K.wr (by omega) (by omega)]
theorem iGap (a b : Int) : impl_GapOf.f a b = some (gapV a b) := by
  unfold impl_GapOf.f gapV
  simp only [iAngle, Option.bind_some]
  rw [K.wr (x := a % 360 - b % 360) (by omega) (by omega), K.wr (by omega) (by omega)]
theorem gap_range (a b : Int) : 0 ≤ gapV a b ∧ gapV a b ≤ 180 := by
  unfold gapV mn
  split <;> omega
def sightOf (lim g w1 w2 : Int) : Int := if lim < 0 then 0 else if g - (w1 + w2) / 2 > lim then 0 else if g + (w1 + w2) / 2 ≤ lim then 2 else 1
def sightV (pl : Int) (sa : List S105) (si : List S109) (rc cr vw a b t : Int) : Int :=
  sightOf (limV pl sa si rc cr vw a b) (gapV (midV (nodeS sa si a t) (nodeW sa a)) (midV (nodeS sa si b t) (nodeW sa b))) (nodeW sa a) (nodeW sa b)
theorem sSight (pl : Int) (sa : List S105) (si : List S109) (rc cr vw su sh : Int) (zo : List S115) (ac : Int) (hn : (sa.length : Int) + si.length ≤ 4194304) (h1 : ∀ x ∈ sa, -9223372036854775808 ≤ x.f0 ∧ x.f0 ≤ 9223372036854775807) (h2 : ∀ x ∈ si, -9223372036854775808 ≤ x.f0 ∧ x.f0 ≤ 9223372036854775807) (a b t : Int) :
    Ev (fun k => spec_SightAt.f k pl sa si rc cr vw su sh zo ac a b t) (sightV pl sa si rc cr vw a b t) := by
  unfold spec_SightAt.f sightV
  refine Ev.bind (sLimit _ _ _ _ _ _ _ _ _ _ hn h1 h2 a b) ?_
  have ha := node_range sa si a t
  have hb := node_range sa si b t
  have hg := gap_range (midV (nodeS sa si a t) (nodeW sa a)) (midV (nodeS sa si b t) (nodeW sa b))
  generalize limV pl sa si rc cr vw a b = lim
  unfold sightOf
  by_cases c : lim < 0
  · rw [if_pos c]
    exact K.pos c (Ev.now _)
  · rw [if_neg c]
    refine K.neg c (Ev.bind (sNode _ _ _ _ _ _ _ _ _ _ hn a t) (Ev.bind (sNode _ _ _ _ _ _ _ _ _ _ hn b t) ?_))
    simp only [sMiddle, sGap, Option.bind_some]
    generalize gapV (midV (nodeS sa si a t) (nodeW sa a)) (midV (nodeS sa si b t) (nodeW sa b)) = g at hg ⊢
    generalize nodeW sa a = x at ha ⊢
    generalize nodeW sa b = y at hb ⊢
    have e : wrap64 ((wrap64 ((wrap64 (Int.tdiv x 2)) + (wrap64 (Int.tdiv y 2)))) + (wrap64 (Int.tdiv (wrap64 ((Int.tmod x 2) + (Int.tmod y 2))) 2))) = (x + y) / 2 := by
      rw [Int.tdiv_eq_ediv_of_nonneg ha.2.2.1, Int.tdiv_eq_ediv_of_nonneg hb.2.2.1, Int.tmod_eq_emod_of_nonneg ha.2.2.1, Int.tmod_eq_emod_of_nonneg hb.2.2.1, K.wr (x := x % 2 + y % 2) (by omega) (by omega), Int.tdiv_eq_ediv_of_nonneg (by omega), K.wr (x := x / 2) (by omega) (by omega), K.wr (x := y / 2) (by omega) (by omega), K.wr (x := x / 2 + y / 2) (by omega) (by omega), K.wr (x := (x % 2 + y % 2) / 2) (by omega) (by omega), K.wr (by omega) (by omega)]
      omega
    rw [e, K.wr (x := g - (x + y) / 2) (by omega) (by omega), K.wr (x := g + (x + y) / 2) (by omega) (by omega)]
    split
    · exact Ev.now _
    · split <;> exact Ev.now _
theorem iSight (pl : Int) (sa : List S105) (si : List S109) (rc cr vw su sh : Int) (zo : List S115) (ac : Int) (hn : (sa.length : Int) + si.length ≤ 4194304) (hpl0 : -9223372036854775808 ≤ pl) (hpl1 : pl ≤ 9223372036854775807) (h1 : ∀ x ∈ sa, -9223372036854775808 ≤ x.f0 ∧ x.f0 ≤ 9223372036854775807) (h2 : ∀ x ∈ si, -9223372036854775808 ≤ x.f0 ∧ x.f0 ≤ 9223372036854775807) (a b t : Int) :
    Ev (fun k => impl_SightAt.f k pl sa si rc cr vw su sh zo ac a b t) (sightV pl sa si rc cr vw a b t) := by
  unfold impl_SightAt.f sightV
  simp only [iNode _ _ _ _ _ _ _ _ _ _ hn, Option.bind_some]
  refine Ev.bind (iLimit _ _ _ _ _ _ _ _ _ _ hn hpl0 hpl1 h1 h2 a b) ?_
  have ha := node_range sa si a t
  have hb := node_range sa si b t
  have hg := gap_range (midV (nodeS sa si a t) (nodeW sa a)) (midV (nodeS sa si b t) (nodeW sa b))
  generalize limV pl sa si rc cr vw a b = lim
  simp only [iMiddle, iGap, Option.bind_some]
  generalize gapV (midV (nodeS sa si a t) (nodeW sa a)) (midV (nodeS sa si b t) (nodeW sa b)) = g at hg ⊢
  generalize nodeW sa a = x at ha ⊢
  generalize nodeW sa b = y at hb ⊢
  rw [K.wr (x := x + y) (by omega) (by omega), Int.tdiv_eq_ediv_of_nonneg (by omega), K.wr (x := (x + y) / 2) (by omega) (by omega), K.wr (x := g - (x + y) / 2) (by omega) (by omega)]
  unfold sightOf
  by_cases c : lim < 0
  · rw [if_pos c]
    refine K.pos c (K.succ ?_)
    simp only [impl_SightAt.j0]
    exact K.pos (by trivial) (Ev.now _)
  · rw [if_neg c]
    refine K.neg c (K.succ ?_)
    by_cases c2 : g - (x + y) / 2 > lim
    · rw [if_pos c2, decide_eq_true c2]
      simp only [impl_SightAt.j0]
      exact K.pos (by trivial) (Ev.now _)
    · rw [if_neg c2, decide_eq_false c2]
      simp only [impl_SightAt.j0]
      rw [K.wr (x := g + (x + y) / 2) (by omega) (by omega)]
      refine K.neg Bool.false_ne_true ?_
      split <;> exact Ev.now _
theorem sSure (pl : Int) (sa : List S105) (si : List S109) (rc cr vw su sh : Int) (zo : List S115) (ac : Int) (hn : (sa.length : Int) + si.length ≤ 4194304) (h1 : ∀ x ∈ sa, -9223372036854775808 ≤ x.f0 ∧ x.f0 ≤ 9223372036854775807) (h2 : ∀ x ∈ si, -9223372036854775808 ≤ x.f0 ∧ x.f0 ≤ 9223372036854775807) (a b t : Int) :
    Ev (fun k => spec_IsSure.f k pl sa si rc cr vw su sh zo ac a b t) (sightV pl sa si rc cr vw a b t == 2) := by
  unfold spec_IsSure.f
  exact Ev.bind (sSight _ _ _ _ _ _ _ _ _ _ hn h1 h2 a b t) (Ev.now _)
theorem iSure (pl : Int) (sa : List S105) (si : List S109) (rc cr vw su sh : Int) (zo : List S115) (ac : Int) (hn : (sa.length : Int) + si.length ≤ 4194304) (hpl0 : -9223372036854775808 ≤ pl) (hpl1 : pl ≤ 9223372036854775807) (h1 : ∀ x ∈ sa, -9223372036854775808 ≤ x.f0 ∧ x.f0 ≤ 9223372036854775807) (h2 : ∀ x ∈ si, -9223372036854775808 ≤ x.f0 ∧ x.f0 ≤ 9223372036854775807) (a b t : Int) :
    Ev (fun k => impl_IsSure.f k pl sa si rc cr vw su sh zo ac a b t) (sightV pl sa si rc cr vw a b t == 2) := by
  unfold impl_IsSure.f
  exact Ev.bind (iSight _ _ _ _ _ _ _ _ _ _ hn hpl0 hpl1 h1 h2 a b t) (Ev.now _)
theorem stepN (k : Nat) (i t : Int) (o : List Int) (j : Int) (pl : Int) (sa : List S105) (si : List S109) (rc cr vw su sh : Int) (zo : List S115) (ac : Int) : spec_SureNeighbors.l0 (k + 1) i t o j pl sa si rc cr vw su sh zo ac = if j < wrap64 ((sa.length : Int) + si.length) then ((spec_IsSure.f k pl sa si rc cr vw su sh zo ac i j t).bind fun b => (if b = true then (if o.length < 17592186044416 then (spec_SureNeighbors.l0 k i t (o ++ [j]) (wrap64 (j + 1)) pl sa si rc cr vw su sh zo ac) else none) else (spec_SureNeighbors.l0 k i t o (wrap64 (j + 1)) pl sa si rc cr vw su sh zo ac))) else (some o) := by
  rw [spec_SureNeighbors.l0]
  rw [spec_NodesOf.f]
  rw [Option.bind_some]
theorem sureNear (pl : Int) (sa : List S105) (si : List S109) (rc cr vw su sh : Int) (zo : List S115) (ac : Int) (hn : (sa.length : Int) + si.length ≤ 4194304) (hpl0 : -9223372036854775808 ≤ pl) (hpl1 : pl ≤ 9223372036854775807) (h1 : ∀ x ∈ sa, -9223372036854775808 ≤ x.f0 ∧ x.f0 ≤ 9223372036854775807) (h2 : ∀ x ∈ si, -9223372036854775808 ≤ x.f0 ∧ x.f0 ≤ 9223372036854775807) (i t : Int) : ∃ r : List Int, r.length ≤ 4194304 ∧ Ev (fun k => spec_SureNeighbors.f k pl sa si rc cr vw su sh zo ac i t) r ∧ Ev (fun k => impl_SureNeighbors.f k pl sa si rc cr vw su sh zo ac i t) r := by
  have s_ := fun j => sSure pl sa si rc cr vw su sh zo ac hn h1 h2 i j t
  have i_ := fun j => iSure pl sa si rc cr vw su sh zo ac hn hpl0 hpl1 h1 h2 i j t
  have w0 : wrap64 ((sa.length : Int) + si.length) = (sa.length : Int) + si.length := K.wr (by omega) (by omega)
  have loop : ∀ (d : Nat) (o : List Int) (j : Int), 0 ≤ j → (sa.length : Int) + si.length - j = d → (o.length : Int) ≤ j → ∃ r : List Int, r.length ≤ 4194304 ∧ Ev (fun k => spec_SureNeighbors.l0 k i t o j pl sa si rc cr vw su sh zo ac) r ∧ Ev (fun k => impl_SureNeighbors.l0 k i t o ((sa.length : Int) + si.length) j pl sa si rc cr vw su sh zo ac) r := by
    intro d
    induction d with
    | zero =>
      intro o j h0 hd ho
      refine ⟨o, by omega, K.succ ?_, K.succ ?_⟩
      · rw [funext (fun k => stepN k i t o j pl sa si rc cr vw su sh zo ac), w0]
        exact K.neg (by omega) (Ev.now _)
      · simp only [impl_SureNeighbors.l0]
        exact K.neg (by omega) (Ev.now _)
    | succ d ih =>
      intro o j h0 hd ho
      have w1 : wrap64 (j + 1) = j + 1 := K.wr (by omega) (by omega)
      by_cases c : (sightV pl sa si rc cr vw i j t == 2) = true
      · obtain ⟨r, hr, g1, g2⟩ := ih (o ++ [j]) (j + 1) (by omega) (by omega) (by simp; omega)
        refine ⟨r, hr, K.succ ?_, K.succ ?_⟩
        · rw [funext (fun k => stepN k i t o j pl sa si rc cr vw su sh zo ac), w0, w1]
          exact K.pos (by omega) (Ev.bind (s_ j) (K.pos c (K.pos (by omega) g1)))
        · simp only [impl_SureNeighbors.l0, w1]
          exact K.pos (by omega) (Ev.bind (i_ j) (K.pos c (K.pos (by omega) g2)))
      · obtain ⟨r, hr, g1, g2⟩ := ih o (j + 1) (by omega) (by omega) (by omega)
        refine ⟨r, hr, K.succ ?_, K.succ ?_⟩
        · rw [funext (fun k => stepN k i t o j pl sa si rc cr vw su sh zo ac), w0, w1]
          exact K.pos (by omega) (Ev.bind (s_ j) (K.neg c g1))
        · simp only [impl_SureNeighbors.l0, w1]
          exact K.pos (by omega) (Ev.bind (i_ j) (K.neg c g2))
  obtain ⟨r, hr, g1, g2⟩ := loop ((sa.length : Int) + si.length).toNat [] 0 (by omega) (by omega) (by simp)
  refine ⟨r, hr, ?_, ?_⟩
  · unfold spec_SureNeighbors.f
    exact g1
  · unfold impl_SureNeighbors.f impl_NodesOf.f
    refine K.known rfl ?_
    rw [w0]
    exact g2

end LFnExactSureNeighbors
theorem FnExactSureNeighbors (pl : Int) (sa : List S107) (si : List S111) (rc cr vw su sh : Int) (zo : List S119) (ac : Int) (i t : Int) (h1 : sa.length ≤ 9223372036854775807) (h2 : si.length ≤ 9223372036854775807) (h3 : zo.length ≤ 9223372036854775807) (hw1 : ∀ x ∈ sa, (Lit.int .i64 x.f0).wf = true ∧ (Lit.int .i64 x.f1).wf = true ∧ (Lit.int .i64 x.f2).wf = true ∧ (Lit.int .i64 x.f3).wf = true) (hw2 : ∀ x ∈ si, (Lit.int .i64 x.f0).wf = true ∧ (Lit.int .i64 x.f1).wf = true ∧ (Lit.int .i64 x.f2).wf = true) (hwp : (Lit.int .i64 pl).wf = true) : ∃ k, laws_FnExactSureNeighbors.f k pl sa si rc cr vw su sh zo ac i t = some true := by
  refine K.rounds (g := fun k => laws_FnExactSureNeighbors.f k pl sa si rc cr vw su sh zo ac i t) ?_
  unfold laws_FnExactSureNeighbors.f
  refine K.known (LFnExactSureNeighbors.szSky _ _ _ _ _ _ _ _ _ _ h1 h2 h3) ?_
  by_cases c : (sa.length : Int) + si.length + zo.length ≤ 1048576
  · rw [if_pos c]
    have hn : ((sa.map LFnExactSureNeighbors.cvSat).length : Int) + (si.map LFnExactSureNeighbors.cvSite).length ≤ 4194304 := by simp; omega
    have g1 : ∀ x ∈ sa.map LFnExactSureNeighbors.cvSat, -9223372036854775808 ≤ x.f0 ∧ x.f0 ≤ 9223372036854775807 := by
      intro x hx
      obtain ⟨y, hy, rfl⟩ := List.mem_map.1 hx
      exact K.wf64 (hw1 y hy).1
    have g2 : ∀ x ∈ si.map LFnExactSureNeighbors.cvSite, -9223372036854775808 ≤ x.f0 ∧ x.f0 ≤ 9223372036854775807 := by
      intro x hx
      obtain ⟨y, hy, rfl⟩ := List.mem_map.1 hx
      exact K.wf64 (hw2 y hy).1
    have gp := K.wf64 hwp
    obtain ⟨v, hv, e1, e2⟩ := LFnExactSureNeighbors.sureNear pl (sa.map LFnExactSureNeighbors.cvSat) (si.map LFnExactSureNeighbors.cvSite) rc cr vw su sh (zo.map LFnExactSureNeighbors.cvZone) ac hn gp.1 gp.2 g1 g2 i t
    obtain ⟨m0, y1, y2, y3, hm0, g0⟩ := LFnExactSureNeighbors.markSky pl (sa.map LFnExactSureNeighbors.cvSat) (si.map LFnExactSureNeighbors.cvSite) rc cr vw su sh (zo.map LFnExactSureNeighbors.cvZone) ac (by simp; omega) (by simp; omega) (by simp; omega)
    obtain ⟨m1, ys, hm1, g1_, g2_⟩ := LFnExactSureNeighbors.markIntS v (by omega)
    repeat (first | exact Ev.now _ | refine K.pos (by first | exact True.intro | with_reducible rfl | omega) ?_ | refine K.neg (by first | omega | exact Bool.false_ne_true | exact K.nbne _) ?_ | refine Ev.bind (LFnExactSureNeighbors.toSky pl sa si rc cr vw su sh zo ac (by omega) (by omega) (by omega)) ?_ | refine Ev.bind (e1) ?_ | refine Ev.bind (e2) ?_ | refine Ev.bind (LFnExactSureNeighbors.eqSky pl (sa.map LFnExactSureNeighbors.cvSat) (si.map LFnExactSureNeighbors.cvSite) rc cr vw su sh (zo.map LFnExactSureNeighbors.cvZone) ac (by simp; omega) (by simp; omega) (by simp; omega)) ?_ | refine Ev.bind (LFnExactSureNeighbors.eqIntS v (by omega)) ?_ | refine Ev.bind (g0) ?_ | refine Ev.bind (g1_) ?_ | refine Ev.bind (g2_) ?_ | (refine K.succ ?_; simp only [laws_FnExactSureNeighbors.j0]))
  · rw [if_neg c]
    exact K.pos (by omega) (Ev.now _)

end Go.Proofs.Ytcjfalmhohcifaa.Pure
