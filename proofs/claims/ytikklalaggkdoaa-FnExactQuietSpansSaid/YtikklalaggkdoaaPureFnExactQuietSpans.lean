/- The quiet spans are one list in the program and in the reference, for every sky of at most 2^20 parts, every node and bounds. -/
import Derived.Test.YtikklalaggkdoaaQFnExactQuietSpansx
import Derived.Test.YtikklalaggkdoaaKKit
namespace Go.Proofs.Ytikklalaggkdoaa.Pure
open Go.RowKit Go.Proofs.Ytikklalaggkdoaa.PFnExactQuietSpans Go.Proofs.YtikklalaggkdoaaW.PrintWords Go.Proofs.YtikklalaggkdoaaW.PrintLast Go.Proofs.YtikklalaggkdoaaW.PrintMore Go.Proofs.Ytikklalaggkdoaa
set_option linter.unusedSimpArgs false
set_option linter.unusedVariables false
namespace LFnExactQuietSpans

def cvSat (x : S73) : S71 := ⟨x.f0, x.f1, x.f2, x.f3⟩
theorem toSatS (l : List S73) (hl : l.length ≤ 1048576) : Ev (fun k => laws_toSatS.f k l) (l.map cvSat) := by
  unfold laws_toSatS.f
  refine K.pos (by omega) (K.pos (by omega) ?_)
  refine K.fill (fun k xs i => laws_toSatS.l0 k l xs i) (l.map cvSat) (by simpa using hl) ?_ ?_ l.length _ 0 (by omega) (by simp) (by simp) (by intro j hj; omega)
  · intro k xs i hi
    simp only [List.length_map] at hi
    simp only [laws_toSatS.l0]
    rw [if_neg hi]
  · intro k xs i y h0 hi hx hy
    simp only [List.length_map] at hi hx
    simp only [laws_toSatS.l0, laws_toSat.f, Option.bind_some]
    rw [if_pos hi, if_pos h0, if_pos (by omega), K.wr (x := i + 1) (by omega) (by omega)]
    have hg : l[i.toNat]? = some (l[i.toNat]'(by omega)) := List.getElem?_eq_getElem (by omega)
    rw [List.getElem?_map, hg, Option.map_some] at hy
    obtain rfl := Option.some.inj hy
    have hr : rd_T73 l i = l[i.toNat]'(by omega) := by
      simp only [rd_T73, List.getD_eq_getElem?_getD, hg, Option.getD_some]
    rw [hr]
    rfl
theorem szSatS (l : List S73) (left : Int) (h0 : 0 ≤ left) (h1 : left ≤ 1048576) (hm : l.length ≤ 9223372036854775807) : laws_szSatS.f l left = some (if (l.length : Int) ≤ left then left - l.length else -1) := by
  unfold laws_szSatS.f
  rw [K.wr (by omega) (by omega)]
  split <;> split <;> first | rfl | omega


def cvSite (x : S77) : S75 := ⟨x.f0, x.f1, x.f2⟩
theorem toSiteS (l : List S77) (hl : l.length ≤ 1048576) : Ev (fun k => laws_toSiteS.f k l) (l.map cvSite) := by
  unfold laws_toSiteS.f
  refine K.pos (by omega) (K.pos (by omega) ?_)
  refine K.fill (fun k xs i => laws_toSiteS.l0 k l xs i) (l.map cvSite) (by simpa using hl) ?_ ?_ l.length _ 0 (by omega) (by simp) (by simp) (by intro j hj; omega)
  · intro k xs i hi
    simp only [List.length_map] at hi
    simp only [laws_toSiteS.l0]
    rw [if_neg hi]
  · intro k xs i y h0 hi hx hy
    simp only [List.length_map] at hi hx
    simp only [laws_toSiteS.l0, laws_toSite.f, Option.bind_some]
    rw [if_pos hi, if_pos h0, if_pos (by omega), K.wr (x := i + 1) (by omega) (by omega)]
    have hg : l[i.toNat]? = some (l[i.toNat]'(by omega)) := List.getElem?_eq_getElem (by omega)
    rw [List.getElem?_map, hg, Option.map_some] at hy
    obtain rfl := Option.some.inj hy
    have hr : rd_T77 l i = l[i.toNat]'(by omega) := by
      simp only [rd_T77, List.getD_eq_getElem?_getD, hg, Option.getD_some]
    rw [hr]
    rfl
theorem szSiteS (l : List S77) (left : Int) (h0 : 0 ≤ left) (h1 : left ≤ 1048576) (hm : l.length ≤ 9223372036854775807) : laws_szSiteS.f l left = some (if (l.length : Int) ≤ left then left - l.length else -1) := by
  unfold laws_szSiteS.f
  rw [K.wr (by omega) (by omega)]
  split <;> split <;> first | rfl | omega


theorem eqSatS (l : List S71) (hl : l.length ≤ 67108864) : Ev (fun k => laws_eqSatS.f k l l) true := by
  unfold laws_eqSatS.f
  refine K.pos rfl ?_
  refine K.all (n := l.length) (fun k i => laws_eqSatS.l0 k l l i) ?_ ?_ l.length 0 (by omega) (by omega)
  · intro k i hi
    simp only [laws_eqSatS.l0]
    rw [if_neg hi]
  · intro k i h0 hi
    simp only [laws_eqSatS.l0, laws_eqSat.f, ↓reduceIte, Option.bind_some]
    rw [if_pos hi, if_pos h0, if_pos hi, K.wr (x := i + 1) (by omega) (by omega)]


theorem eqSiteS (l : List S75) (hl : l.length ≤ 67108864) : Ev (fun k => laws_eqSiteS.f k l l) true := by
  unfold laws_eqSiteS.f
  refine K.pos rfl ?_
  refine K.all (n := l.length) (fun k i => laws_eqSiteS.l0 k l l i) ?_ ?_ l.length 0 (by omega) (by omega)
  · intro k i hi
    simp only [laws_eqSiteS.l0]
    rw [if_neg hi]
  · intro k i h0 hi
    simp only [laws_eqSiteS.l0, laws_eqSite.f, ↓reduceIte, Option.bind_some]
    rw [if_pos hi, if_pos h0, if_pos hi, K.wr (x := i + 1) (by omega) (by omega)]

def cvZone (x : S85) : S81 := ⟨x.f0, ⟨x.f1.f0, x.f1.f1⟩⟩
theorem toZoneS (l : List S85) (hl : l.length ≤ 1048576) : Ev (fun k => laws_toZoneS.f k l) (l.map cvZone) := by
  unfold laws_toZoneS.f
  refine K.pos (by omega) (K.pos (by omega) ?_)
  refine K.fill (fun k xs i => laws_toZoneS.l0 k l xs i) (l.map cvZone) (by simpa using hl) ?_ ?_ l.length _ 0 (by omega) (by simp) (by simp) (by intro j hj; omega)
  · intro k xs i hi
    simp only [List.length_map] at hi
    simp only [laws_toZoneS.l0]
    rw [if_neg hi]
  · intro k xs i y h0 hi hx hy
    simp only [List.length_map] at hi hx
    simp only [laws_toZoneS.l0, laws_toZone.f, laws_toArc.f, Option.bind_some]
    rw [if_pos hi, if_pos h0, if_pos (by omega), K.wr (x := i + 1) (by omega) (by omega)]
    have hg : l[i.toNat]? = some (l[i.toNat]'(by omega)) := List.getElem?_eq_getElem (by omega)
    rw [List.getElem?_map, hg, Option.map_some] at hy
    obtain rfl := Option.some.inj hy
    have hr : rd_T85 l i = l[i.toNat]'(by omega) := by
      simp only [rd_T85, List.getD_eq_getElem?_getD, hg, Option.getD_some]
    rw [hr]
    rfl
theorem szZoneS (l : List S85) (left : Int) (h0 : 0 ≤ left) (h1 : left ≤ 1048576) (hm : l.length ≤ 9223372036854775807) : laws_szZoneS.f l left = some (if (l.length : Int) ≤ left then left - l.length else -1) := by
  unfold laws_szZoneS.f
  rw [K.wr (by omega) (by omega)]
  split <;> split <;> first | rfl | omega
theorem eqZoneS (l : List S81) (hl : l.length ≤ 67108864) : Ev (fun k => laws_eqZoneS.f k l l) true := by
  unfold laws_eqZoneS.f
  refine K.pos rfl ?_
  refine K.all (n := l.length) (fun k i => laws_eqZoneS.l0 k l l i) ?_ ?_ l.length 0 (by omega) (by omega)
  · intro k i hi
    simp only [laws_eqZoneS.l0]
    rw [if_neg hi]
  · intro k i h0 hi
    simp only [laws_eqZoneS.l0, laws_eqZone.f, laws_eqArc.f, ↓reduceIte, Option.bind_some]
    rw [if_pos hi, if_pos h0, if_pos hi, K.wr (x := i + 1) (by omega) (by omega)]
theorem szSky (pl : Int) (sa : List S73) (si : List S77) (rc cr vw su sh : Int) (zo : List S85) (ac : Int) (h1 : sa.length ≤ 9223372036854775807) (h2 : si.length ≤ 9223372036854775807) (h3 : zo.length ≤ 9223372036854775807) :
    laws_szSky.f pl sa si rc cr vw su sh zo ac 1048576 = some (if (sa.length : Int) + si.length + zo.length ≤ 1048576 then (1048576 : Int) - sa.length - si.length - zo.length else (-1 : Int)) := by
  unfold laws_szSky.f
  rw [szSatS sa 1048576 (by omega) (by omega) h1]
  simp only [Option.bind_some]
  by_cases c1 : (sa.length : Int) ≤ 1048576
  · rw [if_pos c1, if_neg (by omega), szSiteS si _ (by omega) (by omega) h2]
    simp only [Option.bind_some]
    by_cases c2 : (si.length : Int) ≤ 1048576 - sa.length
    · rw [if_pos c2, if_neg (by omega), szZoneS zo _ (by omega) (by omega) h3]
      simp only [Option.bind_some]
      by_cases c3 : (zo.length : Int) ≤ 1048576 - sa.length - si.length
      · rw [if_pos c3, if_neg (by omega), if_pos (by omega)]
      · rw [if_neg c3, if_pos (by omega), if_neg (by omega)]
    · rw [if_neg c2, if_pos (by omega), if_neg (by omega)]
  · rw [if_neg c1, if_pos (by omega), if_neg (by omega)]
theorem toSky (pl : Int) (sa : List S73) (si : List S77) (rc cr vw su sh : Int) (zo : List S85) (ac : Int) (h1 : sa.length ≤ 1048576) (h2 : si.length ≤ 1048576) (h3 : zo.length ≤ 1048576) :
    Ev (fun k => laws_toSky.f k pl sa si rc cr vw su sh zo ac) (pl, sa.map cvSat, si.map cvSite, rc, cr, vw, su, sh, zo.map cvZone, ac) := by
  unfold laws_toSky.f
  exact Ev.bind (toSatS sa h1) (Ev.bind (toSiteS si h2) (Ev.bind (toZoneS zo h3) (Ev.now _)))
theorem eqSky (pl : Int) (sa : List S71) (si : List S75) (rc cr vw su sh : Int) (zo : List S81) (ac : Int) (h1 : sa.length ≤ 1048576) (h2 : si.length ≤ 1048576) (h3 : zo.length ≤ 1048576) : Ev (fun k => laws_eqSky.f k pl sa si rc cr vw su sh zo ac pl sa si rc cr vw su sh zo ac) true := by
  unfold laws_eqSky.f
  exact K.pos rfl (Ev.bind (eqSatS sa (by omega)) (K.pos rfl (Ev.bind (eqSiteS si (by omega)) (K.pos rfl (K.pos rfl (K.pos rfl (K.pos rfl (K.pos rfl (K.pos rfl (Ev.bind (eqZoneS zo (by omega)) (K.pos rfl (K.pos rfl (Ev.now _)))))))))))))

theorem rd_Sat_of {l : List S71} {i : Int} {x : S71} (h : l[i.toNat]? = some x) : rd_T71 l i = x := by
  simp only [rd_T71, List.getD_eq_getElem?_getD, h, Option.getD_some]
theorem rd_Sat_set {l : List S71} {i : Int} {x : S71} (h : i.toNat < l.length) : rd_T71 (l.set i.toNat x) i = x :=
  rd_Sat_of (List.getElem?_set_self h)


theorem laySatS (l : List S71) (c : Int) (hl : l.length ≤ 67108864) (hc0 : 0 ≤ c) (hc1 : c ≤ 1099511627776) : ∃ m ys, c ≤ m ∧ m ≤ c + 16 * l.length ∧ Ev (fun k => laws_markSatS.f k l c) (m, ys) := by
  unfold laws_markSatS.f
  refine Exists.elim (K.lay (fun k xs c i => laws_markSatS.l0 k xs c i) l.length 4 (fun c _ => (⟨c, c + 1, c + 2, c + 3⟩ : S71)) (by omega) (by omega)
    ?_ ?_ l.length l c 0 (by omega) (by omega) rfl (by omega) (by omega)) (fun m h => h.elim fun ys h => ⟨m, ys, h.1, h.2.1, h.2.2.2⟩)
  · intro k xs c i hi hx
    simp only [laws_markSatS.l0]
    rw [if_neg (by omega)]
  · intro k xs c i x h0 hi hx hc0 hc1 hxi
    have hlt : i.toNat < xs.length := by omega
    simp only [laws_markSatS.l0, Option.bind_some]
    rw [if_pos (by omega), if_pos h0]
    rw [K.wr (x := c + 1) (by omega) (by omega)]
    rw [K.wr (x := c + 1 + 1) (by omega) (by omega), show c + 1 + 1 = c + 2 by omega]
    rw [K.wr (x := c + 2 + 1) (by omega) (by omega), show c + 2 + 1 = c + 3 by omega]
    rw [K.wr (x := c + 3 + 1) (by omega) (by omega), show c + 3 + 1 = c + 4 by omega]
    simp only [rd_Sat_set, List.length_set, hlt, List.set_set]
    rw [K.wr (x := i + 1) (by omega) (by omega)]


theorem rd_Site_of {l : List S75} {i : Int} {x : S75} (h : l[i.toNat]? = some x) : rd_T75 l i = x := by
  simp only [rd_T75, List.getD_eq_getElem?_getD, h, Option.getD_some]
theorem rd_Site_set {l : List S75} {i : Int} {x : S75} (h : i.toNat < l.length) : rd_T75 (l.set i.toNat x) i = x :=
  rd_Site_of (List.getElem?_set_self h)


theorem laySiteS (l : List S75) (c : Int) (hl : l.length ≤ 67108864) (hc0 : 0 ≤ c) (hc1 : c ≤ 1099511627776) : ∃ m ys, c ≤ m ∧ m ≤ c + 16 * l.length ∧ Ev (fun k => laws_markSiteS.f k l c) (m, ys) := by
  unfold laws_markSiteS.f
  refine Exists.elim (K.lay (fun k xs c i => laws_markSiteS.l0 k xs c i) l.length 3 (fun c _ => (⟨c, c + 1, c + 2⟩ : S75)) (by omega) (by omega)
    ?_ ?_ l.length l c 0 (by omega) (by omega) rfl (by omega) (by omega)) (fun m h => h.elim fun ys h => ⟨m, ys, h.1, h.2.1, h.2.2.2⟩)
  · intro k xs c i hi hx
    simp only [laws_markSiteS.l0]
    rw [if_neg (by omega)]
  · intro k xs c i x h0 hi hx hc0 hc1 hxi
    have hlt : i.toNat < xs.length := by omega
    simp only [laws_markSiteS.l0, Option.bind_some]
    rw [if_pos (by omega), if_pos h0]
    rw [K.wr (x := c + 1) (by omega) (by omega)]
    rw [K.wr (x := c + 1 + 1) (by omega) (by omega), show c + 1 + 1 = c + 2 by omega]
    rw [K.wr (x := c + 2 + 1) (by omega) (by omega), show c + 2 + 1 = c + 3 by omega]
    simp only [rd_Site_set, List.length_set, hlt, List.set_set]
    rw [K.wr (x := i + 1) (by omega) (by omega)]


theorem rd_Zone_of {l : List S81} {i : Int} {x : S81} (h : l[i.toNat]? = some x) : rd_T81 l i = x := by
  simp only [rd_T81, List.getD_eq_getElem?_getD, h, Option.getD_some]
theorem rd_Zone_set {l : List S81} {i : Int} {x : S81} (h : i.toNat < l.length) : rd_T81 (l.set i.toNat x) i = x :=
  rd_Zone_of (List.getElem?_set_self h)

theorem layZoneS (l : List S81) (c : Int) (hl : l.length ≤ 67108864) (hc0 : 0 ≤ c) (hc1 : c ≤ 1099511627776) : ∃ m ys, c ≤ m ∧ m ≤ c + 16 * l.length ∧ Ev (fun k => laws_markZoneS.f k l c) (m, ys) := by
  unfold laws_markZoneS.f
  refine Exists.elim (K.lay (fun k xs c i => laws_markZoneS.l0 k xs c i) l.length 3 (fun c _ => (⟨c, ⟨c + 1, c + 2⟩⟩ : S81)) (by omega) (by omega)
    ?_ ?_ l.length l c 0 (by omega) (by omega) rfl (by omega) (by omega)) (fun m h => h.elim fun ys h => ⟨m, ys, h.1, h.2.1, h.2.2.2⟩)
  · intro k xs c i hi hx
    simp only [laws_markZoneS.l0]
    rw [if_neg (by omega)]
  · intro k xs c i x h0 hi hx hc0 hc1 hxi
    have hlt : i.toNat < xs.length := by omega
    simp only [laws_markZoneS.l0, Option.bind_some]
    rw [if_pos (by omega), if_pos h0]
    rw [K.wr (x := c + 1) (by omega) (by omega)]
    rw [K.wr (x := c + 1 + 1) (by omega) (by omega), show c + 1 + 1 = c + 2 by omega]
    rw [K.wr (x := c + 2 + 1) (by omega) (by omega), show c + 2 + 1 = c + 3 by omega]
    simp only [rd_Zone_set, List.length_set, hlt, List.set_set]
    rw [K.wr (x := i + 1) (by omega) (by omega)]
theorem markSky (pl : Int) (sa : List S71) (si : List S75) (rc cr vw su sh : Int) (zo : List S81) (ac : Int) (h1 : sa.length ≤ 1048576) (h2 : si.length ≤ 1048576) (h3 : zo.length ≤ 1048576) :
    ∃ m y1 y2 y3, 0 ≤ m ∧ Ev (fun k => laws_markSky.f k pl sa si rc cr vw su sh zo ac 1) (m, y1, y2, y3) := by
  obtain ⟨m1, y1, a1, b1, g1⟩ := laySatS sa 1 (by omega) (by omega) (by omega)
  obtain ⟨m2, y2, a2, b2, g2⟩ := laySiteS si m1 (by omega) (by omega) (by omega)
  obtain ⟨m3, y3, a3, b3, g3⟩ := layZoneS zo m2 (by omega) (by omega) (by omega)
  refine ⟨m3, y1, y2, y3, by omega, ?_⟩
  unfold laws_markSky.f
  exact Ev.bind g1 (Ev.bind g2 (Ev.bind g3 (Ev.now _)))

theorem eqSpanS (l : List S51) (hl : l.length ≤ 67108864) : Ev (fun k => laws_eqSpanS.f k l l) true := by
  unfold laws_eqSpanS.f
  refine K.pos rfl ?_
  refine K.all (n := l.length) (fun k i => laws_eqSpanS.l0 k l l i) ?_ ?_ l.length 0 (by omega) (by omega)
  · intro k i hi
    simp only [laws_eqSpanS.l0]
    rw [if_neg hi]
  · intro k i h0 hi
    simp only [laws_eqSpanS.l0, laws_eqSpan.f, ↓reduceIte, Option.bind_some]
    rw [if_pos hi, if_pos h0, if_pos hi, K.wr (x := i + 1) (by omega) (by omega)]


theorem rd_Span_of {l : List S51} {i : Int} {x : S51} (h : l[i.toNat]? = some x) : rd_T51 l i = x := by
  simp only [rd_T51, List.getD_eq_getElem?_getD, h, Option.getD_some]
theorem rd_Span_set {l : List S51} {i : Int} {x : S51} (h : i.toNat < l.length) : rd_T51 (l.set i.toNat x) i = x :=
  rd_Span_of (List.getElem?_set_self h)


theorem markSpanS (l : List S51) (hl : l.length ≤ 67108864) : ∃ m ys, 1 ≤ m ∧ Ev (fun k => laws_markSpanS.f k l 1) (m, ys) ∧ Ev (fun k => laws_heldSpanS.f k ys 1) m := by
  unfold laws_markSpanS.f laws_heldSpanS.f
  refine Exists.elim (K.marks (fun k xs c i => laws_markSpanS.l0 k xs c i) (fun k xs c i => laws_heldSpanS.l0 k xs c i) l.length 2 (fun c _ => (⟨c, c + 1⟩ : S51)) (by omega) (by omega) hl
    ?_ ?_ ?_ ?_ l.length l 1 0 (by omega) (by omega) rfl (by omega) (by omega)) (fun m h => h.elim fun ys h => ⟨m, ys, h.1, h.2.2.2.2.1, h.2.2.2.2.2⟩)
  · intro k xs c i hi hx
    simp only [laws_markSpanS.l0]
    rw [if_neg (by omega)]
  · intro k xs c i x h0 hi hx hc0 hc1 hxi
    have hlt : i.toNat < xs.length := by omega
    simp only [laws_markSpanS.l0, Option.bind_some]
    rw [if_pos (by omega), if_pos h0]
    rw [K.wr (x := c + 1) (by omega) (by omega)]
    rw [K.wr (x := c + 1 + 1) (by omega) (by omega), show c + 1 + 1 = c + 2 by omega]
    simp only [rd_Span_set, List.length_set, hlt, List.set_set]
    rw [K.wr (x := i + 1) (by omega) (by omega)]
  · intro k xs c i hi hx
    simp only [laws_heldSpanS.l0]
    rw [if_neg (by omega)]
  · intro k xs c i x h0 hi hx hc0 hc1 hxi
    simp only [laws_heldSpanS.l0]
    rw [if_pos (by omega), if_pos h0, rd_Span_of hxi]
    rw [K.wr (x := c + 1) (by omega) (by omega)]
    rw [K.wr (x := c + 1 + 1) (by omega) (by omega), show c + 1 + 1 = c + 2 by omega]
    simp only [↓reduceIte]
    rw [K.wr (x := i + 1) (by omega) (by omega)]

theorem l1In (a b c : Int) : spec_l1In.f a b c = some (decide (b ≤ a ∧ a ≤ c)) := by
  unfold spec_l1In.f
  split <;> (try split) <;> first | rfl | (congr 1; exact decide_eq_decide.2 (by omega)) | (congr 1; exact (decide_eq_false (by omega)).symm)
theorem InRange (a b c : Int) : impl_InRange.f a b c = some (decide (b ≤ a ∧ a ≤ c)) := by
  unfold impl_InRange.f
  split <;> (try split) <;> first | rfl | (congr 1; exact decide_eq_decide.2 (by omega)) | (congr 1; exact (decide_eq_false (by omega)).symm)
theorem sIsSite (pl : Int) (sa : List S71) (si : List S75) (rc cr vw su sh : Int) (zo : List S81) (ac : Int) (hn : (sa.length : Int) + si.length ≤ 4194304) (i : Int) : spec_IsSite.f pl sa si rc cr vw su sh zo ac i = some (decide ((sa.length : Int) ≤ i ∧ i < (sa.length : Int) + si.length)) := by
  unfold spec_IsSite.f spec_NodesOf.f
  simp only [Option.bind_some, l1In]
  rw [K.wr (x := (sa.length : Int) + si.length) (by omega) (by omega), K.wr (by omega) (by omega)]
  congr 1
  exact decide_eq_decide.2 (by omega)
theorem iIsSite (pl : Int) (sa : List S71) (si : List S75) (rc cr vw su sh : Int) (zo : List S81) (ac : Int) (hn : (sa.length : Int) + si.length ≤ 4194304) (i : Int) : impl_IsSite.f pl sa si rc cr vw su sh zo ac i = some (decide ((sa.length : Int) ≤ i ∧ i < (sa.length : Int) + si.length)) := by
  unfold impl_IsSite.f impl_NodesOf.f
  simp only [Option.bind_some, InRange]
  rw [K.wr (x := (sa.length : Int) + si.length) (by omega) (by omega), K.wr (by omega) (by omega)]
  congr 1
  exact decide_eq_decide.2 (by omega)
theorem iIsSat (pl : Int) (sa : List S71) (si : List S75) (rc cr vw su sh : Int) (zo : List S81) (ac : Int) (hn : (sa.length : Int) + si.length ≤ 4194304) (i : Int) : impl_isSatellite.f pl sa si rc cr vw su sh zo ac i = some (decide (0 ≤ i ∧ i < (sa.length : Int))) := by
  unfold impl_isSatellite.f
  simp only [Option.bind_some, InRange]
  rw [K.wr (by omega) (by omega)]
  congr 1
  exact decide_eq_decide.2 (by omega)
theorem sIsSat (sa : List S71) (hn : (sa.length : Int) ≤ 4194304) (i : Int) : spec_l1In.f i 0 (wrap64 ((sa.length : Int) - 1)) = some (decide (0 ≤ i ∧ i < (sa.length : Int))) := by
  rw [l1In, K.wr (by omega) (by omega)]
  congr 1
  exact decide_eq_decide.2 (by omega)
theorem sAngle (n : Int) : spec_AngleOf.f n = some (n % 360) := by
  unfold spec_AngleOf.f spec_Mod.f
  have e : decide ((1 : Int) ≤ 360 ∧ (360 : Int) ≤ 1000000000000) = true := by decide
  simp only [l1In, e, Option.bind_some, ↓reduceIte]
  rw [if_neg (by omega)]
  have h := Int.tmod_eq_emod (a := n) (b := 360)
  have hb : -360 < Int.tmod n 360 ∧ Int.tmod n 360 < 360 := by
    rw [h]
    split <;> omega
  rw [K.wr (by omega) (by omega), Int.tmod_eq_emod_of_nonneg (by omega)]
  simp only [Option.bind_some]
  congr 1
  rw [h]
  split <;> omega
theorem iAngle (n : Int) : impl_AngleOf.f n = some (n % 360) := by
  unfold impl_AngleOf.f impl_Mod.f
  have e : decide ((1 : Int) ≤ 360 ∧ (360 : Int) ≤ 1000000000000) = true := by decide
  simp only [InRange, e, Option.bind_some, ↓reduceIte]
  rw [if_neg (by omega)]
  have h := Int.tmod_eq_emod (a := n) (b := 360)
  have hb : -360 < Int.tmod n 360 ∧ Int.tmod n 360 < 360 := by
    rw [h]
    split <;> omega
  have hd : (360 : Int) ∣ n → Int.tmod n 360 = n % 360 := by
    intro hd
    rw [h, if_pos (Or.inr hd)]
    simp
  by_cases c : Int.tmod n 360 < 0
  · rw [if_pos c, K.wr (by omega) (by omega)]
    simp only [Option.bind_some]
    congr 1
    rw [h] at c ⊢
    split at c <;> split <;> omega
  · rw [if_neg c]
    simp only [Option.bind_some]
    congr 1
    rw [h] at c ⊢
    split at c <;> split <;> omega
def placeV (ph sp t : Int) : Int := (ph % 360 + (if -60 ≤ sp ∧ sp ≤ 60 then sp else 0) * (if 0 ≤ t ∧ t ≤ 1000 then t else 0)) % 360
theorem place_bd (s t : Int) (hs : -60 ≤ s ∧ s ≤ 60) (ht : 0 ≤ t ∧ t ≤ 1000) : -60000 ≤ s * t ∧ s * t ≤ 60000 := by
  have h1 : s * t ≤ 60 * t := Int.mul_le_mul_of_nonneg_right hs.2 ht.1
  have h2 : -60 * t ≤ s * t := Int.mul_le_mul_of_nonneg_right hs.1 ht.1
  omega
theorem sPlace (a ph sp e t : Int) : spec_PlaceAt.f a ph sp e t = some (placeV ph sp t) := by
  unfold spec_PlaceAt.f placeV spec_l6Speed.f
  simp only [l1In, sAngle, Option.bind_some, decide_eq_true_eq]
  by_cases ct : 0 ≤ t ∧ t ≤ 1000
  · rw [if_pos ct]
    by_cases cs : -60 ≤ sp ∧ sp ≤ 60
    · have := place_bd sp t cs ct
      rw [if_pos cs]
      simp only [Option.bind_some, if_pos ct, if_pos cs]
      rw [K.wr (x := sp * t) (by omega) (by omega), K.wr (by omega) (by omega)]
    · rw [if_neg cs]
      simp only [Option.bind_some, if_pos ct, if_neg cs]
      rw [K.wr (x := 0 * t) (by omega) (by omega), K.wr (by omega) (by omega)]
  · rw [if_neg ct]
    by_cases cs : -60 ≤ sp ∧ sp ≤ 60
    · rw [if_pos cs]
      simp only [Option.bind_some, if_neg ct]
      rw [K.wr (by omega) (by omega), Int.mul_zero, Int.add_zero]
    · rw [if_neg cs]
      simp only [Option.bind_some, if_neg ct]
      rw [K.wr (by omega) (by omega), Int.mul_zero, Int.add_zero]
theorem iPlace (a ph sp e t : Int) : impl_PlaceAt.f a ph sp e t = some (placeV ph sp t) := by
  unfold impl_PlaceAt.f placeV impl_speedOf.f
  simp only [InRange, iAngle, Option.bind_some, decide_eq_true_eq]
  by_cases ct : 0 ≤ t ∧ t ≤ 1000
  · rw [if_pos ct]
    by_cases cs : -60 ≤ sp ∧ sp ≤ 60
    · have := place_bd sp t cs ct
      rw [if_pos cs]
      simp only [Option.bind_some, if_pos ct, if_pos cs]
      rw [K.wr (x := sp * t) (by omega) (by omega), K.wr (by omega) (by omega)]
    · rw [if_neg cs]
      simp only [Option.bind_some, if_pos ct, if_neg cs]
      rw [K.wr (x := 0 * t) (by omega) (by omega), K.wr (by omega) (by omega)]
  · rw [if_neg ct]
    by_cases cs : -60 ≤ sp ∧ sp ≤ 60
    · rw [if_pos cs]
      simp only [Option.bind_some, if_neg ct]
      rw [K.wr (by omega) (by omega), Int.mul_zero, Int.add_zero]
    · rw [if_neg cs]
      simp only [Option.bind_some, if_neg ct]
      rw [K.wr (by omega) (by omega), Int.mul_zero, Int.add_zero]
theorem place_range (ph sp t : Int) : 0 ≤ placeV ph sp t ∧ placeV ph sp t < 360 := by unfold placeV; omega
theorem sMin (a b : Int) : spec_Min.f a b = some (mn a b) := by
  unfold spec_Min.f mn
  split <;> rfl
theorem iWidth (n : Int) : impl_isWidth.f n = some (decide (0 ≤ n ∧ n ≤ 359)) := by
  unfold impl_isWidth.f
  simp only [InRange, Option.bind_some]
/-- The arc about a place, as wide as an error says: its start and its width. -/
def widS (p e : Int) : Int := if 0 ≤ e ∧ e ≤ 360 then (p % 360 - e) % 360 else p % 360
def widW (e : Int) : Int := if 0 ≤ e ∧ e ≤ 360 then mn (2 * e) 359 else 0
theorem sWiden (p e : Int) : Ev (fun k => spec_WidenArc.f k p 0 e) (widS p e, widW e) := by
  unfold spec_WidenArc.f widS widW
  have e0 : decide ((0 : Int) ≤ 0 ∧ (0 : Int) ≤ 359) = true := by decide
  simp only [l1In, e0, Option.bind_some, decide_eq_true_eq]
  by_cases c : 0 ≤ e ∧ e ≤ 360
  · rw [if_pos c, if_pos c]
    refine K.pos c (K.succ ?_)
    simp only [spec_WidenArc.j0, sAngle, sMin, Option.bind_some]
    refine K.neg (by decide) ?_
    rw [K.wr (x := p % 360 - e) (by omega) (by omega), K.wr (x := 2 * e) (by omega) (by omega), Int.zero_add, K.wr (x := 2 * e) (by omega) (by omega)]
    have hm : mn 359 (2 * e) = mn (2 * e) 359 := by unfold mn; split <;> split <;> omega
    rw [hm]
    exact Ev.now _
  · rw [if_neg c, if_neg c]
    refine K.neg c (K.succ ?_)
    simp only [spec_WidenArc.j0, sAngle, Option.bind_some]
    exact K.pos (by trivial) (Ev.now _)
theorem iWiden (p e : Int) : impl_WidenArc.f p 0 e = some (widS p e, widW e) := by
  unfold impl_WidenArc.f widS widW
  have e0 : decide ((0 : Int) ≤ 0 ∧ (0 : Int) ≤ 359) = true := by decide
  simp only [InRange, iWidth, iAngle, e0, Option.bind_some, decide_eq_true_eq, ↓reduceIte]
  by_cases c : 0 ≤ e ∧ e ≤ 360
  · rw [if_pos c, if_pos c, if_pos c, K.wr (x := p % 360 - e) (by omega) (by omega), K.wr (x := 2 * e) (by omega) (by omega), Int.zero_add, K.wr (x := 2 * e) (by omega) (by omega)]
  · rw [if_neg c, if_neg c, if_neg c]
theorem wid_range (p e : Int) : 0 ≤ widS p e ∧ widS p e < 360 ∧ 0 ≤ widW e ∧ widW e ≤ 359 := by
  unfold widS widW mn
  split <;> (try split) <;> omega
def nodeS (sa : List S71) (si : List S75) (i t : Int) : Int :=
  if 0 ≤ i ∧ i < (sa.length : Int) then widS (placeV (rd_T71 sa i).f1 (rd_T71 sa i).f2 t) (rd_T71 sa i).f3 else if (sa.length : Int) ≤ i ∧ i < (sa.length : Int) + si.length then placeV (rd_T75 si (i - sa.length)).f1 (rd_T75 si (i - sa.length)).f2 t else 0
def nodeW (sa : List S71) (i : Int) : Int :=
  if 0 ≤ i ∧ i < (sa.length : Int) then widW (rd_T71 sa i).f3 else 0
theorem sNode (pl : Int) (sa : List S71) (si : List S75) (rc cr vw su sh : Int) (zo : List S81) (ac : Int) (hn : (sa.length : Int) + si.length ≤ 4194304) (i t : Int) : Ev (fun k => spec_NodeAt.f k pl sa si rc cr vw su sh zo ac i t) (nodeS sa si i t, nodeW sa i) := by
  unfold spec_NodeAt.f nodeS nodeW
  simp only [sIsSat sa (by omega), sIsSite _ _ _ _ _ _ _ _ _ _ hn, Option.bind_some, decide_eq_true_eq]
  by_cases c : 0 ≤ i ∧ i < (sa.length : Int)
  · rw [if_pos c, if_pos c]
    refine K.pos c (K.pos c.1 (K.pos c.2 ?_))
    unfold spec_PlacesAt.f
    simp only [sPlace, Option.bind_some]
    exact Ev.bind (Ev.bind (sWiden _ _) (Ev.now _)) (Ev.now _)
  · rw [if_neg c, if_neg c]
    refine K.neg c ?_
    by_cases c2 : (sa.length : Int) ≤ i ∧ i < (sa.length : Int) + si.length
    · simp only [if_pos c2, sPlace, Option.bind_some]
      rw [K.wr (x := i - sa.length) (by omega) (by omega), if_pos (by omega), if_pos (by omega)]
      exact Ev.now _
    · simp only [if_neg c2]
      exact Ev.now _
theorem iNode (pl : Int) (sa : List S71) (si : List S75) (rc cr vw su sh : Int) (zo : List S81) (ac : Int) (hn : (sa.length : Int) + si.length ≤ 4194304) (i t : Int) : impl_NodeAt.f pl sa si rc cr vw su sh zo ac i t = some (nodeS sa si i t, nodeW sa i) := by
  unfold impl_NodeAt.f nodeS nodeW impl_PlacesAt.f
  simp only [iIsSat _ _ _ _ _ _ _ _ _ _ hn, iIsSite _ _ _ _ _ _ _ _ _ _ hn, iPlace, iWiden, Option.bind_some, decide_eq_true_eq]
  by_cases c : 0 ≤ i ∧ i < (sa.length : Int)
  · rw [if_pos c, if_pos c, if_pos c.1, if_pos c.2, if_pos c]
  · rw [if_neg c, if_neg c, if_neg c]
    by_cases c2 : (sa.length : Int) ≤ i ∧ i < (sa.length : Int) + si.length
    · rw [if_pos c2, if_pos c2, K.wr (x := i - sa.length) (by omega) (by omega), if_pos (by omega), if_pos (by omega)]
    · rw [if_neg c2, if_neg c2]
theorem node_range (sa : List S71) (si : List S75) (i t : Int) : 0 ≤ nodeS sa si i t ∧ nodeS sa si i t < 360 ∧ 0 ≤ nodeW sa i ∧ nodeW sa i ≤ 359 := by
  have h1 := wid_range (placeV (rd_T71 sa i).f1 (rd_T71 sa i).f2 t) (rd_T71 sa i).f3
  have h2 := place_range (rd_T75 si (i - sa.length)).f1 (rd_T75 si (i - sa.length)).f2 t
  unfold nodeS nodeW
  split
  · exact h1
  · split <;> omega
def inArc (s w a : Int) : Prop := (a % 360 - s % 360) % 360 ≤ w
instance (s w a : Int) : Decidable (inArc s w a) := by
  unfold inArc
  infer_instance
theorem sInArc (s w a : Int) : spec_InArc.f s w a = some (decide (inArc s w a)) := by
  unfold spec_InArc.f inArc
  simp only [sAngle, Option.bind_some]
  rw [K.wr (x := a % 360 - s % 360) (by omega) (by omega)]
  by_cases c : w ≥ 0
  · rw [if_pos c]
  · rw [if_neg c]
    congr 1
    exact (decide_eq_false (by omega)).symm
theorem iInArc (s w a : Int) : impl_InArc.f s w a = some (decide (inArc s w a)) := by
  unfold impl_InArc.f inArc
  simp only [iAngle, Option.bind_some]
  rw [K.wr (x := a % 360 - s % 360) (by omega) (by omega)]
def meetV (s w s2 w2 : Int) : Prop := w ≥ 0 ∧ w2 ≥ 0 ∧ (inArc s w s2 ∨ inArc s2 w2 s)
instance (s w s2 w2 : Int) : Decidable (meetV s w s2 w2) := by
  unfold meetV
  infer_instance
theorem sMeet (s w s2 w2 : Int) : spec_ArcsMeet.f s w s2 w2 = some (decide (meetV s w s2 w2)) := by
  unfold spec_ArcsMeet.f meetV
  simp only [sInArc, Option.bind_some, decide_eq_true_eq]
  by_cases c : w ≥ 0
  · rw [if_pos c]
    by_cases c2 : w2 ≥ 0
    · rw [if_pos c2]
      by_cases c3 : inArc s w s2
      · rw [if_pos c3]
        congr 1
        exact (decide_eq_true ⟨c, c2, Or.inl c3⟩).symm
      · rw [if_neg c3]
        congr 1
        exact decide_eq_decide.2 ⟨fun h => ⟨c, c2, Or.inr h⟩, fun h => h.2.2.resolve_left c3⟩
    · rw [if_neg c2]
      congr 1
      exact (decide_eq_false (fun h => c2 h.2.1)).symm
  · rw [if_neg c]
    congr 1
    exact (decide_eq_false (fun h => c h.1)).symm
theorem meet_iff (s w s2 w2 : Int) : (∃ j : Int, 0 ≤ j ∧ j < ((360 : Nat) : Int) ∧ (inArc s w j ∧ inArc s2 w2 j)) ↔ meetV s w s2 w2 := by
  unfold meetV inArc
  constructor
  · rintro ⟨j, h0, h1, h2, h3⟩
    refine ⟨by omega, by omega, ?_⟩
    by_cases c : (j % 360 - s % 360) % 360 ≥ (j % 360 - s2 % 360) % 360
    · exact Or.inl (by omega)
    · exact Or.inr (by omega)
  · rintro ⟨h0, h1, h | h⟩
    · exact ⟨s2 % 360, by omega, by omega, by omega, by omega⟩
    · exact ⟨s % 360, by omega, by omega, by omega, by omega⟩
theorem iMeet (s w s2 w2 : Int) : Ev (fun k => impl_ArcsMeet.f k s w s2 w2) (decide (meetV s w s2 w2)) := by
  unfold impl_ArcsMeet.f
  have key := K.anys (n := 360) (fun k i => impl_ArcsMeet.l0 k i s w s2 w2) (fun _ => some false) (fun j => inArc s w j ∧ inArc s2 w2 j) (by
    intro k i hi
    simp only [impl_ArcsMeet.l0]
    rw [if_neg (show ¬ i < 360 by omega)]) (by
    intro k i i0 hi ho
    simp only [impl_ArcsMeet.l0, iInArc, Option.bind_some, decide_eq_true_eq]
    rw [if_pos (show i < 360 by omega), if_pos ho.1, if_pos ho.2]) (by
    intro k i i0 hi ho
    simp only [impl_ArcsMeet.l0, iInArc, Option.bind_some, decide_eq_true_eq]
    rw [if_pos (show i < 360 by omega), K.wr (x := i + 1) (by omega) (by omega)]
    by_cases c : inArc s w i
    · rw [if_pos c, if_neg (fun h => ho ⟨c, h⟩)]
    · rw [if_neg c]) 360 0 (by omega) (by omega)
  by_cases c : meetV s w s2 w2
  · rw [decide_eq_true c]
    exact key.1 ((meet_iff s w s2 w2).2 c)
  · rw [decide_eq_false c]
    exact key.2 (fun h => c ((meet_iff s w s2 w2).1 h)) false (Ev.now _)
theorem disturb (pl : Int) (sa : List S71) (si : List S75) (rc cr vw su sh : Int) (zo : List S81) (ac : Int) (hn : (sa.length : Int) + si.length ≤ 4194304) (hz : zo.length ≤ 1048576) (i t : Int) :
    ∃ b : Bool, Ev (fun k => spec_MayDisturb.f k pl sa si rc cr vw su sh zo ac i t) b ∧ Ev (fun k => impl_MayDisturb.f k pl sa si rc cr vw su sh zo ac i t) b ∧ (¬ (0 ≤ i ∧ i < (sa.length : Int)) → b = false) := by
  unfold spec_MayDisturb.f impl_MayDisturb.f
  simp only [sIsSat sa (by omega), iIsSat _ _ _ _ _ _ _ _ _ _ hn, Option.bind_some, decide_eq_true_eq]
  by_cases c : 0 ≤ i ∧ i < (sa.length : Int)
  · rw [iNode _ _ _ _ _ _ _ _ _ _ hn]
    simp only [Option.bind_some]
    have loop : ∀ (d : Nat) (j : Int), 0 ≤ j → (zo.length : Int) - j = d → ∃ b : Bool, Ev (fun k => spec_MayDisturb.l0 k i t j pl sa si rc cr vw su sh zo ac) b ∧ Ev (fun k => impl_MayDisturb.l0 k i zo (zo.length : Int) j pl sa si rc cr vw su sh zo ac (nodeS sa si i t) (nodeW sa i)) b := by
      intro d
      induction d with
      | zero =>
        intro j h0 hd
        refine ⟨false, K.succ ?_, K.succ ?_⟩
        · simp only [spec_MayDisturb.l0]
          exact K.neg (by omega) (Ev.now _)
        · simp only [impl_MayDisturb.l0]
          exact K.neg (by omega) (Ev.now _)
      | succ d ih =>
        intro j h0 hd
        have w1 : wrap64 (j + 1) = j + 1 := K.wr (by omega) (by omega)
        obtain ⟨b, g1, g2⟩ := ih (j + 1) (by omega) (by omega)
        by_cases c2 : (rd_T81 zo j).f0 = (rd_T71 sa i).f0
        · by_cases c3 : meetV (nodeS sa si i t) (nodeW sa i) (rd_T81 zo j).f1.f0 (rd_T81 zo j).f1.f1
          · have e := iMeet (nodeS sa si i t) (nodeW sa i) (rd_T81 zo j).f1.f0 (rd_T81 zo j).f1.f1
            rw [decide_eq_true c3] at e
            refine ⟨true, K.succ ?_, K.succ ?_⟩
            · simp only [spec_MayDisturb.l0, sMeet, Option.bind_some]
              refine K.pos (by omega) (K.pos h0 (K.pos c.1 (K.pos c.2 (K.pos c2 (Ev.bind (sNode _ _ _ _ _ _ _ _ _ _ hn i t) ?_)))))
              exact K.pos (decide_eq_true c3) (Ev.now _)
            · simp only [impl_MayDisturb.l0]
              exact K.pos (by omega) (K.pos h0 (K.pos (by omega) (K.pos c.1 (K.pos c.2 (K.pos c2 (Ev.bind e (K.pos rfl (Ev.now _))))))))
          · have e := iMeet (nodeS sa si i t) (nodeW sa i) (rd_T81 zo j).f1.f0 (rd_T81 zo j).f1.f1
            rw [decide_eq_false c3] at e
            refine ⟨b, K.succ ?_, K.succ ?_⟩
            · simp only [spec_MayDisturb.l0, sMeet, Option.bind_some, w1]
              refine K.pos (by omega) (K.pos h0 (K.pos c.1 (K.pos c.2 (K.pos c2 (Ev.bind (sNode _ _ _ _ _ _ _ _ _ _ hn i t) ?_)))))
              exact K.neg (fun h => c3 (of_decide_eq_true h)) g1
            · simp only [impl_MayDisturb.l0, w1]
              exact K.pos (by omega) (K.pos h0 (K.pos (by omega) (K.pos c.1 (K.pos c.2 (K.pos c2 (Ev.bind e (K.neg Bool.false_ne_true g2)))))))
        · refine ⟨b, K.succ ?_, K.succ ?_⟩
          · simp only [spec_MayDisturb.l0, w1]
            exact K.pos (by omega) (K.pos h0 (K.pos c.1 (K.pos c.2 (K.neg c2 g1))))
          · simp only [impl_MayDisturb.l0, w1]
            exact K.pos (by omega) (K.pos h0 (K.pos (by omega) (K.pos c.1 (K.pos c.2 (K.neg c2 g2)))))
    obtain ⟨b, g1, g2⟩ := loop zo.length 0 (by omega) (by omega)
    exact ⟨b, K.pos c g1, K.pos c g2, fun h => absurd c h⟩
  · exact ⟨false, K.neg c (Ev.now _), K.neg c (Ev.now _), fun _ => rfl⟩

def put (o : List S51) (t : Int) : List S51 :=
  if (o.length : Int) > 0 then (if (rd_T51 o ((o.length : Int) - 1)).f1 = t then o.set ((o.length : Int) - 1).toNat ⟨(rd_T51 o ((o.length : Int) - 1)).f0, t + 1⟩ else o ++ [⟨t, t + 1⟩]) else o ++ [⟨t, t + 1⟩]
theorem put_len (o : List S51) (t : Int) : (put o t).length ≤ o.length + 1 := by
  unfold put
  (repeat' split) <;> simp
def run (p : Int → Bool) (o : List S51) (t : Int) : Nat → List S51
  | 0 => o
  | d + 1 => run p (if p t = true then put o t else o) (t + 1) d
theorem run_add (p : Int → Bool) : ∀ (d e : Nat) (o : List S51) (t : Int), run p o t (d + e) = run p (run p o t d) (t + d) e := by
  intro d
  induction d with
  | zero =>
    intro e o t
    simp [run]
  | succ d ih =>
    intro e o t
    rw [show d + 1 + e = (d + e) + 1 by omega]
    simp only [run]
    rw [ih]
    congr 1
    omega
theorem run_none (p : Int → Bool) : ∀ (d : Nat) (o : List S51) (t : Int), (∀ u, t ≤ u → p u = false) → run p o t d = o := by
  intro d
  induction d with
  | zero =>
    intro o t h
    rfl
  | succ d ih =>
    intro o t h
    simp only [run, h t (by omega), Bool.false_eq_true, if_false]
    exact ih o (t + 1) (fun u hu => h u (by omega))
theorem run_len (p : Int → Bool) : ∀ (d : Nat) (o : List S51) (t : Int), (run p o t d).length ≤ o.length + d := by
  intro d
  induction d with
  | zero =>
    intro o t
    simp [run]
  | succ d ih =>
    intro o t
    simp only [run]
    refine Nat.le_trans (ih _ _) ?_
    have := put_len o t
    split <;> omega
theorem run_eq (p q : Int → Bool) : ∀ (d : Nat) (o : List S51) (t : Int), (∀ u, t ≤ u → u < t + d → p u = q u) → run p o t d = run q o t d := by
  intro d
  induction d with
  | zero =>
    intro o t h
    rfl
  | succ d ih =>
    intro o t h
    simp only [run]
    rw [h t (by omega) (by omega)]
    exact ih _ _ (fun u h1 h2 => h u (by omega) (by omega))
theorem sPut (o : List S51) (t : Int) (h0 : 0 ≤ t) (h1 : t ≤ 1000) (ho : o.length ≤ 8000000000000) : spec_l4Put.f o t = some (put o t) := by
  unfold spec_l4Put.f put
  have w0 : wrap64 (t + 1) = t + 1 := K.wr (by omega) (by omega)
  have w1 : wrap64 ((o.length : Int) - 1) = (o.length : Int) - 1 := K.wr (by omega) (by omega)
  rw [w0, w1]
  have c2 : o.length < 8796093022208 := by omega
  rw [if_pos c2]
  by_cases c : (o.length : Int) > 0
  · rw [if_pos c, if_pos c]
    have c0 : 0 ≤ (o.length : Int) - 1 := by omega
    have c1 : (o.length : Int) - 1 < (o.length : Int) := by omega
    rw [if_pos c0, if_pos c1]
    split <;> rfl
  · rw [if_neg c, if_neg c]
theorem l8 (a b : Int) : ∃ lo hi : Int, spec_l8Ticks.f a b = some (lo, hi) ∧ 0 ≤ lo ∧ hi ≤ 1000 ∧ ∀ p : Int → Bool, run p [] lo (hi - lo).toNat = run p [] (mx a 0) (mn b 1000 - mx a 0).toNat := by
  refine ⟨if (if a > 0 then a else 0) < 1000 then (if a > 0 then a else 0) else 1000, if (if b < 1000 then b else 1000) > 0 then (if b < 1000 then b else 1000) else 0, ?_, ?_, ?_, ?_⟩
  · have m2 : ∀ x : Int, spec_Min.f 1000 x = some (if x < 1000 then x else 1000) := by
      intro x
      unfold spec_Min.f
      split <;> rfl
    have m3 : ∀ x : Int, spec_Max.f 0 x = some (if x > 0 then x else 0) := by
      intro x
      unfold spec_Max.f
      split <;> rfl
    unfold spec_l8Ticks.f
    rw [m3, Option.bind_some, m2, Option.bind_some, m2, Option.bind_some, m3, Option.bind_some]
  · (repeat' split) <;> omega
  · (repeat' split) <;> omega
  · intro p
    have e1 : mx a 0 = if a > 0 then a else 0 := by unfold mx; (repeat' split) <;> omega
    have e2 : mn b 1000 = if b < 1000 then b else 1000 := by unfold mn; (repeat' split) <;> omega
    rw [e1, e2]
    have hx : 0 ≤ (if a > 0 then a else 0) := by split <;> omega
    have hy : (if b < 1000 then b else 1000) ≤ 1000 := by split <;> omega
    generalize (if a > 0 then a else 0) = x at hx
    generalize (if b < 1000 then b else 1000) = y at hy
    by_cases c : x < y
    · have c1 : x < 1000 := by omega
      have c2 : y > 0 := by omega
      rw [if_pos c1, if_pos c2]
    · have d1 : (y - x).toNat = 0 := by omega
      have d2 : ((if y > 0 then y else 0) - (if x < 1000 then x else 1000)).toNat = 0 := by
        (repeat' split) <;> omega
      rw [d1, d2]
      rfl
theorem whereRun (q : Nat → Int → Option Bool) (p : Int → Bool) (hi : Int) (hq : ∀ t, 0 ≤ t → t < mn hi 1000 → Ev (fun k => q k t) (p t)) : ∀ (d : Nat) (o : List S51) (t : Int), 0 ≤ t → (mn hi 1000 - t).toNat = d → o.length + d ≤ 7000000000000 → Ev (fun k => sw.l0 q k hi o t) (run p o t d) := by
  intro d
  have hm : mn hi 1000 ≤ 1000 := by unfold mn; split <;> omega
  induction d with
  | zero =>
    intro o t h0 hd ho
    refine K.succ ?_
    simp only [sw.l0, run]
    exact K.neg (by omega) (Ev.now _)
  | succ d ih =>
    intro o t h0 hd ho
    refine K.succ ?_
    simp only [sw.l0, run]
    have w0 : wrap64 (t + 1) = t + 1 := K.wr (by omega) (by omega)
    have w1 : wrap64 ((o.length : Int) - 1) = (o.length : Int) - 1 := K.wr (by omega) (by omega)
    rw [w0, w1]
    refine K.pos (by omega) (Ev.bind (hq t h0 (by omega)) ?_)
    by_cases c : p t = true
    · refine K.pos c ?_
      rw [if_pos c]
      have hp := put_len o t
      have ih' := ih (put o t) (t + 1) (by omega) (by omega)
      unfold put at ih' ⊢
      by_cases c1 : (o.length : Int) > 0
      · rw [if_pos c1] at ih' ⊢
        refine K.pos (by omega) (K.pos (by omega) (K.pos (by omega) ?_))
        by_cases c2 : (rd_T51 o ((o.length : Int) - 1)).f1 = t
        · rw [if_pos c2] at ih' ⊢
          refine K.pos c2 ?_
          rw [c2, w0]
          exact ih' (by simp; omega)
        · rw [if_neg c2] at ih' ⊢
          refine K.neg c2 (K.pos (by omega) (ih' (by simp; omega)))
      · rw [if_neg c1] at ih' ⊢
        refine K.neg (by omega) (K.pos (by omega) (ih' (by simp; omega)))
    · refine K.neg c ?_
      rw [if_neg c]
      exact ih o (t + 1) (by omega) (by omega) (by omega)
theorem sQuiet (pl : Int) (sa : List S71) (si : List S75) (rc cr vw su sh : Int) (zo : List S81) (ac : Int) (p : Int → Bool) (i hi : Int) (hp : ∀ t, Ev (fun k => spec_MayDisturb.f k pl sa si rc cr vw su sh zo ac i t) (p t)) (hh : hi ≤ 1000) : ∀ (d : Nat) (o : List S51) (t : Int), 0 ≤ t → (hi - t).toNat = d → o.length + d ≤ 7000000000000 → Ev (fun k => spec_QuietSpans.l0 k i o hi t pl sa si rc cr vw su sh zo ac) (run p o t d) := by
  intro d
  induction d with
  | zero =>
    intro o t h0 hd ho
    refine K.succ ?_
    simp only [spec_QuietSpans.l0, run]
    exact K.neg (by omega) (Ev.now _)
  | succ d ih =>
    intro o t h0 hd ho
    refine K.succ ?_
    simp only [spec_QuietSpans.l0, run]
    rw [K.wr (x := t + 1) (by omega) (by omega)]
    refine K.pos (by omega) (Ev.bind (hp t) ?_)
    have hp := put_len o t
    by_cases c : p t = true
    · rw [if_pos c]
      exact K.pos c (K.known (sPut o t h0 (by omega) (by omega)) (ih (put o t) (t + 1) (by omega) (by omega) (by omega)))
    · rw [if_neg c]
      exact K.neg c (ih o (t + 1) (by omega) (by omega) (by omega))
theorem quiets (pl : Int) (sa : List S71) (si : List S75) (rc cr vw su sh : Int) (zo : List S81) (ac : Int) (hn : (sa.length : Int) + si.length ≤ 4194304) (hz : zo.length ≤ 1048576) (i a b : Int) : ∃ r : List S51, r.length ≤ 1000 ∧ Ev (fun k => spec_QuietSpans.f k pl sa si rc cr vw su sh zo ac i a b) r ∧ Ev (fun k => impl_QuietSpans.f k pl sa si rc cr vw su sh zo ac i a b) r := by
  obtain ⟨lo, hi, e, h0, h1, hr⟩ := l8 a b
  have hm : mn b 1000 ≤ 1000 := by unfold mn; split <;> omega
  have hx : 0 ≤ mx a 0 := by unfold mx; split <;> omega
  obtain ⟨p, hp⟩ : ∃ p : Int → Bool, ∀ t, Ev (fun k => spec_MayDisturb.f k pl sa si rc cr vw su sh zo ac i t) (p t) ∧ Ev (fun k => impl_MayDisturb.f k pl sa si rc cr vw su sh zo ac i t) (p t) :=
    ⟨fun t => (disturb pl sa si rc cr vw su sh zo ac hn hz i t).choose, fun t => ⟨(disturb pl sa si rc cr vw su sh zo ac hn hz i t).choose_spec.1, (disturb pl sa si rc cr vw su sh zo ac hn hz i t).choose_spec.2.1⟩⟩
  refine ⟨run p [] lo (hi - lo).toNat, Nat.le_trans (run_len _ _ _ _) (by simp; omega), ?_, ?_⟩
  · unfold spec_QuietSpans.f
    exact K.known e (sQuiet pl sa si rc cr vw su sh zo ac p i hi (fun t => (hp t).1) h1 _ [] lo h0 rfl (by simp; omega))
  · rw [hr]
    unfold impl_QuietSpans.f where_impl_QuietSpans_1.f sw.f
    refine Ev.bind (whereRun (fun k t' => impl_QuietSpans_1.f k t' pl sa si rc cr vw su sh zo ac i) p b (fun t _ _ => ?_) _ [] (mx a 0) hx rfl (by simp; omega)) (Ev.now _)
    unfold impl_QuietSpans_1.f
    exact Ev.bind (hp t).2 (Ev.now _)


end LFnExactQuietSpans
theorem FnExactQuietSpans (pl : Int) (sa : List S73) (si : List S77) (rc cr vw su sh : Int) (zo : List S85) (ac : Int) (i a b : Int) (h1 : sa.length ≤ 9223372036854775807) (h2 : si.length ≤ 9223372036854775807) (h3 : zo.length ≤ 9223372036854775807) : ∃ k, laws_FnExactQuietSpans.f k pl sa si rc cr vw su sh zo ac i a b = some true := by
  refine K.rounds (g := fun k => laws_FnExactQuietSpans.f k pl sa si rc cr vw su sh zo ac i a b) ?_
  unfold laws_FnExactQuietSpans.f
  refine K.known (LFnExactQuietSpans.szSky _ _ _ _ _ _ _ _ _ _ h1 h2 h3) ?_
  by_cases c : (sa.length : Int) + si.length + zo.length ≤ 1048576
  · rw [if_pos c]
    have hn : ((sa.map LFnExactQuietSpans.cvSat).length : Int) + (si.map LFnExactQuietSpans.cvSite).length ≤ 4194304 := by simp; omega
    obtain ⟨v, hv, e1, e2⟩ := LFnExactQuietSpans.quiets pl (sa.map LFnExactQuietSpans.cvSat) (si.map LFnExactQuietSpans.cvSite) rc cr vw su sh (zo.map LFnExactQuietSpans.cvZone) ac hn (by simp; omega) i a b
    obtain ⟨m0, y1, y2, y3, hm0, g0⟩ := LFnExactQuietSpans.markSky pl (sa.map LFnExactQuietSpans.cvSat) (si.map LFnExactQuietSpans.cvSite) rc cr vw su sh (zo.map LFnExactQuietSpans.cvZone) ac (by simp; omega) (by simp; omega) (by simp; omega)
    obtain ⟨m1, ys, hm1, g1_, g2_⟩ := LFnExactQuietSpans.markSpanS v (by omega)
    repeat (first | exact Ev.now _ | refine K.pos (by first | exact True.intro | with_reducible rfl | omega) ?_ | refine K.neg (by first | omega | exact Bool.false_ne_true | exact K.nbne _) ?_ | refine Ev.bind (LFnExactQuietSpans.toSky pl sa si rc cr vw su sh zo ac (by omega) (by omega) (by omega)) ?_ | refine Ev.bind (e1) ?_ | refine Ev.bind (e2) ?_ | refine Ev.bind (LFnExactQuietSpans.eqSky pl (sa.map LFnExactQuietSpans.cvSat) (si.map LFnExactQuietSpans.cvSite) rc cr vw su sh (zo.map LFnExactQuietSpans.cvZone) ac (by simp; omega) (by simp; omega) (by simp; omega)) ?_ | refine Ev.bind (LFnExactQuietSpans.eqSpanS v (by omega)) ?_ | refine Ev.bind (g0) ?_ | refine Ev.bind (g1_) ?_ | refine Ev.bind (g2_) ?_ | (refine K.succ ?_; simp only [laws_FnExactQuietSpans.j0]))
  · rw [if_neg c]
    exact K.pos (by omega) (Ev.now _)

end Go.Proofs.Ytikklalaggkdoaa.Pure
