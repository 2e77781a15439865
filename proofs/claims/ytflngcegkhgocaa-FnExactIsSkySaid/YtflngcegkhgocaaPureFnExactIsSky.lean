/- Whether a sky is one is told alike by the program and the reference, for every sky of at most 2^20 parts. -/
import Derived.Test.YtflngcegkhgocaaQFnExactIsSkyx
import Derived.Test.YtflngcegkhgocaaKKit
namespace Go.Proofs.Ytflngcegkhgocaa.Pure
open Go.RowKit Go.Proofs.Ytflngcegkhgocaa.PFnExactIsSky Go.Proofs.YtflngcegkhgocaaW.PrintWords Go.Proofs.YtflngcegkhgocaaW.PrintLast Go.Proofs.YtflngcegkhgocaaW.PrintMore Go.Proofs.Ytflngcegkhgocaa
set_option linter.unusedSimpArgs false
set_option linter.unusedVariables false
namespace LFnExactIsSky

def cvSat (x : S93) : S70 := ⟨x.f0, x.f1, x.f2, x.f3⟩
theorem toSatS (l : List S93) (hl : l.length ≤ 1048576) : Ev (fun k => laws_toSatS.f k l) (l.map cvSat) := by
  unfold laws_toSatS.f
  refine K.pos (by omega) (K.pos (by omega) ?_)
  refine K.fill (fun k xs i => laws_toSatS.l0 k l xs i) (l.map cvSat) (by simpa using hl) ?_ ?_ l.length _ 0 (by omega) (by simp) (by simp) (by intro j hj; omega)
  · intro k xs i hi
    simp only [List.length_map] at hi
    simp only [laws_toSatS.l0]
    rw [if_neg hi]
  · intro k xs i y h0 hi hx hy
    simp only [List.length_map] at hi hx
    simp only [laws_toSatS.l0, laws_toSat.f, Option.bind_some]
    rw [if_pos hi, if_pos h0, if_pos (by omega), K.wr (x := i + 1) (by omega) (by omega)]
    have hg : l[i.toNat]? = some (l[i.toNat]'(by omega)) := List.getElem?_eq_getElem (by omega)
    rw [List.getElem?_map, hg, Option.map_some] at hy
    obtain rfl := Option.some.inj hy
    have hr : rd_T93 l i = l[i.toNat]'(by omega) := by
      simp only [rd_T93, List.getD_eq_getElem?_getD, hg, Option.getD_some]
    rw [hr]
    rfl
theorem szSatS (l : List S93) (left : Int) (h0 : 0 ≤ left) (h1 : left ≤ 1048576) (hm : l.length ≤ 9223372036854775807) : laws_szSatS.f l left = some (if (l.length : Int) ≤ left then left - l.length else -1) := by
  unfold laws_szSatS.f
  rw [K.wr (by omega) (by omega)]
  split <;> split <;> first | rfl | omega


def cvSite (x : S95) : S72 := ⟨x.f0, x.f1, x.f2⟩
theorem toSiteS (l : List S95) (hl : l.length ≤ 1048576) : Ev (fun k => laws_toSiteS.f k l) (l.map cvSite) := by
  unfold laws_toSiteS.f
  refine K.pos (by omega) (K.pos (by omega) ?_)
  refine K.fill (fun k xs i => laws_toSiteS.l0 k l xs i) (l.map cvSite) (by simpa using hl) ?_ ?_ l.length _ 0 (by omega) (by simp) (by simp) (by intro j hj; omega)
  · intro k xs i hi
    simp only [List.length_map] at hi
    simp only [laws_toSiteS.l0]
    rw [if_neg hi]
  · intro k xs i y h0 hi hx hy
    simp only [List.length_map] at hi hx
    simp only [laws_toSiteS.l0, laws_toSite.f, Option.bind_some]
    rw [if_pos hi, if_pos h0, if_pos (by omega), K.wr (x := i + 1) (by omega) (by omega)]
    have hg : l[i.toNat]? = some (l[i.toNat]'(by omega)) := List.getElem?_eq_getElem (by omega)
    rw [List.getElem?_map, hg, Option.map_some] at hy
    obtain rfl := Option.some.inj hy
    have hr : rd_T95 l i = l[i.toNat]'(by omega) := by
      simp only [rd_T95, List.getD_eq_getElem?_getD, hg, Option.getD_some]
    rw [hr]
    rfl
theorem szSiteS (l : List S95) (left : Int) (h0 : 0 ≤ left) (h1 : left ≤ 1048576) (hm : l.length ≤ 9223372036854775807) : laws_szSiteS.f l left = some (if (l.length : Int) ≤ left then left - l.length else -1) := by
  unfold laws_szSiteS.f
  rw [K.wr (by omega) (by omega)]
  split <;> split <;> first | rfl | omega


theorem eqSatS (l : List S70) (hl : l.length ≤ 67108864) : Ev (fun k => laws_eqSatS.f k l l) true := by
  unfold laws_eqSatS.f
  refine K.pos rfl ?_
  refine K.all (n := l.length) (fun k i => laws_eqSatS.l0 k l l i) ?_ ?_ l.length 0 (by omega) (by omega)
  · intro k i hi
    simp only [laws_eqSatS.l0]
    rw [if_neg hi]
  · intro k i h0 hi
    simp only [laws_eqSatS.l0, laws_eqSat.f, ↓reduceIte, Option.bind_some]
    rw [if_pos hi, if_pos h0, if_pos hi, K.wr (x := i + 1) (by omega) (by omega)]


theorem eqSiteS (l : List S72) (hl : l.length ≤ 67108864) : Ev (fun k => laws_eqSiteS.f k l l) true := by
  unfold laws_eqSiteS.f
  refine K.pos rfl ?_
  refine K.all (n := l.length) (fun k i => laws_eqSiteS.l0 k l l i) ?_ ?_ l.length 0 (by omega) (by omega)
  · intro k i hi
    simp only [laws_eqSiteS.l0]
    rw [if_neg hi]
  · intro k i h0 hi
    simp only [laws_eqSiteS.l0, laws_eqSite.f, ↓reduceIte, Option.bind_some]
    rw [if_pos hi, if_pos h0, if_pos hi, K.wr (x := i + 1) (by omega) (by omega)]

def cvZone (x : S99) : S83 := ⟨x.f0, ⟨x.f1.f0, x.f1.f1⟩⟩
theorem toZoneS (l : List S99) (hl : l.length ≤ 1048576) : Ev (fun k => laws_toZoneS.f k l) (l.map cvZone) := by
  unfold laws_toZoneS.f
  refine K.pos (by omega) (K.pos (by omega) ?_)
  refine K.fill (fun k xs i => laws_toZoneS.l0 k l xs i) (l.map cvZone) (by simpa using hl) ?_ ?_ l.length _ 0 (by omega) (by simp) (by simp) (by intro j hj; omega)
  · intro k xs i hi
    simp only [List.length_map] at hi
    simp only [laws_toZoneS.l0]
    rw [if_neg hi]
  · intro k xs i y h0 hi hx hy
    simp only [List.length_map] at hi hx
    simp only [laws_toZoneS.l0, laws_toZone.f, laws_toArc.f, Option.bind_some]
    rw [if_pos hi, if_pos h0, if_pos (by omega), K.wr (x := i + 1) (by omega) (by omega)]
    have hg : l[i.toNat]? = some (l[i.toNat]'(by omega)) := List.getElem?_eq_getElem (by omega)
    rw [List.getElem?_map, hg, Option.map_some] at hy
    obtain rfl := Option.some.inj hy
    have hr : rd_T99 l i = l[i.toNat]'(by omega) := by
      simp only [rd_T99, List.getD_eq_getElem?_getD, hg, Option.getD_some]
    rw [hr]
    rfl
theorem szZoneS (l : List S99) (left : Int) (h0 : 0 ≤ left) (h1 : left ≤ 1048576) (hm : l.length ≤ 9223372036854775807) : laws_szZoneS.f l left = some (if (l.length : Int) ≤ left then left - l.length else -1) := by
  unfold laws_szZoneS.f
  rw [K.wr (by omega) (by omega)]
  split <;> split <;> first | rfl | omega
theorem eqZoneS (l : List S83) (hl : l.length ≤ 67108864) : Ev (fun k => laws_eqZoneS.f k l l) true := by
  unfold laws_eqZoneS.f
  refine K.pos rfl ?_
  refine K.all (n := l.length) (fun k i => laws_eqZoneS.l0 k l l i) ?_ ?_ l.length 0 (by omega) (by omega)
  · intro k i hi
    simp only [laws_eqZoneS.l0]
    rw [if_neg hi]
  · intro k i h0 hi
    simp only [laws_eqZoneS.l0, laws_eqZone.f, laws_eqArc.f, ↓reduceIte, Option.bind_some]
    rw [if_pos hi, if_pos h0, if_pos hi, K.wr (x := i + 1) (by omega) (by omega)]
theorem szSky (pl : Int) (sa : List S93) (si : List S95) (rc cr vw su sh : Int) (zo : List S99) (ac : Int) (h1 : sa.length ≤ 9223372036854775807) (h2 : si.length ≤ 9223372036854775807) (h3 : zo.length ≤ 9223372036854775807) :
    laws_szSky.f pl sa si rc cr vw su sh zo ac 1048576 = some (if (sa.length : Int) + si.length + zo.length ≤ 1048576 then (1048576 : Int) - sa.length - si.length - zo.length else (-1 : Int)) := by
  unfold laws_szSky.f
  rw [szSatS sa 1048576 (by omega) (by omega) h1]
  simp only [Option.bind_some]
  by_cases c1 : (sa.length : Int) ≤ 1048576
  · rw [if_pos c1, if_neg (by omega), szSiteS si _ (by omega) (by omega) h2]
    simp only [Option.bind_some]
    by_cases c2 : (si.length : Int) ≤ 1048576 - sa.length
    · rw [if_pos c2, if_neg (by omega), szZoneS zo _ (by omega) (by omega) h3]
      simp only [Option.bind_some]
      by_cases c3 : (zo.length : Int) ≤ 1048576 - sa.length - si.length
      · rw [if_pos c3, if_neg (by omega), if_pos (by omega)]
      · rw [if_neg c3, if_pos (by omega), if_neg (by omega)]
    · rw [if_neg c2, if_pos (by omega), if_neg (by omega)]
  · rw [if_neg c1, if_pos (by omega), if_neg (by omega)]
theorem toSky (pl : Int) (sa : List S93) (si : List S95) (rc cr vw su sh : Int) (zo : List S99) (ac : Int) (h1 : sa.length ≤ 1048576) (h2 : si.length ≤ 1048576) (h3 : zo.length ≤ 1048576) :
    Ev (fun k => laws_toSky.f k pl sa si rc cr vw su sh zo ac) (pl, sa.map cvSat, si.map cvSite, rc, cr, vw, su, sh, zo.map cvZone, ac) := by
  unfold laws_toSky.f
  exact Ev.bind (toSatS sa h1) (Ev.bind (toSiteS si h2) (Ev.bind (toZoneS zo h3) (Ev.now _)))
theorem eqSky (pl : Int) (sa : List S70) (si : List S72) (rc cr vw su sh : Int) (zo : List S83) (ac : Int) (h1 : sa.length ≤ 1048576) (h2 : si.length ≤ 1048576) (h3 : zo.length ≤ 1048576) : Ev (fun k => laws_eqSky.f k pl sa si rc cr vw su sh zo ac pl sa si rc cr vw su sh zo ac) true := by
  unfold laws_eqSky.f
  exact K.pos rfl (Ev.bind (eqSatS sa (by omega)) (K.pos rfl (Ev.bind (eqSiteS si (by omega)) (K.pos rfl (K.pos rfl (K.pos rfl (K.pos rfl (K.pos rfl (K.pos rfl (Ev.bind (eqZoneS zo (by omega)) (K.pos rfl (K.pos rfl (Ev.now _)))))))))))))
theorem l1In (a b c : Int) : spec_l1In.f a b c = some (decide (b ≤ a ∧ a ≤ c)) := by
  unfold spec_l1In.f
  split <;> (try split) <;> first | rfl | (congr 1; exact decide_eq_decide.2 (by omega)) | (congr 1; exact (decide_eq_false (by omega)).symm)
theorem InRange (a b c : Int) : impl_InRange.f a b c = some (decide (b ≤ a ∧ a ≤ c)) := by
  unfold impl_InRange.f
  split <;> (try split) <;> first | rfl | (congr 1; exact decide_eq_decide.2 (by omega)) | (congr 1; exact (decide_eq_false (by omega)).symm)
theorem iWidth (n : Int) : impl_isWidth.f n = some (decide (0 ≤ n ∧ n ≤ 359)) := by
  unfold impl_isWidth.f
  simp only [InRange, Option.bind_some]
def satOk (pl : Int) (x : S70) : Prop := 0 ≤ x.f0 ∧ x.f0 < pl ∧ (0 ≤ x.f1 ∧ x.f1 ≤ 359) ∧ (-60 ≤ x.f2 ∧ x.f2 ≤ 60) ∧ (0 ≤ x.f3 ∧ x.f3 ≤ 20)
def siteOk (pl : Int) (x : S72) : Prop := 0 ≤ x.f0 ∧ x.f0 < pl ∧ (0 ≤ x.f1 ∧ x.f1 ≤ 359) ∧ (-60 ≤ x.f2 ∧ x.f2 ≤ 60)
def zoneOk (pl : Int) (x : S83) : Prop := 0 ≤ x.f0 ∧ x.f0 < pl ∧ (0 ≤ x.f1.f1 ∧ x.f1.f1 ≤ 359)
theorem sIsSat' (x : S70) (pl : Int) : ∃ b, spec_IsSat.f x.f0 x.f1 x.f2 x.f3 pl = some b ∧ (b = true ↔ satOk pl x) := by
  unfold spec_IsSat.f satOk
  simp only [l1In, Option.bind_some, decide_eq_true_eq]
  by_cases c0 : x.f0 ≥ 0
  · rw [if_pos c0]
    by_cases c1 : x.f0 < pl
    · rw [if_pos c1]
      by_cases c2 : 0 ≤ x.f1 ∧ x.f1 ≤ 359
      · rw [if_pos c2]
        by_cases c3 : -60 ≤ x.f2 ∧ x.f2 ≤ 60
        · rw [if_pos c3]
          exact ⟨_, rfl, by rw [decide_eq_true_eq]; omega⟩
        · rw [if_neg c3]
          exact ⟨_, rfl, fun h => absurd h Bool.false_ne_true, fun h => absurd h.2.2.2.1 c3⟩
      · rw [if_neg c2]
        exact ⟨_, rfl, fun h => absurd h Bool.false_ne_true, fun h => absurd h.2.2.1 c2⟩
    · rw [if_neg c1]
      exact ⟨_, rfl, fun h => absurd h Bool.false_ne_true, fun h => absurd h.2.1 c1⟩
  · rw [if_neg c0]
    exact ⟨_, rfl, fun h => absurd h Bool.false_ne_true, fun h => absurd h.1 c0⟩
theorem iIsSat' (x : S70) (pl : Int) : ∃ b, impl_IsSat.f x.f0 x.f1 x.f2 x.f3 pl = some b ∧ (b = true ↔ satOk pl x) := by
  unfold impl_IsSat.f satOk
  simp only [InRange, Option.bind_some, decide_eq_true_eq]
  by_cases c0 : x.f0 ≥ 0
  · rw [if_pos c0]
    by_cases c1 : x.f0 < pl
    · rw [if_pos c1]
      by_cases c2 : 0 ≤ x.f1 ∧ x.f1 ≤ 359
      · rw [if_pos c2]
        by_cases c3 : -60 ≤ x.f2 ∧ x.f2 ≤ 60
        · rw [if_pos c3]
          exact ⟨_, rfl, by rw [decide_eq_true_eq]; omega⟩
        · rw [if_neg c3]
          exact ⟨_, rfl, fun h => absurd h Bool.false_ne_true, fun h => absurd h.2.2.2.1 c3⟩
      · rw [if_neg c2]
        exact ⟨_, rfl, fun h => absurd h Bool.false_ne_true, fun h => absurd h.2.2.1 c2⟩
    · rw [if_neg c1]
      exact ⟨_, rfl, fun h => absurd h Bool.false_ne_true, fun h => absurd h.2.1 c1⟩
  · rw [if_neg c0]
    exact ⟨_, rfl, fun h => absurd h Bool.false_ne_true, fun h => absurd h.1 c0⟩
def headOk (pl : Int) (sa : List S70) (si : List S72) (zo : List S83) : Prop := (1 ≤ pl ∧ pl ≤ 4) ∧ (1 ≤ (sa.length : Int) ∧ (sa.length : Int) ≤ 8) ∧ ¬ (si.length : Int) > 4 ∧ ¬ (zo.length : Int) > 4
def tailOk (rc cr vw su sh ac : Int) : Prop := (0 ≤ rc ∧ rc ≤ 180) ∧ (0 ≤ cr ∧ cr ≤ 180) ∧ (0 ≤ vw ∧ vw ≤ 180) ∧ (0 ≤ sh ∧ sh ≤ 180) ∧ (-60 ≤ su ∧ su ≤ 60) ∧ (0 ≤ ac ∧ ac ≤ 20)
theorem sTail (pl : Int) (sa : List S70) (si : List S72) (rc cr vw su sh : Int) (zo : List S83) (ac : Int) : ∃ b : Bool, Ev (fun k => spec_IsSky.j3 k false pl sa si rc cr vw su sh zo ac) b ∧ (b = true ↔ tailOk rc cr vw su sh ac) := by
  have key : ∃ b : Bool, (∀ k, spec_IsSky.j3 (k + 1) false pl sa si rc cr vw su sh zo ac = some b) ∧ (b = true ↔ tailOk rc cr vw su sh ac) := by
    unfold tailOk
    simp only [spec_IsSky.j3, spec_l7Half.f, spec_l7Turn.f, l1In, Option.bind_some, decide_eq_true_eq]
    by_cases c1 : 0 ≤ rc ∧ rc ≤ 180
    · by_cases c2 : 0 ≤ cr ∧ cr ≤ 180
      · by_cases c3 : 0 ≤ vw ∧ vw ≤ 180
        · by_cases c4 : 0 ≤ sh ∧ sh ≤ 180
          · by_cases c5 : -60 ≤ su ∧ su ≤ 60
            · exact ⟨decide (0 ≤ ac ∧ ac ≤ 20), fun k => by rw [if_neg Bool.false_ne_true, if_pos c1, if_pos c2, if_pos c3, if_pos c4, if_pos c5], by rw [decide_eq_true_eq]; exact ⟨fun h => ⟨c1, c2, c3, c4, c5, h⟩, fun h => h.2.2.2.2.2⟩⟩
            · exact ⟨false, fun k => by rw [if_neg Bool.false_ne_true, if_pos c1, if_pos c2, if_pos c3, if_pos c4, if_neg c5], fun h => absurd h Bool.false_ne_true, fun h => absurd h.2.2.2.2.1 c5⟩
          · exact ⟨false, fun k => by rw [if_neg Bool.false_ne_true, if_pos c1, if_pos c2, if_pos c3, if_neg c4], fun h => absurd h Bool.false_ne_true, fun h => absurd h.2.2.2.1 c4⟩
        · exact ⟨false, fun k => by rw [if_neg Bool.false_ne_true, if_pos c1, if_pos c2, if_neg c3], fun h => absurd h Bool.false_ne_true, fun h => absurd h.2.2.1 c3⟩
      · exact ⟨false, fun k => by rw [if_neg Bool.false_ne_true, if_pos c1, if_neg c2], fun h => absurd h Bool.false_ne_true, fun h => absurd h.2.1 c2⟩
    · exact ⟨false, fun k => by rw [if_neg Bool.false_ne_true, if_neg c1], fun h => absurd h Bool.false_ne_true, fun h => absurd h.1 c1⟩
  obtain ⟨b, h1, h2⟩ := key
  exact ⟨b, K.succ (by simp only [h1]; exact Ev.now _), h2⟩
theorem iTail (pl : Int) (sa : List S70) (si : List S72) (rc cr vw su sh : Int) (zo : List S83) (ac : Int) : ∃ b : Bool, Ev (fun k => impl_IsSky.l3 k [rc, cr, vw, sh] (([rc, cr, vw, sh] : List Int).length : Int) 0 pl sa si rc cr vw su sh zo ac) b ∧ (b = true ↔ tailOk rc cr vw su sh ac) := by
  have hg : ∃ b : Bool, ∀ _k : Nat, ((impl_InRange.f su (-60) 60).bind fun t228 => (if t228 = true then ((impl_InRange.f ac 0 20).bind fun t229 => (some t229)) else (some false))) = some b ∧ (b = true ↔ (-60 ≤ su ∧ su ≤ 60) ∧ (0 ≤ ac ∧ ac ≤ 20)) := by
    simp only [InRange, Option.bind_some, decide_eq_true_eq]
    by_cases c5 : -60 ≤ su ∧ su ≤ 60
    · exact ⟨decide (0 ≤ ac ∧ ac ≤ 20), fun k => ⟨by rw [if_pos c5], by rw [decide_eq_true_eq]; exact ⟨fun h => ⟨c5, h⟩, fun h => h.2⟩⟩⟩
    · exact ⟨false, fun k => ⟨by rw [if_neg c5], fun h => absurd h Bool.false_ne_true, fun h => absurd h.1 c5⟩⟩
  obtain ⟨b, hb⟩ := hg
  obtain ⟨h1, h2⟩ := K.alls (n := 4) (fun k i => impl_IsSky.l3 k [rc, cr, vw, sh] 4 i pl sa si rc cr vw su sh zo ac) (fun _ => some b) (fun j => 0 ≤ rd [rc, cr, vw, sh] j ∧ rd [rc, cr, vw, sh] j ≤ 180) (by
      intro k i hi
      simp only [impl_IsSky.l3]
      rw [if_neg (show ¬ i < 4 by omega)]
      exact (hb 0).1) (by
      intro k i i0 hi ho
      simp only [impl_IsSky.l3, InRange, Option.bind_some, decide_eq_true_eq]
      rw [if_pos (show i < 4 by omega), if_pos i0, if_pos (show i < (([rc, cr, vw, sh] : List Int).length : Int) by simp; omega), if_pos ho, K.wr (x := i + 1) (by omega) (by omega)]) (by
      intro k i i0 hi ho
      simp only [impl_IsSky.l3, InRange, Option.bind_some, decide_eq_true_eq]
      rw [if_pos (show i < 4 by omega), if_pos i0, if_pos (show i < (([rc, cr, vw, sh] : List Int).length : Int) by simp; omega), if_neg ho]) 4 0 (by omega) (by omega)
  · by_cases c : ∀ j : Int, 0 ≤ j → j < 4 → 0 ≤ rd [rc, cr, vw, sh] j ∧ rd [rc, cr, vw, sh] j ≤ 180
    · refine ⟨b, h1 c b (Ev.now _), ?_⟩
      rw [(hb 0).2]
      exact ⟨fun h => ⟨c 0 (by omega) (by omega), c 1 (by omega) (by omega), c 2 (by omega) (by omega), c 3 (by omega) (by omega), h⟩, fun h => h.2.2.2.2⟩
    · refine ⟨false, h2 c, fun h => absurd h Bool.false_ne_true, fun h => absurd (fun j j0 j1 => ?_) c⟩
      have hj : j = 0 ∨ j = 1 ∨ j = 2 ∨ j = 3 := by omega
      rcases hj with rfl | rfl | rfl | rfl
      · exact h.1
      · exact h.2.1
      · exact h.2.2.1
      · exact h.2.2.2.1
theorem isSky (pl : Int) (sa : List S70) (si : List S72) (rc cr vw su sh : Int) (zo : List S83) (ac : Int) (h1 : sa.length ≤ 1048576) (h2 : si.length ≤ 1048576) (h3 : zo.length ≤ 1048576) (hpl0 : -9223372036854775808 ≤ pl) (hpl1 : pl ≤ 9223372036854775807) :
    ∃ b, Ev (fun k => spec_IsSky.f k pl sa si rc cr vw su sh zo ac) b ∧ Ev (fun k => impl_IsSky.f k pl sa si rc cr vw su sh zo ac) b := by
  -- the reference's loops
  obtain ⟨s0y, s0n⟩ := K.alls (n := sa.length) (fun k i => spec_IsSky.l0 k i pl sa si rc cr vw su sh zo ac) (fun k => spec_IsSky.l1 k 0 pl sa si rc cr vw su sh zo ac) (fun j => satOk pl (rd_T70 sa j)) (by
      intro k i hi
      simp only [spec_IsSky.l0]
      rw [if_neg hi]) (by
      intro k i i0 hi ho
      obtain ⟨b, e, hb⟩ := sIsSat' (rd_T70 sa i) pl
      simp only [spec_IsSky.l0, e, Option.bind_some]
      rw [if_pos hi, if_pos i0, if_pos (hb.2 ho), K.wr (x := i + 1) (by omega) (by omega)]) (by
      intro k i i0 hi ho
      obtain ⟨b, e, hb⟩ := sIsSat' (rd_T70 sa i) pl
      simp only [spec_IsSky.l0, e, Option.bind_some]
      rw [if_pos hi, if_pos i0, if_neg (fun h => ho (hb.1 h))]) sa.length 0 (by omega) (by omega)
  obtain ⟨s1y, s1n⟩ := K.alls (n := si.length) (fun k i => spec_IsSky.l1 k i pl sa si rc cr vw su sh zo ac) (fun k => spec_IsSky.l2 k 0 pl sa si rc cr vw su sh zo ac) (fun j => siteOk pl (rd_T72 si j)) (by
      intro k i hi
      simp only [spec_IsSky.l1]
      rw [if_neg hi]) (by
      intro k i i0 hi ho
      simp only [spec_IsSky.l1, spec_l7Turn.f, l1In, Option.bind_some, decide_eq_true_eq]
      unfold siteOk at ho
      rw [if_pos hi, if_pos i0, if_neg (by omega), if_neg (by omega), if_pos ho.2.2.1, if_pos ho.2.2.2, K.wr (x := i + 1) (by omega) (by omega)]) (by
      intro k i i0 hi ho
      simp only [spec_IsSky.l1, spec_l7Turn.f, l1In, Option.bind_some, decide_eq_true_eq]
      unfold siteOk at ho
      rw [if_pos hi, if_pos i0]
      by_cases e0 : (rd_T72 si i).f0 < 0
      · rw [if_pos e0]
      · rw [if_neg e0]
        by_cases e1 : (rd_T72 si i).f0 ≥ pl
        · rw [if_pos e1]
        · rw [if_neg e1]
          by_cases e2 : 0 ≤ (rd_T72 si i).f1 ∧ (rd_T72 si i).f1 ≤ 359
          · rw [if_pos e2, if_neg (fun e3 => ho ⟨by omega, by omega, e2, e3⟩)]
          · rw [if_neg e2]) si.length 0 (by omega) (by omega)
  obtain ⟨s2y, s2n⟩ := K.alls (n := zo.length) (fun k i => spec_IsSky.l2 k i pl sa si rc cr vw su sh zo ac) (fun k => (spec_l1In.f pl 1 4).bind fun t195 => (if t195 = true then ((spec_l1In.f (sa.length : Int) 1 8).bind fun t196 => (if t196 = true then (if (si.length : Int) > 4 then (spec_IsSky.j3 k true pl sa si rc cr vw su sh zo ac) else (spec_IsSky.j3 k (decide ((zo.length : Int) > 4)) pl sa si rc cr vw su sh zo ac)) else (spec_IsSky.j3 k true pl sa si rc cr vw su sh zo ac))) else (spec_IsSky.j3 k true pl sa si rc cr vw su sh zo ac))) (fun j => zoneOk pl (rd_T83 zo j)) (by
      intro k i hi
      simp only [spec_IsSky.l2]
      rw [if_neg hi]) (by
      intro k i i0 hi ho
      simp only [spec_IsSky.l2, l1In, Option.bind_some, decide_eq_true_eq]
      unfold zoneOk at ho
      rw [if_pos hi, if_pos i0, if_neg (by omega), if_neg (by omega), if_pos ho.2.2, K.wr (x := i + 1) (by omega) (by omega)]) (by
      intro k i i0 hi ho
      simp only [spec_IsSky.l2, l1In, Option.bind_some, decide_eq_true_eq]
      unfold zoneOk at ho
      rw [if_pos hi, if_pos i0]
      by_cases e0 : (rd_T83 zo i).f0 < 0
      · rw [if_pos e0]
      · rw [if_neg e0]
        by_cases e1 : (rd_T83 zo i).f0 ≥ pl
        · rw [if_pos e1]
        · rw [if_neg e1, if_neg (fun e3 => ho ⟨by omega, by omega, e3⟩)]) zo.length 0 (by omega) (by omega)
  have sbad : Ev (fun k => spec_IsSky.j3 k true pl sa si rc cr vw su sh zo ac) false := by
    refine K.succ ?_
    simp only [spec_IsSky.j3]
    exact K.pos (by trivial) (Ev.now _)
  have ibad : Ev (fun k => impl_IsSky.j0 k true pl sa si rc cr vw su sh zo ac) false := by
    refine K.succ ?_
    simp only [impl_IsSky.j0]
    exact K.pos (by trivial) (Ev.now _)
  unfold spec_IsSky.f impl_IsSky.f
  simp only [InRange, Option.bind_some, decide_eq_true_eq]
  simp only [l1In, Option.bind_some, decide_eq_true_eq] at s2y
  -- what stands behind the reference's loops, where the head is wrong
  by_cases hh : headOk pl sa si zo
  · obtain ⟨p1, p2, p3, p4⟩ := hh
    have hz : decide ((zo.length : Int) > 4) = false := decide_eq_false p4
    have w1 : wrap64 (pl - 1) = pl - 1 := K.wr (by omega) (by omega)
    -- the program's loops
    obtain ⟨i0y, i0n⟩ := K.alls (n := sa.length) (fun k i => impl_IsSky.l0 k sa (sa.length : Int) i pl sa si rc cr vw su sh zo ac) (fun k => impl_IsSky.l1 k si (si.length : Int) 0 pl sa si rc cr vw su sh zo ac) (fun j => satOk pl (rd_T70 sa j)) (by
        intro k i hi
        simp only [impl_IsSky.l0]
        rw [if_neg hi]) (by
        intro k i i0 hi ho
        obtain ⟨b, e, hb⟩ := iIsSat' (rd_T70 sa i) pl
        simp only [impl_IsSky.l0, e, Option.bind_some]
        rw [if_pos hi, if_pos i0, if_pos hi, if_pos (hb.2 ho), K.wr (x := i + 1) (by omega) (by omega)]) (by
        intro k i i0 hi ho
        obtain ⟨b, e, hb⟩ := iIsSat' (rd_T70 sa i) pl
        simp only [impl_IsSky.l0, e, Option.bind_some]
        rw [if_pos hi, if_pos i0, if_pos hi, if_neg (fun h => ho (hb.1 h))]) sa.length 0 (by omega) (by omega)
    obtain ⟨i1y, i1n⟩ := K.alls (n := si.length) (fun k i => impl_IsSky.l1 k si (si.length : Int) i pl sa si rc cr vw su sh zo ac) (fun k => impl_IsSky.l2 k zo (zo.length : Int) 0 pl sa si rc cr vw su sh zo ac) (fun j => siteOk pl (rd_T72 si j)) (by
        intro k i hi
        simp only [impl_IsSky.l1]
        rw [if_neg hi]) (by
        intro k i i0 hi ho
        simp only [impl_IsSky.l1, InRange, Option.bind_some, decide_eq_true_eq, w1]
        unfold siteOk at ho
        rw [if_pos hi, if_pos i0, if_pos hi, if_pos (by omega), if_pos ho.2.2.1, if_pos ho.2.2.2, K.wr (x := i + 1) (by omega) (by omega)]) (by
        intro k i i0 hi ho
        simp only [impl_IsSky.l1, InRange, Option.bind_some, decide_eq_true_eq, w1]
        unfold siteOk at ho
        rw [if_pos hi, if_pos i0, if_pos hi]
        by_cases e0 : 0 ≤ (rd_T72 si i).f0 ∧ (rd_T72 si i).f0 ≤ pl - 1
        · rw [if_pos e0]
          by_cases e2 : 0 ≤ (rd_T72 si i).f1 ∧ (rd_T72 si i).f1 ≤ 359
          · rw [if_pos e2, if_neg (fun e3 => ho ⟨by omega, by omega, e2, e3⟩)]
          · rw [if_neg e2]
        · rw [if_neg e0]) si.length 0 (by omega) (by omega)
    obtain ⟨i2y, i2n⟩ := K.alls (n := zo.length) (fun k i => impl_IsSky.l2 k zo (zo.length : Int) i pl sa si rc cr vw su sh zo ac) (fun k => impl_IsSky.l3 k [rc, cr, vw, sh] (([rc, cr, vw, sh] : List Int).length : Int) 0 pl sa si rc cr vw su sh zo ac) (fun j => zoneOk pl (rd_T83 zo j)) (by
        intro k i hi
        simp only [impl_IsSky.l2, Option.bind_some]
        rw [if_neg hi]) (by
        intro k i i0 hi ho
        simp only [impl_IsSky.l2, InRange, iWidth, Option.bind_some, decide_eq_true_eq, w1]
        unfold zoneOk at ho
        rw [if_pos hi, if_pos i0, if_pos hi, if_pos (by omega), if_pos ho.2.2, K.wr (x := i + 1) (by omega) (by omega)]) (by
        intro k i i0 hi ho
        simp only [impl_IsSky.l2, InRange, iWidth, Option.bind_some, decide_eq_true_eq, w1]
        unfold zoneOk at ho
        rw [if_pos hi, if_pos i0, if_pos hi]
        by_cases e0 : 0 ≤ (rd_T83 zo i).f0 ∧ (rd_T83 zo i).f0 ≤ pl - 1
        · rw [if_pos e0, if_neg (fun e3 => ho ⟨by omega, by omega, e3⟩)]
        · rw [if_neg e0]) zo.length 0 (by omega) (by omega)
    have igo : ∀ v, Ev (fun k => impl_IsSky.l0 k sa (sa.length : Int) 0 pl sa si rc cr vw su sh zo ac) v → Ev (fun k => if 1 ≤ pl ∧ pl ≤ 4 then if 1 ≤ (sa.length : Int) ∧ (sa.length : Int) ≤ 8 then if (si.length : Int) > 4 then impl_IsSky.j0 k true pl sa si rc cr vw su sh zo ac else impl_IsSky.j0 k (decide ((zo.length : Int) > 4)) pl sa si rc cr vw su sh zo ac else impl_IsSky.j0 k true pl sa si rc cr vw su sh zo ac else impl_IsSky.j0 k true pl sa si rc cr vw su sh zo ac) v := by
      intro v hv
      refine K.pos p1 (K.pos p2 (K.neg p3 ?_))
      rw [hz]
      refine K.succ ?_
      simp only [impl_IsSky.j0]
      exact K.neg Bool.false_ne_true hv
    by_cases q0 : ∀ j : Int, 0 ≤ j → j < (sa.length : Int) → satOk pl (rd_T70 sa j)
    · by_cases q1 : ∀ j : Int, 0 ≤ j → j < (si.length : Int) → siteOk pl (rd_T72 si j)
      · by_cases q2 : ∀ j : Int, 0 ≤ j → j < (zo.length : Int) → zoneOk pl (rd_T83 zo j)
        · obtain ⟨b, t1, t2⟩ := sTail pl sa si rc cr vw su sh zo ac
          obtain ⟨b', t3, t4⟩ := iTail pl sa si rc cr vw su sh zo ac
          have hbb : b = b' := by
            rw [Bool.eq_iff_iff, t2, t4]
          subst hbb
          refine ⟨b, s0y q0 b (s1y q1 b (s2y q2 b (K.pos p1 (K.pos p2 (K.neg p3 ?_))))), igo b (i0y q0 b (i1y q1 b (i2y q2 b t3)))⟩
          rw [hz]
          exact t1
        · exact ⟨false, s0y q0 _ (s1y q1 _ (s2n q2)), igo _ (i0y q0 _ (i1y q1 _ (i2n q2)))⟩
      · exact ⟨false, s0y q0 _ (s1n q1), igo _ (i0y q0 _ (i1n q1))⟩
    · exact ⟨false, s0n q0, igo _ (i0n q0)⟩
  · have hs : Ev (fun k => if 1 ≤ pl ∧ pl ≤ 4 then if 1 ≤ (sa.length : Int) ∧ (sa.length : Int) ≤ 8 then if (si.length : Int) > 4 then spec_IsSky.j3 k true pl sa si rc cr vw su sh zo ac else spec_IsSky.j3 k (decide ((zo.length : Int) > 4)) pl sa si rc cr vw su sh zo ac else spec_IsSky.j3 k true pl sa si rc cr vw su sh zo ac else spec_IsSky.j3 k true pl sa si rc cr vw su sh zo ac) false := by
      by_cases p1 : 1 ≤ pl ∧ pl ≤ 4
      · refine K.pos p1 ?_
        by_cases p2 : 1 ≤ (sa.length : Int) ∧ (sa.length : Int) ≤ 8
        · refine K.pos p2 ?_
          by_cases p3 : (si.length : Int) > 4
          · exact K.pos p3 sbad
          · refine K.neg p3 ?_
            have p4 : (zo.length : Int) > 4 := Decidable.byContradiction (fun p4 => hh ⟨p1, p2, p3, p4⟩)
            rw [decide_eq_true p4]
            exact sbad
        · exact K.neg p2 sbad
      · exact K.neg p1 sbad
    have hi : Ev (fun k => if 1 ≤ pl ∧ pl ≤ 4 then if 1 ≤ (sa.length : Int) ∧ (sa.length : Int) ≤ 8 then if (si.length : Int) > 4 then impl_IsSky.j0 k true pl sa si rc cr vw su sh zo ac else impl_IsSky.j0 k (decide ((zo.length : Int) > 4)) pl sa si rc cr vw su sh zo ac else impl_IsSky.j0 k true pl sa si rc cr vw su sh zo ac else impl_IsSky.j0 k true pl sa si rc cr vw su sh zo ac) false := by
      by_cases p1 : 1 ≤ pl ∧ pl ≤ 4
      · refine K.pos p1 ?_
        by_cases p2 : 1 ≤ (sa.length : Int) ∧ (sa.length : Int) ≤ 8
        · refine K.pos p2 ?_
          by_cases p3 : (si.length : Int) > 4
          · exact K.pos p3 ibad
          · refine K.neg p3 ?_
            have p4 : (zo.length : Int) > 4 := Decidable.byContradiction (fun p4 => hh ⟨p1, p2, p3, p4⟩)
            rw [decide_eq_true p4]
            exact ibad
        · exact K.neg p2 ibad
      · exact K.neg p1 ibad
    refine ⟨false, ?_, hi⟩
    by_cases q0 : ∀ j : Int, 0 ≤ j → j < (sa.length : Int) → satOk pl (rd_T70 sa j)
    · by_cases q1 : ∀ j : Int, 0 ≤ j → j < (si.length : Int) → siteOk pl (rd_T72 si j)
      · by_cases q2 : ∀ j : Int, 0 ≤ j → j < (zo.length : Int) → zoneOk pl (rd_T83 zo j)
        · exact s0y q0 _ (s1y q1 _ (s2y q2 _ hs))
        · exact s0y q0 _ (s1y q1 _ (s2n q2))
      · exact s0y q0 _ (s1n q1)
    · exact s0n q0

end LFnExactIsSky
theorem FnExactIsSky (pl : Int) (sa : List S93) (si : List S95) (rc cr vw su sh : Int) (zo : List S99) (ac : Int) (h1 : sa.length ≤ 9223372036854775807) (h2 : si.length ≤ 9223372036854775807) (h3 : zo.length ≤ 9223372036854775807) (hwp : (Lit.int .i64 pl).wf = true) : ∃ k, laws_FnExactIsSky.f k pl sa si rc cr vw su sh zo ac  = some true := by
  refine K.rounds (g := fun k => laws_FnExactIsSky.f k pl sa si rc cr vw su sh zo ac ) ?_
  unfold laws_FnExactIsSky.f
  refine K.known (LFnExactIsSky.szSky _ _ _ _ _ _ _ _ _ _ h1 h2 h3) ?_
  by_cases c : (sa.length : Int) + si.length + zo.length ≤ 1048576
  · rw [if_pos c]
    have hn : ((sa.map LFnExactIsSky.cvSat).length : Int) + (si.map LFnExactIsSky.cvSite).length ≤ 4194304 := by simp; omega
    have gp := K.wf64 hwp
    obtain ⟨v, e1, e2⟩ := LFnExactIsSky.isSky pl (sa.map LFnExactIsSky.cvSat) (si.map LFnExactIsSky.cvSite) rc cr vw su sh (zo.map LFnExactIsSky.cvZone) ac (by simp; omega) (by simp; omega) (by simp; omega) gp.1 gp.2
    repeat (first | exact Ev.now _ | refine K.pos (by first | exact True.intro | with_reducible rfl | omega) ?_ | refine K.neg (by first | omega | exact Bool.false_ne_true | exact K.nbne _) ?_ | refine Ev.bind (LFnExactIsSky.toSky pl sa si rc cr vw su sh zo ac (by omega) (by omega) (by omega)) ?_ | refine Ev.bind (e1) ?_ | refine Ev.bind (e2) ?_ | refine Ev.bind (LFnExactIsSky.eqSky pl (sa.map LFnExactIsSky.cvSat) (si.map LFnExactIsSky.cvSite) rc cr vw su sh (zo.map LFnExactIsSky.cvZone) ac (by simp; omega) (by simp; omega) (by simp; omega)) ?_)
  · rw [if_neg c]
    exact K.pos (by omega) (Ev.now _)

end Go.Proofs.Ytflngcegkhgocaa.Pure
