/- The plane of a node is one number in the program and in the reference, for every sky of at most 2^20 parts and every node. -/
import Derived.Test.YtflngcegkhgocaaQFnExactPlaneOfx
import Derived.Test.YtflngcegkhgocaaKKit
namespace Go.Proofs.Ytflngcegkhgocaa.Pure
open Go.RowKit Go.Proofs.Ytflngcegkhgocaa.PFnExactPlaneOf Go.Proofs.YtflngcegkhgocaaW.PrintWords Go.Proofs.YtflngcegkhgocaaW.PrintLast Go.Proofs.YtflngcegkhgocaaW.PrintMore Go.Proofs.Ytflngcegkhgocaa
set_option linter.unusedSimpArgs false
set_option linter.unusedVariables false
namespace LFnExactPlaneOf

def cvSat (x : S93) : S70 := ⟨x.f0, x.f1, x.f2, x.f3⟩
theorem toSatS (l : List S93) (hl : l.length ≤ 1048576) : Ev (fun k => laws_toSatS.f k l) (l.map cvSat) := by
  unfold laws_toSatS.f
  refine K.pos (by omega) (K.pos (by omega) ?_)
  refine K.fill (fun k xs i => laws_toSatS.l0 k l xs i) (l.map cvSat) (by simpa using hl) ?_ ?_ l.length _ 0 (by omega) (by simp) (by simp) (by intro j hj; omega)
  · intro k xs i hi
    simp only [List.length_map] at hi
    simp only [laws_toSatS.l0]
    rw [if_neg hi]
  · intro k xs i y h0 hi hx hy
    simp only [List.length_map] at hi hx
    simp only [laws_toSatS.l0, laws_toSat.f, Option.bind_some]
    rw [if_pos hi, if_pos h0, if_pos (by omega), K.wr (x := i + 1) (by omega) (by omega)]
    have hg : l[i.toNat]? = some (l[i.toNat]'(by omega)) := List.getElem?_eq_getElem (by omega)
    rw [List.getElem?_map, hg, Option.map_some] at hy
    obtain rfl := Option.some.inj hy
    have hr : rd_T93 l i = l[i.toNat]'(by omega) := by
      simp only [rd_T93, List.getD_eq_getElem?_getD, hg, Option.getD_some]
    rw [hr]
    rfl
theorem szSatS (l : List S93) (left : Int) (h0 : 0 ≤ left) (h1 : left ≤ 1048576) (hm : l.length ≤ 9223372036854775807) : laws_szSatS.f l left = some (if (l.length : Int) ≤ left then left - l.length else -1) := by
  unfold laws_szSatS.f
  rw [K.wr (by omega) (by omega)]
  split <;> split <;> first | rfl | omega


def cvSite (x : S95) : S72 := ⟨x.f0, x.f1, x.f2⟩
theorem toSiteS (l : List S95) (hl : l.length ≤ 1048576) : Ev (fun k => laws_toSiteS.f k l) (l.map cvSite) := by
  unfold laws_toSiteS.f
  refine K.pos (by omega) (K.pos (by omega) ?_)
  refine K.fill (fun k xs i => laws_toSiteS.l0 k l xs i) (l.map cvSite) (by simpa using hl) ?_ ?_ l.length _ 0 (by omega) (by simp) (by simp) (by intro j hj; omega)
  · intro k xs i hi
    simp only [List.length_map] at hi
    simp only [laws_toSiteS.l0]
    rw [if_neg hi]
  · intro k xs i y h0 hi hx hy
    simp only [List.length_map] at hi hx
    simp only [laws_toSiteS.l0, laws_toSite.f, Option.bind_some]
    rw [if_pos hi, if_pos h0, if_pos (by omega), K.wr (x := i + 1) (by omega) (by omega)]
    have hg : l[i.toNat]? = some (l[i.toNat]'(by omega)) := List.getElem?_eq_getElem (by omega)
    rw [List.getElem?_map, hg, Option.map_some] at hy
    obtain rfl := Option.some.inj hy
    have hr : rd_T95 l i = l[i.toNat]'(by omega) := by
      simp only [rd_T95, List.getD_eq_getElem?_getD, hg, Option.getD_some]
    rw [hr]
    rfl
theorem szSiteS (l : List S95) (left : Int) (h0 : 0 ≤ left) (h1 : left ≤ 1048576) (hm : l.length ≤ 9223372036854775807) : laws_szSiteS.f l left = some (if (l.length : Int) ≤ left then left - l.length else -1) := by
  unfold laws_szSiteS.f
  rw [K.wr (by omega) (by omega)]
  split <;> split <;> first | rfl | omega


theorem eqSatS (l : List S70) (hl : l.length ≤ 67108864) : Ev (fun k => laws_eqSatS.f k l l) true := by
  unfold laws_eqSatS.f
  refine K.pos rfl ?_
  refine K.all (n := l.length) (fun k i => laws_eqSatS.l0 k l l i) ?_ ?_ l.length 0 (by omega) (by omega)
  · intro k i hi
    simp only [laws_eqSatS.l0]
    rw [if_neg hi]
  · intro k i h0 hi
    simp only [laws_eqSatS.l0, laws_eqSat.f, ↓reduceIte, Option.bind_some]
    rw [if_pos hi, if_pos h0, if_pos hi, K.wr (x := i + 1) (by omega) (by omega)]


theorem eqSiteS (l : List S72) (hl : l.length ≤ 67108864) : Ev (fun k => laws_eqSiteS.f k l l) true := by
  unfold laws_eqSiteS.f
  refine K.pos rfl ?_
  refine K.all (n := l.length) (fun k i => laws_eqSiteS.l0 k l l i) ?_ ?_ l.length 0 (by omega) (by omega)
  · intro k i hi
    simp only [laws_eqSiteS.l0]
    rw [if_neg hi]
  · intro k i h0 hi
    simp only [laws_eqSiteS.l0, laws_eqSite.f, ↓reduceIte, Option.bind_some]
    rw [if_pos hi, if_pos h0, if_pos hi, K.wr (x := i + 1) (by omega) (by omega)]

def cvZone (x : S99) : S83 := ⟨x.f0, ⟨x.f1.f0, x.f1.f1⟩⟩
theorem toZoneS (l : List S99) (hl : l.length ≤ 1048576) : Ev (fun k => laws_toZoneS.f k l) (l.map cvZone) := by
  unfold laws_toZoneS.f
  refine K.pos (by omega) (K.pos (by omega) ?_)
  refine K.fill (fun k xs i => laws_toZoneS.l0 k l xs i) (l.map cvZone) (by simpa using hl) ?_ ?_ l.length _ 0 (by omega) (by simp) (by simp) (by intro j hj; omega)
  · intro k xs i hi
    simp only [List.length_map] at hi
    simp only [laws_toZoneS.l0]
    rw [if_neg hi]
  · intro k xs i y h0 hi hx hy
    simp only [List.length_map] at hi hx
    simp only [laws_toZoneS.l0, laws_toZone.f, laws_toArc.f, Option.bind_some]
    rw [if_pos hi, if_pos h0, if_pos (by omega), K.wr (x := i + 1) (by omega) (by omega)]
    have hg : l[i.toNat]? = some (l[i.toNat]'(by omega)) := List.getElem?_eq_getElem (by omega)
    rw [List.getElem?_map, hg, Option.map_some] at hy
    obtain rfl := Option.some.inj hy
    have hr : rd_T99 l i = l[i.toNat]'(by omega) := by
      simp only [rd_T99, List.getD_eq_getElem?_getD, hg, Option.getD_some]
    rw [hr]
    rfl
theorem szZoneS (l : List S99) (left : Int) (h0 : 0 ≤ left) (h1 : left ≤ 1048576) (hm : l.length ≤ 9223372036854775807) : laws_szZoneS.f l left = some (if (l.length : Int) ≤ left then left - l.length else -1) := by
  unfold laws_szZoneS.f
  rw [K.wr (by omega) (by omega)]
  split <;> split <;> first | rfl | omega
theorem eqZoneS (l : List S83) (hl : l.length ≤ 67108864) : Ev (fun k => laws_eqZoneS.f k l l) true := by
  unfold laws_eqZoneS.f
  refine K.pos rfl ?_
  refine K.all (n := l.length) (fun k i => laws_eqZoneS.l0 k l l i) ?_ ?_ l.length 0 (by omega) (by omega)
  · intro k i hi
    simp only [laws_eqZoneS.l0]
    rw [if_neg hi]
  · intro k i h0 hi
    simp only [laws_eqZoneS.l0, laws_eqZone.f, laws_eqArc.f, ↓reduceIte, Option.bind_some]
    rw [if_pos hi, if_pos h0, if_pos hi, K.wr (x := i + 1) (by omega) (by omega)]
theorem szSky (pl : Int) (sa : List S93) (si : List S95) (rc cr vw su sh : Int) (zo : List S99) (ac : Int) (h1 : sa.length ≤ 9223372036854775807) (h2 : si.length ≤ 9223372036854775807) (h3 : zo.length ≤ 9223372036854775807) :
    laws_szSky.f pl sa si rc cr vw su sh zo ac 1048576 = some (if (sa.length : Int) + si.length + zo.length ≤ 1048576 then (1048576 : Int) - sa.length - si.length - zo.length else (-1 : Int)) := by
  unfold laws_szSky.f
  rw [szSatS sa 1048576 (by omega) (by omega) h1]
  simp only [Option.bind_some]
  by_cases c1 : (sa.length : Int) ≤ 1048576
  · rw [if_pos c1, if_neg (by omega), szSiteS si _ (by omega) (by omega) h2]
    simp only [Option.bind_some]
    by_cases c2 : (si.length : Int) ≤ 1048576 - sa.length
    · rw [if_pos c2, if_neg (by omega), szZoneS zo _ (by omega) (by omega) h3]
      simp only [Option.bind_some]
      by_cases c3 : (zo.length : Int) ≤ 1048576 - sa.length - si.length
      · rw [if_pos c3, if_neg (by omega), if_pos (by omega)]
      · rw [if_neg c3, if_pos (by omega), if_neg (by omega)]
    · rw [if_neg c2, if_pos (by omega), if_neg (by omega)]
  · rw [if_neg c1, if_pos (by omega), if_neg (by omega)]
theorem toSky (pl : Int) (sa : List S93) (si : List S95) (rc cr vw su sh : Int) (zo : List S99) (ac : Int) (h1 : sa.length ≤ 1048576) (h2 : si.length ≤ 1048576) (h3 : zo.length ≤ 1048576) :
    Ev (fun k => laws_toSky.f k pl sa si rc cr vw su sh zo ac) (pl, sa.map cvSat, si.map cvSite, rc, cr, vw, su, sh, zo.map cvZone, ac) := by
  unfold laws_toSky.f
  exact Ev.bind (toSatS sa h1) (Ev.bind (toSiteS si h2) (Ev.bind (toZoneS zo h3) (Ev.now _)))
theorem eqSky (pl : Int) (sa : List S70) (si : List S72) (rc cr vw su sh : Int) (zo : List S83) (ac : Int) (h1 : sa.length ≤ 1048576) (h2 : si.length ≤ 1048576) (h3 : zo.length ≤ 1048576) : Ev (fun k => laws_eqSky.f k pl sa si rc cr vw su sh zo ac pl sa si rc cr vw su sh zo ac) true := by
  unfold laws_eqSky.f
  exact K.pos rfl (Ev.bind (eqSatS sa (by omega)) (K.pos rfl (Ev.bind (eqSiteS si (by omega)) (K.pos rfl (K.pos rfl (K.pos rfl (K.pos rfl (K.pos rfl (K.pos rfl (Ev.bind (eqZoneS zo (by omega)) (K.pos rfl (K.pos rfl (Ev.now _)))))))))))))
theorem l1In (a b c : Int) : spec_l1In.f a b c = some (decide (b ≤ a ∧ a ≤ c)) := by
  unfold spec_l1In.f
  split <;> (try split) <;> first | rfl | (congr 1; exact decide_eq_decide.2 (by omega)) | (congr 1; exact (decide_eq_false (by omega)).symm)
theorem InRange (a b c : Int) : impl_InRange.f a b c = some (decide (b ≤ a ∧ a ≤ c)) := by
  unfold impl_InRange.f
  split <;> (try split) <;> first | rfl | (congr 1; exact decide_eq_decide.2 (by omega)) | (congr 1; exact (decide_eq_false (by omega)).symm)
theorem sIsSite (pl : Int) (sa : List S70) (si : List S72) (rc cr vw su sh : Int) (zo : List S83) (ac : Int) (hn : (sa.length : Int) + si.length ≤ 4194304) (i : Int) : spec_IsSite.f pl sa si rc cr vw su sh zo ac i = some (decide ((sa.length : Int) ≤ i ∧ i < (sa.length : Int) + si.length)) := by
  unfold spec_IsSite.f spec_NodesOf.f
  simp only [Option.bind_some, l1In]
  rw [K.wr (x := (sa.length : Int) + si.length) (by omega) (by omega), K.wr (by omega) (by omega)]
  congr 1
  exact decide_eq_decide.2 (by omega)
theorem iIsSite (pl : Int) (sa : List S70) (si : List S72) (rc cr vw su sh : Int) (zo : List S83) (ac : Int) (hn : (sa.length : Int) + si.length ≤ 4194304) (i : Int) : impl_IsSite.f pl sa si rc cr vw su sh zo ac i = some (decide ((sa.length : Int) ≤ i ∧ i < (sa.length : Int) + si.length)) := by
  unfold impl_IsSite.f impl_NodesOf.f
  simp only [Option.bind_some, InRange]
  rw [K.wr (x := (sa.length : Int) + si.length) (by omega) (by omega), K.wr (by omega) (by omega)]
  congr 1
  exact decide_eq_decide.2 (by omega)
theorem iIsSat (pl : Int) (sa : List S70) (si : List S72) (rc cr vw su sh : Int) (zo : List S83) (ac : Int) (hn : (sa.length : Int) + si.length ≤ 4194304) (i : Int) : impl_isSatellite.f pl sa si rc cr vw su sh zo ac i = some (decide (0 ≤ i ∧ i < (sa.length : Int))) := by
  unfold impl_isSatellite.f
  simp only [Option.bind_some, InRange]
  rw [K.wr (by omega) (by omega)]
  congr 1
  exact decide_eq_decide.2 (by omega)
theorem sIsSat (sa : List S70) (hn : (sa.length : Int) ≤ 4194304) (i : Int) : spec_l1In.f i 0 (wrap64 ((sa.length : Int) - 1)) = some (decide (0 ≤ i ∧ i < (sa.length : Int))) := by
  rw [l1In, K.wr (by omega) (by omega)]
  congr 1
  exact decide_eq_decide.2 (by omega)
def planeV (sa : List S70) (si : List S72) (i : Int) : Int :=
  if 0 ≤ i ∧ i < (sa.length : Int) then (rd_T70 sa i).f0 else if (sa.length : Int) ≤ i ∧ i < (sa.length : Int) + si.length then (rd_T72 si (i - sa.length)).f0 else -1
theorem sPlane (pl : Int) (sa : List S70) (si : List S72) (rc cr vw su sh : Int) (zo : List S83) (ac : Int) (hn : (sa.length : Int) + si.length ≤ 4194304) (i : Int) : spec_PlaneOf.f pl sa si rc cr vw su sh zo ac i = some (planeV sa si i) := by
  unfold spec_PlaneOf.f planeV
  simp only [sIsSat sa (by omega), sIsSite _ _ _ _ _ _ _ _ _ _ hn, Option.bind_some, decide_eq_true_eq]
  by_cases c : 0 ≤ i ∧ i < (sa.length : Int)
  · rw [if_pos c, if_pos c, if_pos c.1, if_pos c.2]
  · rw [if_neg c, if_neg c]
    by_cases c2 : (sa.length : Int) ≤ i ∧ i < (sa.length : Int) + si.length
    · rw [if_pos c2, if_pos c2, K.wr (x := i - sa.length) (by omega) (by omega), if_pos (by omega), if_pos (by omega)]
    · rw [if_neg c2, if_neg c2]
theorem iPlane (pl : Int) (sa : List S70) (si : List S72) (rc cr vw su sh : Int) (zo : List S83) (ac : Int) (hn : (sa.length : Int) + si.length ≤ 4194304) (i : Int) : impl_PlaneOf.f pl sa si rc cr vw su sh zo ac i = some (planeV sa si i) := by
  unfold impl_PlaneOf.f planeV
  simp only [iIsSat _ _ _ _ _ _ _ _ _ _ hn, iIsSite _ _ _ _ _ _ _ _ _ _ hn, Option.bind_some, decide_eq_true_eq]
  by_cases c : 0 ≤ i ∧ i < (sa.length : Int)
  · rw [if_pos c, if_pos c, if_pos c.1, if_pos c.2]
  · rw [if_neg c, if_neg c]
    by_cases c2 : (sa.length : Int) ≤ i ∧ i < (sa.length : Int) + si.length
    · rw [if_pos c2, if_pos c2, K.wr (x := i - sa.length) (by omega) (by omega), if_pos (by omega), if_pos (by omega)]
    · rw [if_neg c2, if_neg c2]

end LFnExactPlaneOf
theorem FnExactPlaneOf (pl : Int) (sa : List S93) (si : List S95) (rc cr vw su sh : Int) (zo : List S99) (ac : Int) (i : Int) (h1 : sa.length ≤ 9223372036854775807) (h2 : si.length ≤ 9223372036854775807) (h3 : zo.length ≤ 9223372036854775807) : ∃ k, laws_FnExactPlaneOf.f k pl sa si rc cr vw su sh zo ac i = some true := by
  refine K.rounds (g := fun k => laws_FnExactPlaneOf.f k pl sa si rc cr vw su sh zo ac i) ?_
  unfold laws_FnExactPlaneOf.f
  refine K.known (LFnExactPlaneOf.szSky _ _ _ _ _ _ _ _ _ _ h1 h2 h3) ?_
  by_cases c : (sa.length : Int) + si.length + zo.length ≤ 1048576
  · rw [if_pos c]
    have hn : ((sa.map LFnExactPlaneOf.cvSat).length : Int) + (si.map LFnExactPlaneOf.cvSite).length ≤ 4194304 := by simp; omega
    repeat (first | exact Ev.now _ | refine K.pos (by first | exact True.intro | with_reducible rfl | omega) ?_ | refine K.neg (by first | omega | exact Bool.false_ne_true | exact K.nbne _) ?_ | refine Ev.bind (LFnExactPlaneOf.toSky pl sa si rc cr vw su sh zo ac (by omega) (by omega) (by omega)) ?_ | refine K.known (LFnExactPlaneOf.sPlane _ _ _ _ _ _ _ _ _ _ hn _) ?_ | refine K.known (LFnExactPlaneOf.iPlane _ _ _ _ _ _ _ _ _ _ hn _) ?_ | refine Ev.bind (LFnExactPlaneOf.eqSky pl (sa.map LFnExactPlaneOf.cvSat) (si.map LFnExactPlaneOf.cvSite) rc cr vw su sh (zo.map LFnExactPlaneOf.cvZone) ac (by simp; omega) (by simp; omega) (by simp; omega)) ?_)
  · rw [if_neg c]
    exact K.pos (by omega) (Ev.now _)

end Go.Proofs.Ytflngcegkhgocaa.Pure
