/- The place of the sun is one number in the program and in the reference, for every sky of at most 2^20 parts and every tick. -/
import Derived.Test.YtflngcegkhgocaaQFnExactSunAtx
import Derived.Test.YtflngcegkhgocaaKKit
namespace Go.Proofs.Ytflngcegkhgocaa.Pure
open Go.RowKit Go.Proofs.Ytflngcegkhgocaa.PFnExactSunAt Go.Proofs.YtflngcegkhgocaaW.PrintWords Go.Proofs.YtflngcegkhgocaaW.PrintLast Go.Proofs.YtflngcegkhgocaaW.PrintMore Go.Proofs.Ytflngcegkhgocaa
set_option linter.unusedSimpArgs false
set_option linter.unusedVariables false
namespace LFnExactSunAt

def cvSat (x : S93) : S70 := ⟨x.f0, x.f1, x.f2, x.f3⟩
theorem toSatS (l : List S93) (hl : l.length ≤ 1048576) : Ev (fun k => laws_toSatS.f k l) (l.map cvSat) := by
  unfold laws_toSatS.f
  refine K.pos (by omega) (K.pos (by omega) ?_)
  refine K.fill (fun k xs i => laws_toSatS.l0 k l xs i) (l.map cvSat) (by simpa using hl) ?_ ?_ l.length _ 0 (by omega) (by simp) (by simp) (by intro j hj; omega)
  · intro k xs i hi
    simp only [List.length_map] at hi
    simp only [laws_toSatS.l0]
    rw [if_neg hi]
  · intro k xs i y h0 hi hx hy
    simp only [List.length_map] at hi hx
    simp only [laws_toSatS.l0, laws_toSat.f, Option.bind_some]
    rw [if_pos hi, if_pos h0, if_pos (by omega), K.wr (x := i + 1) (by omega) (by omega)]
    have hg : l[i.toNat]? = some (l[i.toNat]'(by omega)) := List.getElem?_eq_getElem (by omega)
    rw [List.getElem?_map, hg, Option.map_some] at hy
    obtain rfl := Option.some.inj hy
    have hr : rd_T93 l i = l[i.toNat]'(by omega) := by
      simp only [rd_T93, List.getD_eq_getElem?_getD, hg, Option.getD_some]
    rw [hr]
    rfl
theorem szSatS (l : List S93) (left : Int) (h0 : 0 ≤ left) (h1 : left ≤ 1048576) (hm : l.length ≤ 9223372036854775807) : laws_szSatS.f l left = some (if (l.length : Int) ≤ left then left - l.length else -1) := by
  unfold laws_szSatS.f
  rw [K.wr (by omega) (by omega)]
  split <;> split <;> first | rfl | omega


def cvSite (x : S95) : S72 := ⟨x.f0, x.f1, x.f2⟩
theorem toSiteS (l : List S95) (hl : l.length ≤ 1048576) : Ev (fun k => laws_toSiteS.f k l) (l.map cvSite) := by
  unfold laws_toSiteS.f
  refine K.pos (by omega) (K.pos (by omega) ?_)
  refine K.fill (fun k xs i => laws_toSiteS.l0 k l xs i) (l.map cvSite) (by simpa using hl) ?_ ?_ l.length _ 0 (by omega) (by simp) (by simp) (by intro j hj; omega)
  · intro k xs i hi
    simp only [List.length_map] at hi
    simp only [laws_toSiteS.l0]
    rw [if_neg hi]
  · intro k xs i y h0 hi hx hy
    simp only [List.length_map] at hi hx
    simp only [laws_toSiteS.l0, laws_toSite.f, Option.bind_some]
    rw [if_pos hi, if_pos h0, if_pos (by omega), K.wr (x := i + 1) (by omega) (by omega)]
    have hg : l[i.toNat]? = some (l[i.toNat]'(by omega)) := List.getElem?_eq_getElem (by omega)
    rw [List.getElem?_map, hg, Option.map_some] at hy
    obtain rfl := Option.some.inj hy
    have hr : rd_T95 l i = l[i.toNat]'(by omega) := by
      simp only [rd_T95, List.getD_eq_getElem?_getD, hg, Option.getD_some]
    rw [hr]
    rfl
theorem szSiteS (l : List S95) (left : Int) (h0 : 0 ≤ left) (h1 : left ≤ 1048576) (hm : l.length ≤ 9223372036854775807) : laws_szSiteS.f l left = some (if (l.length : Int) ≤ left then left - l.length else -1) := by
  unfold laws_szSiteS.f
  rw [K.wr (by omega) (by omega)]
  split <;> split <;> first | rfl | omega


theorem eqSatS (l : List S70) (hl : l.length ≤ 67108864) : Ev (fun k => laws_eqSatS.f k l l) true := by
  unfold laws_eqSatS.f
  refine K.pos rfl ?_
  refine K.all (n := l.length) (fun k i => laws_eqSatS.l0 k l l i) ?_ ?_ l.length 0 (by omega) (by omega)
  · intro k i hi
    simp only [laws_eqSatS.l0]
    rw [if_neg hi]
  · intro k i h0 hi
    simp only [laws_eqSatS.l0, laws_eqSat.f, ↓reduceIte, Option.bind_some]
    rw [if_pos hi, if_pos h0, if_pos hi, K.wr (x := i + 1) (by omega) (by omega)]


theorem eqSiteS (l : List S72) (hl : l.length ≤ 67108864) : Ev (fun k => laws_eqSiteS.f k l l) true := by
  unfold laws_eqSiteS.f
  refine K.pos rfl ?_
  refine K.all (n := l.length) (fun k i => laws_eqSiteS.l0 k l l i) ?_ ?_ l.length 0 (by omega) (by omega)
  · intro k i hi
    simp only [laws_eqSiteS.l0]
    rw [if_neg hi]
  · intro k i h0 hi
    simp only [laws_eqSiteS.l0, laws_eqSite.f, ↓reduceIte, Option.bind_some]
    rw [if_pos hi, if_pos h0, if_pos hi, K.wr (x := i + 1) (by omega) (by omega)]

def cvZone (x : S99) : S83 := ⟨x.f0, ⟨x.f1.f0, x.f1.f1⟩⟩
theorem toZoneS (l : List S99) (hl : l.length ≤ 1048576) : Ev (fun k => laws_toZoneS.f k l) (l.map cvZone) := by
  unfold laws_toZoneS.f
  refine K.pos (by omega) (K.pos (by omega) ?_)
  refine K.fill (fun k xs i => laws_toZoneS.l0 k l xs i) (l.map cvZone) (by simpa using hl) ?_ ?_ l.length _ 0 (by omega) (by simp) (by simp) (by intro j hj; omega)
  · intro k xs i hi
    simp only [List.length_map] at hi
    simp only [laws_toZoneS.l0]
    rw [if_neg hi]
  · intro k xs i y h0 hi hx hy
    simp only [List.length_map] at hi hx
    simp only [laws_toZoneS.l0, laws_toZone.f, laws_toArc.f, Option.bind_some]
    rw [if_pos hi, if_pos h0, if_pos (by omega), K.wr (x := i + 1) (by omega) (by omega)]
    have hg : l[i.toNat]? = some (l[i.toNat]'(by omega)) := List.getElem?_eq_getElem (by omega)
    rw [List.getElem?_map, hg, Option.map_some] at hy
    obtain rfl := Option.some.inj hy
    have hr : rd_T99 l i = l[i.toNat]'(by omega) := by
      simp only [rd_T99, List.getD_eq_getElem?_getD, hg, Option.getD_some]
    rw [hr]
    rfl
theorem szZoneS (l : List S99) (left : Int) (h0 : 0 ≤ left) (h1 : left ≤ 1048576) (hm : l.length ≤ 9223372036854775807) : laws_szZoneS.f l left = some (if (l.length : Int) ≤ left then left - l.length else -1) := by
  unfold laws_szZoneS.f
  rw [K.wr (by omega) (by omega)]
  split <;> split <;> first | rfl | omega
theorem eqZoneS (l : List S83) (hl : l.length ≤ 67108864) : Ev (fun k => laws_eqZoneS.f k l l) true := by
  unfold laws_eqZoneS.f
  refine K.pos rfl ?_
  refine K.all (n := l.length) (fun k i => laws_eqZoneS.l0 k l l i) ?_ ?_ l.length 0 (by omega) (by omega)
  · intro k i hi
    simp only [laws_eqZoneS.l0]
    rw [if_neg hi]
  · intro k i h0 hi
    simp only [laws_eqZoneS.l0, laws_eqZone.f, laws_eqArc.f, ↓reduceIte, Option.bind_some]
    rw [if_pos hi, if_pos h0, if_pos hi, K.wr (x := i + 1) (by omega) (by omega)]
theorem szSky (pl : Int) (sa : List S93) (si : List S95) (rc cr vw su sh : Int) (zo : List S99) (ac : Int) (h1 : sa.length ≤ 9223372036854775807) (h2 : si.length ≤ 9223372036854775807) (h3 : zo.length ≤ 9223372036854775807) :
    laws_szSky.f pl sa si rc cr vw su sh zo ac 1048576 = some (if (sa.length : Int) + si.length + zo.length ≤ 1048576 then (1048576 : Int) - sa.length - si.length - zo.length else (-1 : Int)) := by
  unfold laws_szSky.f
  rw [szSatS sa 1048576 (by omega) (by omega) h1]
  simp only [Option.bind_some]
  by_cases c1 : (sa.length : Int) ≤ 1048576
  · rw [if_pos c1, if_neg (by omega), szSiteS si _ (by omega) (by omega) h2]
    simp only [Option.bind_some]
    by_cases c2 : (si.length : Int) ≤ 1048576 - sa.length
    · rw [if_pos c2, if_neg (by omega), szZoneS zo _ (by omega) (by omega) h3]
      simp only [Option.bind_some]
      by_cases c3 : (zo.length : Int) ≤ 1048576 - sa.length - si.length
      · rw [if_pos c3, if_neg (by omega), if_pos (by omega)]
      · rw [if_neg c3, if_pos (by omega), if_neg (by omega)]
    · rw [if_neg c2, if_pos (by omega), if_neg (by omega)]
  · rw [if_neg c1, if_pos (by omega), if_neg (by omega)]
theorem toSky (pl : Int) (sa : List S93) (si : List S95) (rc cr vw su sh : Int) (zo : List S99) (ac : Int) (h1 : sa.length ≤ 1048576) (h2 : si.length ≤ 1048576) (h3 : zo.length ≤ 1048576) :
    Ev (fun k => laws_toSky.f k pl sa si rc cr vw su sh zo ac) (pl, sa.map cvSat, si.map cvSite, rc, cr, vw, su, sh, zo.map cvZone, ac) := by
  unfold laws_toSky.f
  exact Ev.bind (toSatS sa h1) (Ev.bind (toSiteS si h2) (Ev.bind (toZoneS zo h3) (Ev.now _)))
theorem eqSky (pl : Int) (sa : List S70) (si : List S72) (rc cr vw su sh : Int) (zo : List S83) (ac : Int) (h1 : sa.length ≤ 1048576) (h2 : si.length ≤ 1048576) (h3 : zo.length ≤ 1048576) : Ev (fun k => laws_eqSky.f k pl sa si rc cr vw su sh zo ac pl sa si rc cr vw su sh zo ac) true := by
  unfold laws_eqSky.f
  exact K.pos rfl (Ev.bind (eqSatS sa (by omega)) (K.pos rfl (Ev.bind (eqSiteS si (by omega)) (K.pos rfl (K.pos rfl (K.pos rfl (K.pos rfl (K.pos rfl (K.pos rfl (Ev.bind (eqZoneS zo (by omega)) (K.pos rfl (K.pos rfl (Ev.now _)))))))))))))
theorem l1In (a b c : Int) : spec_l1In.f a b c = some (decide (b ≤ a ∧ a ≤ c)) := by
  unfold spec_l1In.f
  split <;> (try split) <;> first | rfl | (congr 1; exact decide_eq_decide.2 (by omega)) | (congr 1; exact (decide_eq_false (by omega)).symm)
theorem InRange (a b c : Int) : impl_InRange.f a b c = some (decide (b ≤ a ∧ a ≤ c)) := by
  unfold impl_InRange.f
  split <;> (try split) <;> first | rfl | (congr 1; exact decide_eq_decide.2 (by omega)) | (congr 1; exact (decide_eq_false (by omega)).symm)
theorem sAngle (n : Int) : spec_AngleOf.f n = some (n % 360) := by
  unfold spec_AngleOf.f spec_Mod.f
  have e : decide ((1 : Int) ≤ 360 ∧ (360 : Int) ≤ 1000000000000) = true := by decide
  simp only [l1In, e, Option.bind_some, ↓reduceIte]
  rw [if_neg (by omega)]
  have h := Int.tmod_eq_emod (a := n) (b := 360)
  have hb : -360 < Int.tmod n 360 ∧ Int.tmod n 360 < 360 := by
    rw [h]
    split <;> omega
  rw [K.wr (by omega) (by omega), Int.tmod_eq_emod_of_nonneg (by omega)]
  simp only [Option.bind_some]
  congr 1
  rw [h]
  split <;> omega
theorem iAngle (n : Int) : impl_AngleOf.f n = some (n % 360) := by
  unfold impl_AngleOf.f impl_Mod.f
  have e : decide ((1 : Int) ≤ 360 ∧ (360 : Int) ≤ 1000000000000) = true := by decide
  simp only [InRange, e, Option.bind_some, ↓reduceIte]
  rw [if_neg (by omega)]
  have h := Int.tmod_eq_emod (a := n) (b := 360)
  have hb : -360 < Int.tmod n 360 ∧ Int.tmod n 360 < 360 := by
    rw [h]
    split <;> omega
  have hd : (360 : Int) ∣ n → Int.tmod n 360 = n % 360 := by
    intro hd
    rw [h, if_pos (Or.inr hd)]
    simp
  by_cases c : Int.tmod n 360 < 0
  · rw [if_pos c, K.wr (by omega) (by omega)]
    simp only [Option.bind_some]
    congr 1
    rw [h] at c ⊢
    split at c <;> split <;> omega
  · rw [if_neg c]
    simp only [Option.bind_some]
    congr 1
    rw [h] at c ⊢
    split at c <;> split <;> omega
def placeV (ph sp t : Int) : Int := (ph % 360 + (if -60 ≤ sp ∧ sp ≤ 60 then sp else 0) * (if 0 ≤ t ∧ t ≤ 1000 then t else 0)) % 360
theorem place_bd (s t : Int) (hs : -60 ≤ s ∧ s ≤ 60) (ht : 0 ≤ t ∧ t ≤ 1000) : -60000 ≤ s * t ∧ s * t ≤ 60000 := by
  have h1 : s * t ≤ 60 * t := Int.mul_le_mul_of_nonneg_right hs.2 ht.1
  have h2 : -60 * t ≤ s * t := Int.mul_le_mul_of_nonneg_right hs.1 ht.1
  omega
theorem sPlace (a ph sp e t : Int) : spec_PlaceAt.f a ph sp e t = some (placeV ph sp t) := by
  unfold spec_PlaceAt.f placeV spec_l6Speed.f
  simp only [l1In, sAngle, Option.bind_some, decide_eq_true_eq]
  by_cases ct : 0 ≤ t ∧ t ≤ 1000
  · rw [if_pos ct]
    by_cases cs : -60 ≤ sp ∧ sp ≤ 60
    · have := place_bd sp t cs ct
      rw [if_pos cs]
      simp only [Option.bind_some, if_pos ct, if_pos cs]
      rw [K.wr (x := sp * t) (by omega) (by omega), K.wr (by omega) (by omega)]
    · rw [if_neg cs]
      simp only [Option.bind_some, if_pos ct, if_neg cs]
      rw [K.wr (x := 0 * t) (by omega) (by omega), K.wr (by omega) (by omega)]
  · rw [if_neg ct]
    by_cases cs : -60 ≤ sp ∧ sp ≤ 60
    · rw [if_pos cs]
      simp only [Option.bind_some, if_neg ct]
      rw [K.wr (by omega) (by omega), Int.mul_zero, Int.add_zero]
    · rw [if_neg cs]
      simp only [Option.bind_some, if_neg ct]
      rw [K.wr (by omega) (by omega), Int.mul_zero, Int.add_zero]
theorem iPlace (a ph sp e t : Int) : impl_PlaceAt.f a ph sp e t = some (placeV ph sp t) := by
  unfold impl_PlaceAt.f placeV impl_speedOf.f
  simp only [InRange, iAngle, Option.bind_some, decide_eq_true_eq]
  by_cases ct : 0 ≤ t ∧ t ≤ 1000
  · rw [if_pos ct]
    by_cases cs : -60 ≤ sp ∧ sp ≤ 60
    · have := place_bd sp t cs ct
      rw [if_pos cs]
      simp only [Option.bind_some, if_pos ct, if_pos cs]
      rw [K.wr (x := sp * t) (by omega) (by omega), K.wr (by omega) (by omega)]
    · rw [if_neg cs]
      simp only [Option.bind_some, if_pos ct, if_neg cs]
      rw [K.wr (x := 0 * t) (by omega) (by omega), K.wr (by omega) (by omega)]
  · rw [if_neg ct]
    by_cases cs : -60 ≤ sp ∧ sp ≤ 60
    · rw [if_pos cs]
      simp only [Option.bind_some, if_neg ct]
      rw [K.wr (by omega) (by omega), Int.mul_zero, Int.add_zero]
    · rw [if_neg cs]
      simp only [Option.bind_some, if_neg ct]
      rw [K.wr (by omega) (by omega), Int.mul_zero, Int.add_zero]
theorem place_range (ph sp t : Int) : 0 ≤ placeV ph sp t ∧ placeV ph sp t < 360 := by unfold placeV; omega
theorem sSun (pl : Int) (sa : List S70) (si : List S72) (rc cr vw su sh : Int) (zo : List S83) (ac : Int) (t : Int) : spec_SunAt.f pl sa si rc cr vw su sh zo ac t = some (placeV 0 su t) := by
  unfold spec_SunAt.f
  rw [sPlace]
  rfl
theorem iSun (pl : Int) (sa : List S70) (si : List S72) (rc cr vw su sh : Int) (zo : List S83) (ac : Int) (t : Int) : impl_SunAt.f pl sa si rc cr vw su sh zo ac t = some (placeV 0 su t) := by
  unfold impl_SunAt.f
  rw [iPlace]
  rfl

end LFnExactSunAt
theorem FnExactSunAt (pl : Int) (sa : List S93) (si : List S95) (rc cr vw su sh : Int) (zo : List S99) (ac : Int) (t : Int) (h1 : sa.length ≤ 9223372036854775807) (h2 : si.length ≤ 9223372036854775807) (h3 : zo.length ≤ 9223372036854775807) : ∃ k, laws_FnExactSunAt.f k pl sa si rc cr vw su sh zo ac t = some true := by
  refine K.rounds (g := fun k => laws_FnExactSunAt.f k pl sa si rc cr vw su sh zo ac t) ?_
  unfold laws_FnExactSunAt.f
  refine K.known (LFnExactSunAt.szSky _ _ _ _ _ _ _ _ _ _ h1 h2 h3) ?_
  by_cases c : (sa.length : Int) + si.length + zo.length ≤ 1048576
  · rw [if_pos c]
    have hn : ((sa.map LFnExactSunAt.cvSat).length : Int) + (si.map LFnExactSunAt.cvSite).length ≤ 4194304 := by simp; omega
    repeat (first | exact Ev.now _ | refine K.pos (by first | exact True.intro | with_reducible rfl | omega) ?_ | refine K.neg (by first | omega | exact Bool.false_ne_true | exact K.nbne _) ?_ | refine Ev.bind (LFnExactSunAt.toSky pl sa si rc cr vw su sh zo ac (by omega) (by omega) (by omega)) ?_ | refine K.known (LFnExactSunAt.sSun _ _ _ _ _ _ _ _ _ _ _) ?_ | refine K.known (LFnExactSunAt.iSun _ _ _ _ _ _ _ _ _ _ _) ?_ | refine Ev.bind (LFnExactSunAt.eqSky pl (sa.map LFnExactSunAt.cvSat) (si.map LFnExactSunAt.cvSite) rc cr vw su sh (zo.map LFnExactSunAt.cvZone) ac (by simp; omega) (by simp; omega) (by simp; omega)) ?_)
  · rw [if_neg c]
    exact K.pos (by omega) (Ev.now _)

end Go.Proofs.Ytflngcegkhgocaa.Pure
