/- The route of a table is one list in the program and in the reference, for every table of at most 2^20 entries and every start. -/
import Derived.Test.YtflngcegkhgocaaQFnExactRouteOfx
import Derived.Test.YtflngcegkhgocaaKKit
namespace Go.Proofs.Ytflngcegkhgocaa.Pure
open Go.RowKit Go.Proofs.Ytflngcegkhgocaa.PFnExactRouteOf Go.Proofs.YtflngcegkhgocaaW.PrintWords Go.Proofs.YtflngcegkhgocaaW.PrintLast Go.Proofs.YtflngcegkhgocaaW.PrintMore Go.Proofs.Ytflngcegkhgocaa
set_option linter.unusedSimpArgs false
set_option linter.unusedVariables false
namespace LFnExactRouteOf
theorem rd_of {l : List Int} {i : Int} {x : Int} (h : l[i.toNat]? = some x) : rd l i = x := by
  simp only [rd, List.getD_eq_getElem?_getD, h, Option.getD_some]
theorem rd_mem {l : List Int} {i : Int} (h0 : 0 ≤ i) (h : i < (l.length : Int)) : rd l i ∈ l := by
  have hg : l[i.toNat]? = some (l[i.toNat]'(by omega)) := List.getElem?_eq_getElem (by omega)
  rw [rd_of hg]
  exact List.getElem_mem _
theorem toIntS (l : List Int) (hl : l.length ≤ 1048576) : Ev (fun k => laws_toIntS.f k l) l := by
  unfold laws_toIntS.f
  refine K.pos (by omega) (K.pos (by omega) ?_)
  refine K.fill (fun k xs i => laws_toIntS.l0 k l xs i) l hl ?_ ?_ l.length _ 0 (by omega) (by omega) (by simp) (by intro j hj; omega)
  · intro k xs i hi
    simp only [laws_toIntS.l0]
    rw [if_neg hi]
  · intro k xs i y h0 hi hx hy
    simp only [laws_toIntS.l0]
    rw [if_pos hi, if_pos h0, if_pos (by omega), K.wr (x := i + 1) (by omega) (by omega), rd_of hy]
theorem eqIntS (l : List Int) (hl : l.length ≤ 67108864) : Ev (fun k => laws_eqIntS.f k l l) true := by
  unfold laws_eqIntS.f
  refine K.pos rfl ?_
  refine K.all (n := l.length) (fun k i => laws_eqIntS.l0 k l l i) ?_ ?_ l.length 0 (by omega) (by omega)
  · intro k i hi
    simp only [laws_eqIntS.l0]
    rw [if_neg hi]
  · intro k i h0 hi
    simp only [laws_eqIntS.l0, ↓reduceIte]
    rw [if_pos hi, if_pos h0, if_pos hi, K.wr (x := i + 1) (by omega) (by omega)]
theorem szIntS (l : List Int) (left : Int) (h0 : 0 ≤ left) (h1 : left ≤ 1048576) (hm : l.length ≤ 9223372036854775807) : laws_szIntS.f l left = some (if (l.length : Int) ≤ left then left - l.length else -1) := by
  unfold laws_szIntS.f
  rw [K.wr (by omega) (by omega)]
  split <;> split <;> first | rfl | omega
theorem szTable (d : Int) (a b : List Int) (left : Int) (h0 : 0 ≤ left) (h1 : left ≤ 1048576) (ha : a.length ≤ 9223372036854775807) (hb : b.length ≤ 9223372036854775807) :
    laws_szTable.f d a b left = some (if (a.length : Int) + b.length ≤ left then left - a.length - b.length else -1) := by
  unfold laws_szTable.f
  rw [szIntS a left h0 h1 ha]
  simp only [Option.bind_some]
  by_cases c : (a.length : Int) ≤ left
  · rw [if_pos c, szIntS b _ (by omega) (by omega) hb]
    simp only [Option.bind_some]
    rw [if_neg (by omega)]
    by_cases c2 : (b.length : Int) ≤ left - a.length
    · rw [if_pos c2, if_neg (by omega), if_pos (by omega)]
    · rw [if_neg c2, if_pos (by omega), if_neg (by omega)]
  · rw [if_neg c, if_pos (by omega), if_neg (by omega)]
theorem toTable (d : Int) (a b : List Int) (ha : a.length ≤ 1048576) (hb : b.length ≤ 1048576) : Ev (fun k => laws_toTable.f k d a b) (d, a, b) := by
  unfold laws_toTable.f
  exact Ev.bind (toIntS a ha) (Ev.bind (toIntS b hb) (Ev.now _))
theorem eqTable (d : Int) (a b : List Int) (ha : a.length ≤ 1048576) (hb : b.length ≤ 1048576) : Ev (fun k => laws_eqTable.f k d a b d a b) true := by
  unfold laws_eqTable.f
  exact K.pos rfl (Ev.bind (eqIntS a (by omega)) (K.pos rfl (Ev.bind (eqIntS b (by omega)) (K.pos rfl (Ev.now _)))))
theorem l1In (a b c : Int) : spec_l1In.f a b c = some (decide (b ≤ a ∧ a ≤ c)) := by
  unfold spec_l1In.f
  split <;> (try split) <;> first | rfl | (congr 1; exact decide_eq_decide.2 (by omega)) | (congr 1; exact (decide_eq_false (by omega)).symm)
theorem isIndex (a b : Int) : impl_isIndex.f a b = some (decide (0 ≤ a ∧ a < b)) := by
  unfold impl_isIndex.f
  split <;> (try split) <;> first | rfl | (congr 1; exact decide_eq_decide.2 (by omega)) | (congr 1; exact (decide_eq_false (by omega)).symm)
theorem path (l : List Int) (hl : l.length ≤ 1048576) (e : Int) : ∀ (d : Nat) (out : List Int) (i : Int), (l.length : Int) + 1 - out.length = d →
    ∃ v : List Int, v.length ≤ 1048577 ∧ Ev (fun k => spec_PathTo.l0 k l e out i) v ∧ Ev (fun k => impl_PathTo.l0 k l i e out) v := by
  intro d
  induction d with
  | zero =>
    intro out i hd
    refine ⟨[], by simp, K.succ ?_, K.succ ?_⟩
    · simp only [spec_PathTo.l0]
      refine K.neg (by omega) (K.succ ?_)
      simp only [spec_PathTo.j1]
      exact K.neg (by simp) (Ev.now _)
    · simp only [impl_PathTo.l0]
      refine K.neg (by omega) (K.succ ?_)
      simp only [impl_PathTo.j1]
      exact K.neg (by simp) (Ev.now _)
  | succ d ih =>
    intro out i hd
    have w1 : wrap64 ((l.length : Int) - 1) = (l.length : Int) - 1 := K.wr (by omega) (by omega)
    have hs : ∀ k, spec_PathTo.l0 (k + 1) l e out i = spec_PathTo.j1 k l e out i (decide (0 ≤ i ∧ i < (l.length : Int))) := by
      intro k
      have hif : (0 ≤ i ∧ i ≤ (l.length : Int) - 1) = (0 ≤ i ∧ i < (l.length : Int)) := propext (by omega)
      simp only [spec_PathTo.l0, l1In, Option.bind_some, w1, hif]
      rw [if_pos (by omega)]
    have hi : ∀ k, impl_PathTo.l0 (k + 1) l i e out = impl_PathTo.j1 k l i e out (decide (0 ≤ i ∧ i < (l.length : Int))) := by
      intro k
      simp only [impl_PathTo.l0, isIndex, Option.bind_some]
      rw [if_pos (by omega)]
    by_cases c : 0 ≤ i ∧ i < (l.length : Int)
    · have hd1 : decide (0 ≤ i ∧ i < (l.length : Int)) = true := by simpa using c
      by_cases ce : i = e
      · refine ⟨out ++ [i], by simp; omega, K.succ ?_, K.succ ?_⟩
        · simp only [hs, hd1]
          refine K.succ ?_
          simp only [spec_PathTo.j1, Option.bind_some]
          exact K.pos (by trivial) (K.pos (by omega) (K.pos ce (Ev.now _)))
        · simp only [hi, hd1]
          refine K.succ ?_
          simp only [impl_PathTo.j1, Option.bind_some]
          exact K.pos (by trivial) (K.pos (by omega) (K.pos ce (Ev.now _)))
      · obtain ⟨v, hv, h1, h2⟩ := ih (out ++ [i]) (rd l i) (by simp; omega)
        refine ⟨v, hv, K.succ ?_, K.succ ?_⟩
        · simp only [hs, hd1]
          refine K.succ ?_
          simp only [spec_PathTo.j1, Option.bind_some]
          exact K.pos (by trivial) (K.pos (by omega) (K.neg ce (K.pos c.1 (K.pos c.2 h1))))
        · simp only [hi, hd1]
          refine K.succ ?_
          simp only [impl_PathTo.j1, Option.bind_some]
          exact K.pos (by trivial) (K.pos (by omega) (K.neg ce (K.pos c.1 (K.pos c.2 h2))))
    · have hd1 : decide (0 ≤ i ∧ i < (l.length : Int)) = false := by simpa using c
      refine ⟨[], by simp, K.succ ?_, K.succ ?_⟩
      · simp only [hs, hd1]
        refine K.succ ?_
        simp only [spec_PathTo.j1]
        exact K.neg (by simp) (Ev.now _)
      · simp only [hi, hd1]
        refine K.succ ?_
        simp only [impl_PathTo.j1]
        exact K.neg (by simp) (Ev.now _)

theorem markIntS (l : List Int) (hl : l.length ≤ 67108864) : ∃ m ys, 1 ≤ m ∧ Ev (fun k => laws_markIntS.f k l 1) (m, ys) ∧ Ev (fun k => laws_heldIntS.f k ys 1) m := by
  unfold laws_markIntS.f laws_heldIntS.f
  refine Exists.elim (K.marks (fun k xs c i => laws_markIntS.l0 k xs c i) (fun k xs c i => laws_heldIntS.l0 k xs c i) l.length 1 (fun c _ => c) (by omega) (by omega) hl
    ?_ ?_ ?_ ?_ l.length l 1 0 (by omega) (by omega) rfl (by omega) (by omega)) (fun m h => h.elim fun ys h => ⟨m, ys, h.1, h.2.2.2.2.1, h.2.2.2.2.2⟩)
  · intro k xs c i hi hx
    simp only [laws_markIntS.l0]
    rw [if_neg (by omega)]
  · intro k xs c i x h0 hi hx hc0 hc1 hxi
    simp only [laws_markIntS.l0]
    rw [if_pos (by omega), if_pos h0, K.wr (x := c + 1) (by omega) (by omega), K.wr (x := i + 1) (by omega) (by omega)]
  · intro k xs c i hi hx
    simp only [laws_heldIntS.l0]
    rw [if_neg (by omega)]
  · intro k xs c i x h0 hi hx hc0 hc1 hxi
    simp only [laws_heldIntS.l0]
    rw [if_pos (by omega), if_pos h0, rd_of hxi, if_pos rfl, K.wr (x := c + 1) (by omega) (by omega), K.wr (x := i + 1) (by omega) (by omega)]
theorem layIntS (l : List Int) (c : Int) (hl : l.length ≤ 67108864) (hc0 : 0 ≤ c) (hc1 : c ≤ 1099511627776) : ∃ m ys, c ≤ m ∧ m ≤ c + 16 * l.length ∧ Ev (fun k => laws_markIntS.f k l c) (m, ys) := by
  unfold laws_markIntS.f
  refine Exists.elim (K.lay (fun k xs c i => laws_markIntS.l0 k xs c i) l.length 1 (fun c _ => c) (by omega) (by omega)
    ?_ ?_ l.length l c 0 (by omega) (by omega) rfl (by omega) (by omega)) (fun m h => h.elim fun ys h => ⟨m, ys, h.1, h.2.1, h.2.2.2⟩)
  · intro k xs c i hi hx
    simp only [laws_markIntS.l0]
    rw [if_neg (by omega)]
  · intro k xs c i x h0 hi hx hc0 hc1 hxi
    simp only [laws_markIntS.l0]
    rw [if_pos (by omega), if_pos h0, K.wr (x := c + 1) (by omega) (by omega), K.wr (x := i + 1) (by omega) (by omega)]


theorem layTable (d : Int) (a b : List Int) (ha : a.length ≤ 1048576) (hb : b.length ≤ 1048576) : ∃ m y, 1 ≤ m ∧ Ev (fun k => laws_markTable.f k d a b 1) (m, y) := by
  unfold laws_markTable.f
  obtain ⟨m0, y0, h0, h1, g0⟩ := layIntS a 1 (by omega) (by omega) (by omega)
  obtain ⟨m1, y1, h2, h3, g1⟩ := layIntS b m0 (by omega) (by omega) (by omega)
  exact ⟨m1, _, by omega, Ev.bind g0 (Ev.bind g1 (Ev.now _))⟩
end LFnExactRouteOf
theorem FnExactRouteOf (dst : Int) (a b : List Int) (n : Int) (ha : a.length ≤ 9223372036854775807) (hb : b.length ≤ 9223372036854775807) : ∃ k, laws_FnExactRouteOf.f k dst a b n = some true := by
  refine K.rounds (g := fun k => laws_FnExactRouteOf.f k dst a b n) ?_
  unfold laws_FnExactRouteOf.f
  refine K.known (LFnExactRouteOf.szTable dst a b 1048576 (by omega) (by omega) ha hb) ?_
  by_cases c : (a.length : Int) + b.length ≤ 1048576
  · rw [if_pos c]
    obtain ⟨v, hv, h1, h2⟩ := LFnExactRouteOf.path b (by omega) dst (b.length + 1) [] n (by simp)
    have r1 : Ev (fun k => spec_RouteOf.f k dst a b n) v := Ev.bind (g := fun k => spec_PathTo.f k b n dst) h1 (Ev.now _)
    have r2 : Ev (fun k => impl_RouteOf.f k dst a b n) v := Ev.bind (g := fun k => impl_PathTo.f k b n dst) h2 (Ev.now _)
    obtain ⟨m0, y0, hm0, g0⟩ := LFnExactRouteOf.layTable dst a b (by omega) (by omega)
    obtain ⟨m1, y1, hm1, g1, g2⟩ := LFnExactRouteOf.markIntS v (by omega)
    repeat (first | exact Ev.now _ | refine K.pos (by first | exact True.intro | with_reducible rfl | omega) ?_ | refine K.neg (by first | omega | exact Bool.false_ne_true | exact K.nbne _) ?_ | refine Ev.bind (LFnExactRouteOf.toTable dst a b (by omega) (by omega)) ?_ | refine Ev.bind (r1) ?_ | refine Ev.bind (r2) ?_ | refine Ev.bind (LFnExactRouteOf.eqTable dst a b (by omega) (by omega)) ?_ | refine Ev.bind (LFnExactRouteOf.eqIntS v (by omega)) ?_ | refine Ev.bind (g0) ?_ | refine Ev.bind (g1) ?_ | refine Ev.bind (g2) ?_ | (refine K.succ ?_; simp only [laws_FnExactRouteOf.j0]))
  · rw [if_neg c]
    exact K.pos (by omega) (Ev.now _)

end Go.Proofs.Ytflngcegkhgocaa.Pure
