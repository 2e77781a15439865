/- The packed list of the program and that of the reference are one list for every list of at most 2^20 numbers. -/
import Derived.Test.YtcmjdiceljbboaaPFnExactPackNextx
import Derived.Test.YtcmjdiceljbboaaKKit
namespace Go.Proofs.Ytcmjdiceljbboaa.Pure
open Go.RowKit Go.Proofs.Ytcmjdiceljbboaa.PFnExactPackNext Go.Proofs.YtcmjdiceljbboaaW.PrintWords Go.Proofs.YtcmjdiceljbboaaW.PrintLast Go.Proofs.YtcmjdiceljbboaaW.PrintMore Go.Proofs.Ytcmjdiceljbboaa
set_option linter.unusedSimpArgs false
set_option linter.unusedVariables false
namespace LFnExactPackNext
theorem rd_of {l : List Int} {i : Int} {x : Int} (h : l[i.toNat]? = some x) : rd l i = x := by
  simp only [rd, List.getD_eq_getElem?_getD, h, Option.getD_some]
theorem rd_mem {l : List Int} {i : Int} (h0 : 0 ≤ i) (h : i < (l.length : Int)) : rd l i ∈ l := by
  have hg : l[i.toNat]? = some (l[i.toNat]'(by omega)) := List.getElem?_eq_getElem (by omega)
  rw [rd_of hg]
  exact List.getElem_mem _
theorem toIntS (l : List Int) (hl : l.length ≤ 1048576) : Ev (fun k => laws_toIntS.f k l) l := by
  unfold laws_toIntS.f
  refine K.pos (by omega) (K.pos (by omega) ?_)
  refine K.fill (fun k xs i => laws_toIntS.l0 k l xs i) l hl ?_ ?_ l.length _ 0 (by omega) (by omega) (by simp) (by intro j hj; omega)
  · intro k xs i hi
    simp only [laws_toIntS.l0]
    rw [if_neg hi]
  · intro k xs i y h0 hi hx hy
    simp only [laws_toIntS.l0]
    rw [if_pos hi, if_pos h0, if_pos (by omega), K.wr (x := i + 1) (by omega) (by omega), rd_of hy]
theorem eqIntS (l : List Int) (hl : l.length ≤ 67108864) : Ev (fun k => laws_eqIntS.f k l l) true := by
  unfold laws_eqIntS.f
  refine K.pos rfl ?_
  refine K.all (n := l.length) (fun k i => laws_eqIntS.l0 k l l i) ?_ ?_ l.length 0 (by omega) (by omega)
  · intro k i hi
    simp only [laws_eqIntS.l0]
    rw [if_neg hi]
  · intro k i h0 hi
    simp only [laws_eqIntS.l0, ↓reduceIte]
    rw [if_pos hi, if_pos h0, if_pos hi, K.wr (x := i + 1) (by omega) (by omega)]
theorem layIntS (l : List Int) (c : Int) (hl : l.length ≤ 67108864) (hc0 : 0 ≤ c) (hc1 : c ≤ 1099511627776) : ∃ m ys, c ≤ m ∧ m ≤ c + 16 * l.length ∧ Ev (fun k => laws_markIntS.f k l c) (m, ys) := by
  unfold laws_markIntS.f
  refine Exists.elim (K.lay (fun k xs c i => laws_markIntS.l0 k xs c i) l.length 1 (fun c _ => c) (by omega) (by omega)
    ?_ ?_ l.length l c 0 (by omega) (by omega) rfl (by omega) (by omega)) (fun m h => h.elim fun ys h => ⟨m, ys, h.1, h.2.1, h.2.2.2⟩)
  · intro k xs c i hi hx
    simp only [laws_markIntS.l0]
    rw [if_neg (by omega)]
  · intro k xs c i x h0 hi hx hc0 hc1 hxi
    simp only [laws_markIntS.l0]
    rw [if_pos (by omega), if_pos h0, K.wr (x := c + 1) (by omega) (by omega), K.wr (x := i + 1) (by omega) (by omega)]


theorem eqRunS (l : List S85) (hl : l.length ≤ 67108864) : Ev (fun k => laws_eqRunS.f k l l) true := by
  unfold laws_eqRunS.f
  refine K.pos rfl ?_
  refine K.all (n := l.length) (fun k i => laws_eqRunS.l0 k l l i) ?_ ?_ l.length 0 (by omega) (by omega)
  · intro k i hi
    simp only [laws_eqRunS.l0]
    rw [if_neg hi]
  · intro k i h0 hi
    simp only [laws_eqRunS.l0, laws_eqRun.f, ↓reduceIte, Option.bind_some]
    rw [if_pos hi, if_pos h0, if_pos hi, K.wr (x := i + 1) (by omega) (by omega)]


theorem rd_Run_of {l : List S85} {i : Int} {x : S85} (h : l[i.toNat]? = some x) : rd_T85 l i = x := by
  simp only [rd_T85, List.getD_eq_getElem?_getD, h, Option.getD_some]
theorem rd_Run_set {l : List S85} {i : Int} {x : S85} (h : i.toNat < l.length) : rd_T85 (l.set i.toNat x) i = x :=
  rd_Run_of (List.getElem?_set_self h)


theorem markRunS (l : List S85) (hl : l.length ≤ 67108864) : ∃ m ys, 1 ≤ m ∧ Ev (fun k => laws_markRunS.f k l 1) (m, ys) ∧ Ev (fun k => laws_heldRunS.f k ys 1) m := by
  unfold laws_markRunS.f laws_heldRunS.f
  refine Exists.elim (K.marks (fun k xs c i => laws_markRunS.l0 k xs c i) (fun k xs c i => laws_heldRunS.l0 k xs c i) l.length 2 (fun c _ => (⟨c, c + 1⟩ : S85)) (by omega) (by omega) hl
    ?_ ?_ ?_ ?_ l.length l 1 0 (by omega) (by omega) rfl (by omega) (by omega)) (fun m h => h.elim fun ys h => ⟨m, ys, h.1, h.2.2.2.2.1, h.2.2.2.2.2⟩)
  · intro k xs c i hi hx
    simp only [laws_markRunS.l0]
    rw [if_neg (by omega)]
  · intro k xs c i x h0 hi hx hc0 hc1 hxi
    have hlt : i.toNat < xs.length := by omega
    simp only [laws_markRunS.l0, Option.bind_some]
    rw [if_pos (by omega), if_pos h0]
    rw [K.wr (x := c + 1) (by omega) (by omega)]
    rw [K.wr (x := c + 1 + 1) (by omega) (by omega), show c + 1 + 1 = c + 2 by omega]
    simp only [rd_Run_set, List.length_set, hlt, List.set_set]
    rw [K.wr (x := i + 1) (by omega) (by omega)]
  · intro k xs c i hi hx
    simp only [laws_heldRunS.l0]
    rw [if_neg (by omega)]
  · intro k xs c i x h0 hi hx hc0 hc1 hxi
    simp only [laws_heldRunS.l0]
    rw [if_pos (by omega), if_pos h0, rd_Run_of hxi]
    rw [K.wr (x := c + 1) (by omega) (by omega)]
    rw [K.wr (x := c + 1 + 1) (by omega) (by omega), show c + 1 + 1 = c + 2 by omega]
    simp only [↓reduceIte]
    rw [K.wr (x := i + 1) (by omega) (by omega)]


theorem pack (l : List Int) (hl : l.length ≤ 1048576) : ∀ (d : Nat) (out : List S85) (i : Int), 0 ≤ i → (l.length : Int) - i = d → (out.length : Int) ≤ i →
    ∃ v : List S85, v.length ≤ 1048576 ∧ Ev (fun k => spec_PackNext.l0 k l out i) v ∧ Ev (fun k => impl_PackNext.l0 k out l (l.length : Int) i) v := by
  intro d
  induction d with
  | zero =>
    intro out i h0 hd ho
    refine ⟨out, by omega, K.succ ?_, K.succ ?_⟩
    · simp only [spec_PackNext.l0]
      repeat (first | refine K.pos (by first | assumption | exact True.intro | with_reducible rfl | omega) ?_ | refine K.neg (by first | assumption | omega | exact Bool.false_ne_true | exact K.nbne _) ?_)
      exact Ev.now _
    · simp only [impl_PackNext.l0]
      repeat (first | refine K.pos (by first | assumption | exact True.intro | with_reducible rfl | omega) ?_ | refine K.neg (by first | assumption | omega | exact Bool.false_ne_true | exact K.nbne _) ?_)
      exact Ev.now _
  | succ d ih =>
    intro out i h0 hd ho
    have w2 : wrap64 (i + 1) = i + 1 := K.wr (by omega) (by omega)
    have w3 : wrap64 ((out.length : Int) - 1) = (out.length : Int) - 1 := K.wr (by omega) (by omega)
    by_cases c : out.length = 0
    · obtain ⟨v, hv, h1, h2⟩ := ih (out ++ [(⟨1, rd l i⟩ : S85)]) (i + 1) (by omega) (by omega) (by simp; omega)
      refine ⟨v, hv, K.succ ?_, K.succ ?_⟩
      · simp only [spec_PackNext.l0, w2, w3]
        repeat (first | refine K.pos (by first | assumption | exact True.intro | with_reducible rfl | omega) ?_ | refine K.neg (by first | assumption | omega | exact Bool.false_ne_true | exact K.nbne _) ?_)
        exact h1
      · simp only [impl_PackNext.l0, w2, w3]
        repeat (first | refine K.pos (by first | assumption | exact True.intro | with_reducible rfl | omega) ?_ | refine K.neg (by first | assumption | omega | exact Bool.false_ne_true | exact K.nbne _) ?_)
        exact h2
    · by_cases c2 : (rd_T85 out ((out.length : Int) - 1)).f1 = rd l i
      · obtain ⟨v, hv, h1, h2⟩ := ih (out.set ((out.length : Int) - 1).toNat (⟨wrap64 ((rd_T85 out ((out.length : Int) - 1)).f0 + 1), (rd_T85 out ((out.length : Int) - 1)).f1⟩ : S85)) (i + 1) (by omega) (by omega) (by simp; omega)
        refine ⟨v, hv, K.succ ?_, K.succ ?_⟩
        · simp only [spec_PackNext.l0, w2, w3]
          repeat (first | refine K.pos (by first | assumption | exact True.intro | with_reducible rfl | omega) ?_ | refine K.neg (by first | assumption | omega | exact Bool.false_ne_true | exact K.nbne _) ?_)
          exact h1
        · simp only [impl_PackNext.l0, w2, w3]
          repeat (first | refine K.pos (by first | assumption | exact True.intro | with_reducible rfl | omega) ?_ | refine K.neg (by first | assumption | omega | exact Bool.false_ne_true | exact K.nbne _) ?_)
          exact h2
      · obtain ⟨v, hv, h1, h2⟩ := ih (out ++ [(⟨1, rd l i⟩ : S85)]) (i + 1) (by omega) (by omega) (by simp; omega)
        refine ⟨v, hv, K.succ ?_, K.succ ?_⟩
        · simp only [spec_PackNext.l0, w2, w3]
          repeat (first | refine K.pos (by first | assumption | exact True.intro | with_reducible rfl | omega) ?_ | refine K.neg (by first | assumption | omega | exact Bool.false_ne_true | exact K.nbne _) ?_)
          exact h1
        · simp only [impl_PackNext.l0, w2, w3]
          repeat (first | refine K.pos (by first | assumption | exact True.intro | with_reducible rfl | omega) ?_ | refine K.neg (by first | assumption | omega | exact Bool.false_ne_true | exact K.nbne _) ?_)
          exact h2
end LFnExactPackNext
theorem FnExactPackNext (l0 : List Int) : ∃ k, laws_FnExactPackNext.f k l0 = some true := by
  refine Ev.rounds (g := fun k => laws_FnExactPackNext.f k l0) ?_
  unfold laws_FnExactPackNext.f
  by_cases c : (l0.length : Int) > 1048576
  · exact K.pos c (Ev.now _)
  have hl : l0.length ≤ 1048576 := by omega
  obtain ⟨v, hv, h1, h2⟩ := LFnExactPackNext.pack l0 hl l0.length [] 0 (by omega) (by omega) (by simp)
  obtain ⟨m0, y0, hm0, _, g0⟩ := LFnExactPackNext.layIntS l0 1 (by omega) (by omega) (by omega)
  obtain ⟨m1, y1, hm1, g1, g2⟩ := LFnExactPackNext.markRunS v (by omega)
  repeat (first | exact Ev.now _ | refine K.pos (by first | exact True.intro | with_reducible rfl | omega) ?_ | refine K.neg (by first | omega | exact Bool.false_ne_true | exact K.nbne _) ?_ | refine Ev.bind (LFnExactPackNext.toIntS l0 hl) ?_ | refine Ev.bind (h1) ?_ | refine Ev.bind (h2) ?_ | refine Ev.bind (LFnExactPackNext.eqRunS v (by omega)) ?_ | refine Ev.bind (LFnExactPackNext.eqIntS l0 (by omega)) ?_ | refine Ev.bind (g0) ?_ | refine Ev.bind (g1) ?_ | refine Ev.bind (g2) ?_ | (refine K.succ ?_; simp only [laws_FnExactPackNext.j0]))

end Go.Proofs.Ytcmjdiceljbboaa.Pure
