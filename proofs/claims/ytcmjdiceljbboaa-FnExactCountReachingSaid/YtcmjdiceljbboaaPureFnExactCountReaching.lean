/- The count of the program and that of the reference are one number for every list of at most 2^20 numbers. -/
import Derived.Test.YtcmjdiceljbboaaPFnExactCountReachingx
import Derived.Test.YtcmjdiceljbboaaKKit
namespace Go.Proofs.Ytcmjdiceljbboaa.Pure
open Go.RowKit Go.Proofs.Ytcmjdiceljbboaa.PFnExactCountReaching Go.Proofs.YtcmjdiceljbboaaW.PrintWords Go.Proofs.YtcmjdiceljbboaaW.PrintLast Go.Proofs.YtcmjdiceljbboaaW.PrintMore Go.Proofs.Ytcmjdiceljbboaa
namespace LFnExactCountReaching
theorem rd_of {l : List Int} {i : Int} {x : Int} (h : l[i.toNat]? = some x) : rd l i = x := by
  simp only [rd, List.getD_eq_getElem?_getD, h, Option.getD_some]
theorem rd_mem {l : List Int} {i : Int} (h0 : 0 ≤ i) (h : i < (l.length : Int)) : rd l i ∈ l := by
  have hg : l[i.toNat]? = some (l[i.toNat]'(by omega)) := List.getElem?_eq_getElem (by omega)
  rw [rd_of hg]
  exact List.getElem_mem _
theorem toIntS (l : List Int) (hl : l.length ≤ 1048576) : Ev (fun k => laws_toIntS.f k l) l := by
  unfold laws_toIntS.f
  refine K.pos (by omega) (K.pos (by omega) ?_)
  refine K.fill (fun k xs i => laws_toIntS.l0 k l xs i) l hl ?_ ?_ l.length _ 0 (by omega) (by omega) (by simp) (by intro j hj; omega)
  · intro k xs i hi
    simp only [laws_toIntS.l0]
    rw [if_neg hi]
  · intro k xs i y h0 hi hx hy
    simp only [laws_toIntS.l0]
    rw [if_pos hi, if_pos h0, if_pos (by omega), K.wr (x := i + 1) (by omega) (by omega), rd_of hy]
theorem eqIntS (l : List Int) (hl : l.length ≤ 67108864) : Ev (fun k => laws_eqIntS.f k l l) true := by
  unfold laws_eqIntS.f
  refine K.pos rfl ?_
  refine K.all (n := l.length) (fun k i => laws_eqIntS.l0 k l l i) ?_ ?_ l.length 0 (by omega) (by omega)
  · intro k i hi
    simp only [laws_eqIntS.l0]
    rw [if_neg hi]
  · intro k i h0 hi
    simp only [laws_eqIntS.l0, ↓reduceIte]
    rw [if_pos hi, if_pos h0, if_pos hi, K.wr (x := i + 1) (by omega) (by omega)]

theorem count (l : List Int) (hl : l.length ≤ 1048576) : ∀ (d : Nat) (n i : Int), 0 ≤ i → (l.length : Int) - i = d → 0 ≤ n → n ≤ i →
    ∃ v, Ev (fun k => spec_CountReaching.l0 k l n i) v ∧ Ev (fun k => impl_CountReaching.l0 k n l (l.length : Int) i) v := by
  intro d
  induction d with
  | zero =>
    intro n i h0 hd hn hi
    refine ⟨n, K.succ ?_, K.succ ?_⟩
    · simp only [spec_CountReaching.l0]
      exact K.neg (by omega) (Ev.now _)
    · simp only [impl_CountReaching.l0]
      exact K.neg (by omega) (Ev.now _)
  | succ d ih =>
    intro n i h0 hd hn hi
    have w1 : wrap64 (n + 1) = n + 1 := K.wr (by omega) (by omega)
    have w2 : wrap64 (i + 1) = i + 1 := K.wr (by omega) (by omega)
    by_cases c : rd l i ≥ 0
    · obtain ⟨v, h1, h2⟩ := ih (n + 1) (i + 1) (by omega) (by omega) (by omega) (by omega)
      refine ⟨v, K.succ ?_, K.succ ?_⟩
      · simp only [spec_CountReaching.l0, w1, w2]
        exact K.pos (by omega) (K.pos h0 (K.pos c h1))
      · simp only [impl_CountReaching.l0, w1, w2]
        exact K.pos (by omega) (K.pos h0 (K.pos (by omega) (K.pos c h2)))
    · obtain ⟨v, h1, h2⟩ := ih n (i + 1) (by omega) (by omega) (by omega) (by omega)
      refine ⟨v, K.succ ?_, K.succ ?_⟩
      · simp only [spec_CountReaching.l0, w1, w2]
        exact K.pos (by omega) (K.pos h0 (K.neg c h1))
      · simp only [impl_CountReaching.l0, w1, w2]
        exact K.pos (by omega) (K.pos h0 (K.pos (by omega) (K.neg c h2)))
end LFnExactCountReaching
theorem FnExactCountReaching (l0 : List Int) : ∃ k, laws_FnExactCountReaching.f k l0 = some true := by

  refine Ev.rounds (g := fun k => laws_FnExactCountReaching.f k l0) ?_
  unfold laws_FnExactCountReaching.f
  by_cases c : (l0.length : Int) > 1048576
  · exact K.pos c (Ev.now _)
  refine K.neg c ?_
  have hl : l0.length ≤ 1048576 := by omega
  obtain ⟨v, h1, h2⟩ := LFnExactCountReaching.count l0 hl l0.length 0 0 (by omega) (by omega) (by omega) (by omega)
  refine Ev.bind (LFnExactCountReaching.toIntS l0 hl) (Ev.bind h1 (Ev.bind (LFnExactCountReaching.toIntS l0 hl) (Ev.bind h2 (K.pos rfl (Ev.bind (LFnExactCountReaching.toIntS l0 hl) (Ev.bind (LFnExactCountReaching.eqIntS l0 (by omega)) (K.pos rfl (Ev.now _))))))))

end Go.Proofs.Ytcmjdiceljbboaa.Pure
