/- Whether two lists of links are the same is told alike by the program and the reference, for any two lists of at most 2^20 links together. -/
import Derived.Test.YtcmjdiceljbboaaPFnExactSameLinksx
import Derived.Test.YtcmjdiceljbboaaKKit
namespace Go.Proofs.Ytcmjdiceljbboaa.Pure
open Go.RowKit Go.Proofs.Ytcmjdiceljbboaa.PFnExactSameLinks Go.Proofs.YtcmjdiceljbboaaW.PrintWords Go.Proofs.YtcmjdiceljbboaaW.PrintLast Go.Proofs.YtcmjdiceljbboaaW.PrintMore Go.Proofs.Ytcmjdiceljbboaa
namespace LFnExactSameLinks

def cvLink (x : S81) : S79 := ⟨x.f0, x.f1⟩
theorem toLinkS (l : List S81) (hl : l.length ≤ 1048576) : Ev (fun k => laws_toLinkS.f k l) (l.map cvLink) := by
  unfold laws_toLinkS.f
  refine K.pos (by omega) (K.pos (by omega) ?_)
  refine K.fill (fun k xs i => laws_toLinkS.l0 k l xs i) (l.map cvLink) (by simpa using hl) ?_ ?_ l.length _ 0 (by omega) (by simp) (by simp) (by intro j hj; omega)
  · intro k xs i hi
    simp only [List.length_map] at hi
    simp only [laws_toLinkS.l0]
    rw [if_neg hi]
  · intro k xs i y h0 hi hx hy
    simp only [List.length_map] at hi hx
    simp only [laws_toLinkS.l0, laws_toLink.f, Option.bind_some]
    rw [if_pos hi, if_pos h0, if_pos (by omega), K.wr (x := i + 1) (by omega) (by omega)]
    have hg : l[i.toNat]? = some (l[i.toNat]'(by omega)) := List.getElem?_eq_getElem (by omega)
    rw [List.getElem?_map, hg, Option.map_some] at hy
    obtain rfl := Option.some.inj hy
    have hr : rd_T81 l i = l[i.toNat]'(by omega) := by
      simp only [rd_T81, List.getD_eq_getElem?_getD, hg, Option.getD_some]
    rw [hr]
    rfl
theorem szLinkS (l : List S81) (left : Int) (h0 : 0 ≤ left) (h1 : left ≤ 1048576) (hm : l.length ≤ 9223372036854775807) : laws_szLinkS.f l left = some (if (l.length : Int) ≤ left then left - l.length else -1) := by
  unfold laws_szLinkS.f
  rw [K.wr (by omega) (by omega)]
  split <;> split <;> first | rfl | omega


theorem eqLinkS (l : List S79) (hl : l.length ≤ 67108864) : Ev (fun k => laws_eqLinkS.f k l l) true := by
  unfold laws_eqLinkS.f
  refine K.pos rfl ?_
  refine K.all (n := l.length) (fun k i => laws_eqLinkS.l0 k l l i) ?_ ?_ l.length 0 (by omega) (by omega)
  · intro k i hi
    simp only [laws_eqLinkS.l0]
    rw [if_neg hi]
  · intro k i h0 hi
    simp only [laws_eqLinkS.l0, laws_eqLink.f, ↓reduceIte, Option.bind_some]
    rw [if_pos hi, if_pos h0, if_pos hi, K.wr (x := i + 1) (by omega) (by omega)]


theorem same (a b : List S79) (hl : a.length = b.length) (hn : a.length ≤ 1048576) : ∀ (d : Nat) (i : Int), 0 ≤ i → (a.length : Int) - i = d →
    ∃ v, Ev (fun k => spec_SameLinks.l0 k a b i) v ∧ Ev (fun k => impl_Link.l0 k a b (a.length : Int) i) v := by
  intro d
  induction d with
  | zero =>
    intro i h0 hd
    refine ⟨true, K.succ ?_, K.succ ?_⟩
    · simp only [spec_SameLinks.l0]
      repeat (first | refine K.pos (by first | assumption | exact True.intro | with_reducible rfl | omega) ?_ | refine K.neg (by first | assumption | omega | exact Bool.false_ne_true | exact K.nbne _) ?_)
      exact Ev.now _
    · simp only [impl_Link.l0]
      repeat (first | refine K.pos (by first | assumption | exact True.intro | with_reducible rfl | omega) ?_ | refine K.neg (by first | assumption | omega | exact Bool.false_ne_true | exact K.nbne _) ?_)
      exact Ev.now _
  | succ d ih =>
    intro i h0 hd
    have w2 : wrap64 (i + 1) = i + 1 := K.wr (by omega) (by omega)
    by_cases c : (!(((rd_T79 a i).f0) == ((rd_T79 b i).f0)) || (!(((rd_T79 a i).f1) == ((rd_T79 b i).f1)))) = true
    · refine ⟨false, K.succ ?_, K.succ ?_⟩
      · simp only [spec_SameLinks.l0, w2]
        repeat (first | refine K.pos (by first | assumption | exact True.intro | with_reducible rfl | omega) ?_ | refine K.neg (by first | assumption | omega | exact Bool.false_ne_true | exact K.nbne _) ?_)
        exact Ev.now _
      · simp only [impl_Link.l0, w2]
        repeat (first | refine K.pos (by first | assumption | exact True.intro | with_reducible rfl | omega) ?_ | refine K.neg (by first | assumption | omega | exact Bool.false_ne_true | exact K.nbne _) ?_)
        exact Ev.now _
    · obtain ⟨v, h1, h2⟩ := ih (i + 1) (by omega) (by omega)
      refine ⟨v, K.succ ?_, K.succ ?_⟩
      · simp only [spec_SameLinks.l0, w2]
        repeat (first | refine K.pos (by first | assumption | exact True.intro | with_reducible rfl | omega) ?_ | refine K.neg (by first | assumption | omega | exact Bool.false_ne_true | exact K.nbne _) ?_)
        exact h1
      · simp only [impl_Link.l0, w2]
        repeat (first | refine K.pos (by first | assumption | exact True.intro | with_reducible rfl | omega) ?_ | refine K.neg (by first | assumption | omega | exact Bool.false_ne_true | exact K.nbne _) ?_)
        exact h2
theorem both (a b : List S79) (hn : a.length ≤ 1048576) : ∃ v, Ev (fun k => spec_SameLinks.f k a b) v ∧ Ev (fun k => impl_SameLinks.f k a b) v := by
  unfold spec_SameLinks.f impl_SameLinks.f impl_Link.f
  by_cases c : (a.length : Int) = (b.length : Int)
  · obtain ⟨v, h1, h2⟩ := same a b (by omega) hn a.length 0 (by omega) (by omega)
    exact ⟨v, K.pos c h1, Ev.bind (K.pos c h2) (Ev.now _)⟩
  · exact ⟨false, K.neg c (Ev.now _), Ev.bind (K.neg c (Ev.now _)) (Ev.now _)⟩
end LFnExactSameLinks
theorem FnExactSameLinks (a b : List S81) (ha : a.length ≤ 9223372036854775807) (hb : b.length ≤ 9223372036854775807) : ∃ k, laws_FnExactSameLinks.f k a b = some true := by
  refine Ev.rounds (g := fun k => laws_FnExactSameLinks.f k a b) ?_
  unfold laws_FnExactSameLinks.f
  refine K.known (LFnExactSameLinks.szLinkS a 1048576 (by omega) (by omega) ha) ?_
  by_cases c : (a.length : Int) ≤ 1048576
  · rw [if_pos c]
    refine K.neg (by omega) (K.known (LFnExactSameLinks.szLinkS b _ (by omega) (by omega) hb) ?_)
    by_cases c2 : (b.length : Int) ≤ 1048576 - a.length
    · rw [if_pos c2]
      obtain ⟨v, h1, h2⟩ := LFnExactSameLinks.both (a.map LFnExactSameLinks.cvLink) (b.map LFnExactSameLinks.cvLink) (by simp; omega)
      repeat (first | exact Ev.now _ | refine K.pos (by first | exact True.intro | with_reducible rfl | omega) ?_ | refine K.neg (by first | omega | exact Bool.false_ne_true | exact K.nbne _) ?_ | refine Ev.bind (LFnExactSameLinks.toLinkS a (by omega)) ?_ | refine Ev.bind (LFnExactSameLinks.toLinkS b (by omega)) ?_ | refine Ev.bind (h1) ?_ | refine Ev.bind (h2) ?_ | refine Ev.bind (LFnExactSameLinks.eqLinkS (a.map LFnExactSameLinks.cvLink) (by simp; omega)) ?_ | refine Ev.bind (LFnExactSameLinks.eqLinkS (b.map LFnExactSameLinks.cvLink) (by simp; omega)) ?_)
    · rw [if_neg c2]
      exact K.pos (by omega) (Ev.now _)
  · rw [if_neg c]
    exact K.pos (by omega) (Ev.now _)

end Go.Proofs.Ytcmjdiceljbboaa.Pure
