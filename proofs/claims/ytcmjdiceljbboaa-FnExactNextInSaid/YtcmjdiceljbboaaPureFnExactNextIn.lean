/- The entry of a packed list is one number in the program and in the reference, for every packed list of at most 2^20 runs and every node. -/
import Derived.Test.YtcmjdiceljbboaaPFnExactNextInx
import Derived.Test.YtcmjdiceljbboaaKKit
namespace Go.Proofs.Ytcmjdiceljbboaa.Pure
open Go.RowKit Go.Proofs.Ytcmjdiceljbboaa.PFnExactNextIn Go.Proofs.YtcmjdiceljbboaaW.PrintWords Go.Proofs.YtcmjdiceljbboaaW.PrintLast Go.Proofs.YtcmjdiceljbboaaW.PrintMore Go.Proofs.Ytcmjdiceljbboaa
set_option linter.unusedSimpArgs false
set_option linter.unusedVariables false
namespace LFnExactNextIn

def cvRun (x : S87) : S85 := ⟨x.f0, x.f1⟩
theorem toRunS (l : List S87) (hl : l.length ≤ 1048576) : Ev (fun k => laws_toRunS.f k l) (l.map cvRun) := by
  unfold laws_toRunS.f
  refine K.pos (by omega) (K.pos (by omega) ?_)
  refine K.fill (fun k xs i => laws_toRunS.l0 k l xs i) (l.map cvRun) (by simpa using hl) ?_ ?_ l.length _ 0 (by omega) (by simp) (by simp) (by intro j hj; omega)
  · intro k xs i hi
    simp only [List.length_map] at hi
    simp only [laws_toRunS.l0]
    rw [if_neg hi]
  · intro k xs i y h0 hi hx hy
    simp only [List.length_map] at hi hx
    simp only [laws_toRunS.l0, laws_toRun.f, Option.bind_some]
    rw [if_pos hi, if_pos h0, if_pos (by omega), K.wr (x := i + 1) (by omega) (by omega)]
    have hg : l[i.toNat]? = some (l[i.toNat]'(by omega)) := List.getElem?_eq_getElem (by omega)
    rw [List.getElem?_map, hg, Option.map_some] at hy
    obtain rfl := Option.some.inj hy
    have hr : rd_T87 l i = l[i.toNat]'(by omega) := by
      simp only [rd_T87, List.getD_eq_getElem?_getD, hg, Option.getD_some]
    rw [hr]
    rfl
theorem szRunS (l : List S87) (left : Int) (h0 : 0 ≤ left) (h1 : left ≤ 1048576) (hm : l.length ≤ 9223372036854775807) : laws_szRunS.f l left = some (if (l.length : Int) ≤ left then left - l.length else -1) := by
  unfold laws_szRunS.f
  rw [K.wr (by omega) (by omega)]
  split <;> split <;> first | rfl | omega


theorem eqRunS (l : List S85) (hl : l.length ≤ 67108864) : Ev (fun k => laws_eqRunS.f k l l) true := by
  unfold laws_eqRunS.f
  refine K.pos rfl ?_
  refine K.all (n := l.length) (fun k i => laws_eqRunS.l0 k l l i) ?_ ?_ l.length 0 (by omega) (by omega)
  · intro k i hi
    simp only [laws_eqRunS.l0]
    rw [if_neg hi]
  · intro k i h0 hi
    simp only [laws_eqRunS.l0, laws_eqRun.f, ↓reduceIte, Option.bind_some]
    rw [if_pos hi, if_pos h0, if_pos hi, K.wr (x := i + 1) (by omega) (by omega)]

theorem l1In (a b c : Int) : spec_l1In.f a b c = some (decide (b ≤ a ∧ a ≤ c)) := by
  unfold spec_l1In.f
  split <;> (try split) <;> first | rfl | (congr 1; exact decide_eq_decide.2 (by omega)) | (congr 1; exact (decide_eq_false (by omega)).symm)
theorem InRange (a b c : Int) : impl_InRange.f a b c = some (decide (b ≤ a ∧ a ≤ c)) := by
  unfold impl_InRange.f
  split <;> (try split) <;> first | rfl | (congr 1; exact decide_eq_decide.2 (by omega)) | (congr 1; exact (decide_eq_false (by omega)).symm)
theorem counts_over (l : List S85) (hl : l.length ≤ 1048576) (n i : Int) (hn : 100 < n) (hn2 : n ≤ 1000) (h0 : 0 ≤ i) (hi : i ≤ (l.length : Int)) : Ev (fun k => spec_l16Counts.l0 k l n i) false := by
  refine K.succ ?_
  by_cases c : i < (l.length : Int)
  · by_cases c2 : 1 ≤ (rd_T85 l i).f0 ∧ (rd_T85 l i).f0 ≤ 100
    · simp only [spec_l16Counts.l0, l1In, Option.bind_some, decide_eq_true_eq]
      repeat (first | refine K.pos (by first | assumption | exact True.intro | with_reducible rfl | omega) ?_ | refine K.neg (by first | assumption | omega | exact Bool.false_ne_true | exact K.nbne _) ?_)
      exact Ev.now _
    · simp only [spec_l16Counts.l0, l1In, Option.bind_some, decide_eq_true_eq]
      repeat (first | refine K.pos (by first | assumption | exact True.intro | with_reducible rfl | omega) ?_ | refine K.neg (by first | assumption | omega | exact Bool.false_ne_true | exact K.nbne _) ?_)
      exact Ev.now _
  · have hd : decide (n ≤ 100) = false := decide_eq_false (by omega)
    simp only [spec_l16Counts.l0, hd]
    repeat (first | refine K.pos (by first | assumption | exact True.intro | with_reducible rfl | omega) ?_ | refine K.neg (by first | assumption | omega | exact Bool.false_ne_true | exact K.nbne _) ?_)
    exact Ev.now _
theorem unpack_in (l : List S85) (c i nx : Int) (hc : c ≤ 100) (h0 : 0 ≤ i) (hi : i + 1 ≤ 1048576) (v : List Int) : ∀ (d : Nat) (out : List Int) (j : Int), c - j = d → 0 ≤ j → out.length + d ≤ 1000 →
    Ev (fun k => impl_UnpackNext.l0 k (out ++ List.replicate d nx) l (l.length : Int) (i + 1)) v → Ev (fun k => impl_UnpackNext.l1 k out l (l.length : Int) i c j c nx) v := by
  intro d
  induction d with
  | zero =>
    intro out j hd hj ho h
    have w1 : wrap64 (i + 1) = i + 1 := K.wr (by omega) (by omega)
    refine K.succ ?_
    simp only [impl_UnpackNext.l1, w1]
    refine K.neg (by omega) ?_
    simpa using h
  | succ d ih =>
    intro out j hd hj ho h
    have w1 : wrap64 (j + 1) = j + 1 := K.wr (by omega) (by omega)
    refine K.succ ?_
    simp only [impl_UnpackNext.l1, w1]
    refine K.pos (by omega) (K.pos (by omega) (ih _ _ (by omega) (by omega) (by simp; omega) ?_))
    simpa [List.replicate_succ] using h
theorem sunpack_in (l : List S85) (i : Int) (h0 : 0 ≤ i) (hi : i < (l.length : Int)) (hl : l.length ≤ 1048576) (hc : (rd_T85 l i).f0 ≤ 100) (v : List Int) : ∀ (d : Nat) (out : List Int) (j : Int), (rd_T85 l i).f0 - j = d → 0 ≤ j → out.length + d ≤ 1000 →
    Ev (fun k => spec_UnpackNext.l0 k l (out ++ List.replicate d (rd_T85 l i).f1) (i + 1)) v → Ev (fun k => spec_UnpackNext.l1 k l out i j) v := by
  intro d
  induction d with
  | zero =>
    intro out j hd hj ho h
    have w1 : wrap64 (i + 1) = i + 1 := K.wr (by omega) (by omega)
    refine K.succ ?_
    simp only [spec_UnpackNext.l1, w1]
    refine K.pos (by omega) (K.pos (by omega) (K.neg (by omega) ?_))
    simpa using h
  | succ d ih =>
    intro out j hd hj ho h
    have w1 : wrap64 (j + 1) = j + 1 := K.wr (by omega) (by omega)
    refine K.succ ?_
    simp only [spec_UnpackNext.l1, w1]
    refine K.pos (by omega) (K.pos (by omega) (K.pos (by omega) (K.pos (by omega) (ih _ _ (by omega) (by omega) (by simp; omega) ?_))))
    simpa [List.replicate_succ] using h
theorem unpack (l : List S85) (hl : l.length ≤ 1048576) : ∀ (d : Nat) (out : List Int) (i : Int), 0 ≤ i → (l.length : Int) - i = d → out.length ≤ 100 →
    ∃ (b : Bool) (v : List Int), v.length ≤ 100 ∧ Ev (fun k => spec_l16Counts.l0 k l (out.length : Int) i) b ∧ Ev (fun k => impl_UnpackNext.l0 k out l (l.length : Int) i) v ∧ (b = true → Ev (fun k => spec_UnpackNext.l0 k l out i) v) ∧ (b = false → v = []) := by
  intro d
  induction d with
  | zero =>
    intro out i h0 hd ho
    have hdc : decide ((out.length : Int) ≤ 100) = true := decide_eq_true (by omega)
    refine ⟨true, out, ho, K.succ ?_, K.succ ?_, fun _ => K.succ ?_, fun h => by cases h⟩
    · simp only [spec_l16Counts.l0, hdc]
      repeat (first | refine K.pos (by first | assumption | exact True.intro | with_reducible rfl | omega) ?_ | refine K.neg (by first | assumption | omega | exact Bool.false_ne_true | exact K.nbne _) ?_)
      exact Ev.now _
    · simp only [impl_UnpackNext.l0]
      repeat (first | refine K.pos (by first | assumption | exact True.intro | with_reducible rfl | omega) ?_ | refine K.neg (by first | assumption | omega | exact Bool.false_ne_true | exact K.nbne _) ?_)
      exact Ev.now _
    · simp only [spec_UnpackNext.l0]
      repeat (first | refine K.pos (by first | assumption | exact True.intro | with_reducible rfl | omega) ?_ | refine K.neg (by first | assumption | omega | exact Bool.false_ne_true | exact K.nbne _) ?_)
      exact Ev.now _
  | succ d ih =>
    intro out i h0 hd ho
    have w1 : wrap64 (i + 1) = i + 1 := K.wr (by omega) (by omega)
    have w2 : wrap64 (100 - (out.length : Int)) = 100 - (out.length : Int) := K.wr (by omega) (by omega)
    by_cases c : 1 ≤ (rd_T85 l i).f0 ∧ (rd_T85 l i).f0 ≤ 100
    · have w3 : wrap64 ((out.length : Int) + (rd_T85 l i).f0) = (out.length : Int) + (rd_T85 l i).f0 := K.wr (by omega) (by omega)
      by_cases c2 : (rd_T85 l i).f0 ≤ 100 - (out.length : Int)
      · obtain ⟨b, v, hv, g1, g2, g3, g4⟩ := ih (out ++ List.replicate (rd_T85 l i).f0.toNat (rd_T85 l i).f1) (i + 1) (by omega) (by omega) (by simp; omega)
        have e : (((out ++ List.replicate (rd_T85 l i).f0.toNat (rd_T85 l i).f1).length : Nat) : Int) = (out.length : Int) + (rd_T85 l i).f0 := by simp; omega
        rw [e] at g1
        refine ⟨b, v, hv, K.succ ?_, K.succ ?_, fun hb => K.succ ?_, g4⟩
        · simp only [spec_l16Counts.l0, l1In, Option.bind_some, decide_eq_true_eq, w1, w3]
          repeat (first | refine K.pos (by first | assumption | exact True.intro | with_reducible rfl | omega) ?_ | refine K.neg (by first | assumption | omega | exact Bool.false_ne_true | exact K.nbne _) ?_)
          exact g1
        · simp only [impl_UnpackNext.l0, InRange, Option.bind_some, decide_eq_true_eq, w2]
          repeat (first | refine K.pos (by first | assumption | exact True.intro | with_reducible rfl | omega) ?_ | refine K.neg (by first | assumption | omega | exact Bool.false_ne_true | exact K.nbne _) ?_)
          exact unpack_in l _ i _ (by omega) h0 (by omega) v (rd_T85 l i).f0.toNat out 0 (by omega) (by omega) (by omega) g2
        · simp only [spec_UnpackNext.l0]
          refine K.pos (by omega) ?_
          exact sunpack_in l i h0 (by omega) hl (by omega) v (rd_T85 l i).f0.toNat out 0 (by omega) (by omega) (by omega) (g3 hb)
      · refine ⟨false, [], by simp, K.succ ?_, K.succ ?_, (fun hb => by cases hb), fun _ => rfl⟩
        · simp only [spec_l16Counts.l0, l1In, Option.bind_some, decide_eq_true_eq, w1, w3]
          repeat (first | refine K.pos (by first | assumption | exact True.intro | with_reducible rfl | omega) ?_ | refine K.neg (by first | assumption | omega | exact Bool.false_ne_true | exact K.nbne _) ?_)
          exact counts_over l hl _ _ (by omega) (by omega) (by omega) (by omega)
        · simp only [impl_UnpackNext.l0, InRange, Option.bind_some, decide_eq_true_eq, w2]
          repeat (first | refine K.pos (by first | assumption | exact True.intro | with_reducible rfl | omega) ?_ | refine K.neg (by first | assumption | omega | exact Bool.false_ne_true | exact K.nbne _) ?_)
          exact Ev.now _
    · refine ⟨false, [], by simp, K.succ ?_, K.succ ?_, (fun hb => by cases hb), fun _ => rfl⟩
      · simp only [spec_l16Counts.l0, l1In, Option.bind_some, decide_eq_true_eq, w1]
        repeat (first | refine K.pos (by first | assumption | exact True.intro | with_reducible rfl | omega) ?_ | refine K.neg (by first | assumption | omega | exact Bool.false_ne_true | exact K.nbne _) ?_)
        exact Ev.now _
      · simp only [impl_UnpackNext.l0, InRange, Option.bind_some, decide_eq_true_eq, w2]
        repeat (first | refine K.pos (by first | assumption | exact True.intro | with_reducible rfl | omega) ?_ | refine K.neg (by first | assumption | omega | exact Bool.false_ne_true | exact K.nbne _) ?_)
        exact Ev.now _
theorem unpack_both (l : List S85) (hl : l.length ≤ 1048576) : ∃ v : List Int, v.length ≤ 100 ∧ Ev (fun k => spec_UnpackNext.f k l) v ∧ Ev (fun k => impl_UnpackNext.f k l) v := by
  obtain ⟨b, v, hv, g1, g2, g3, g4⟩ := unpack l hl l.length [] 0 (by omega) (by omega) (by simp)
  refine ⟨v, hv, ?_, g2⟩
  unfold spec_UnpackNext.f spec_l16Counts.f
  simp only [Option.bind_some]
  refine Ev.bind g1 ?_
  cases b with
  | true => exact K.pos rfl (g3 rfl)
  | false =>
    rw [g4 rfl]
    exact K.neg Bool.false_ne_true (Ev.now _)

theorem isIndex (a b : Int) : impl_isIndex.f a b = some (decide (0 ≤ a ∧ a < b)) := by
  unfold impl_isIndex.f
  split <;> (try split) <;> first | rfl | (congr 1; exact decide_eq_decide.2 (by omega)) | (congr 1; exact (decide_eq_false (by omega)).symm)

theorem both (l : List S85) (hl : l.length ≤ 1048576) (n : Int) : ∃ v, Ev (fun k => spec_NextIn.f k l n) v ∧ Ev (fun k => impl_NextIn.f k l n) v := by
  obtain ⟨v, hv, h1, h2⟩ := unpack_both l hl
  unfold spec_NextIn.f impl_NextIn.f
  have w1 : wrap64 ((v.length : Int) - 1) = (v.length : Int) - 1 := K.wr (by omega) (by omega)
  by_cases c : 0 ≤ n ∧ n < (v.length : Int)
  · have e1 : decide (0 ≤ n ∧ n ≤ (v.length : Int) - 1) = true := decide_eq_true (by omega)
    have e2 : decide (0 ≤ n ∧ n < (v.length : Int)) = true := decide_eq_true c
    refine ⟨_, Ev.bind h1 (K.known ((l1In _ _ _).trans (by rw [w1, e1])) (K.pos rfl (K.pos c.1 (K.pos c.2 (Ev.now _))))), Ev.bind h2 (K.known ((isIndex _ _).trans (by rw [e2])) (K.pos rfl (K.pos c.1 (K.pos c.2 (Ev.now _)))))⟩
  · have e1 : decide (0 ≤ n ∧ n ≤ (v.length : Int) - 1) = false := decide_eq_false (by omega)
    have e2 : decide (0 ≤ n ∧ n < (v.length : Int)) = false := decide_eq_false c
    exact ⟨-1, Ev.bind h1 (K.known ((l1In _ _ _).trans (by rw [w1, e1])) (K.neg Bool.false_ne_true (Ev.now _))), Ev.bind h2 (K.known ((isIndex _ _).trans (by rw [e2])) (K.neg Bool.false_ne_true (Ev.now _)))⟩
end LFnExactNextIn
theorem FnExactNextIn (a : List S87) (n : Int) (ha : a.length ≤ 9223372036854775807) : ∃ k, laws_FnExactNextIn.f k a n = some true := by
  refine Ev.rounds (g := fun k => laws_FnExactNextIn.f k a n) ?_
  unfold laws_FnExactNextIn.f
  refine K.known (LFnExactNextIn.szRunS a 1048576 (by omega) (by omega) ha) ?_
  by_cases c : (a.length : Int) ≤ 1048576
  · rw [if_pos c]
    obtain ⟨v, h1, h2⟩ := LFnExactNextIn.both (a.map LFnExactNextIn.cvRun) (by simp; omega) n
    repeat (first | exact Ev.now _ | refine K.pos (by first | exact True.intro | with_reducible rfl | omega) ?_ | refine K.neg (by first | omega | exact Bool.false_ne_true | exact K.nbne _) ?_ | refine Ev.bind (LFnExactNextIn.toRunS a (by omega)) ?_ | refine Ev.bind (h1) ?_ | refine Ev.bind (h2) ?_ | refine Ev.bind (LFnExactNextIn.eqRunS (a.map LFnExactNextIn.cvRun) (by simp; omega)) ?_)
  · rw [if_neg c]
    exact K.pos (by omega) (Ev.now _)

end Go.Proofs.Ytcmjdiceljbboaa.Pure
