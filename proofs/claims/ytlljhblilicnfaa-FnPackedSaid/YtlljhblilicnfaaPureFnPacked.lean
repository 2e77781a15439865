/- At every code of at most 2^20 bytes, the packed list of the drawn table has as many runs as there are changes and gives back every number; and of the drawn list of runs, if it is packed, packing what it unpacks to gives as many runs. -/
import Derived.Test.YtlljhblilicnfaaQFnPackedx
import Derived.Test.YtlljhblilicnfaaKKit
namespace Go.Proofs.Ytlljhblilicnfaa.Pure
open Go.RowKit Go.Proofs.Ytlljhblilicnfaa.PFnPacked Go.Proofs.YtlljhblilicnfaaW.PrintWords Go.Proofs.YtlljhblilicnfaaW.PrintLast Go.Proofs.YtlljhblilicnfaaW.PrintMore Go.Proofs.Ytlljhblilicnfaa
set_option linter.unusedSimpArgs false
set_option linter.unusedVariables false
namespace LFnPacked
theorem and255 (n : Int) : Go.bits .and .i64 n 255 = n % 256 := by
  have h255 : (BitVec.ofInt 64 255).toNat = 2 ^ 8 - 1 := by decide
  have key : (BitVec.ofInt 64 n &&& BitVec.ofInt 64 255).toNat = (n % ((2 ^ 64 : Nat) : Int)).toNat % 2 ^ 8 := by
    rw [BitVec.toNat_and, BitVec.toNat_ofInt, h255, Nat.and_two_pow_sub_one_eq_mod]
  show IntKind.i64.wrap ((BitVec.ofInt 64 n &&& BitVec.ofInt 64 255).toNat : Nat) = n % 256
  rw [key, IntKind.wrap_i64]
  omega
theorem l1New (l : List Int) (hl : l.length ≤ 1048576) : ∃ h, Ev (fun k => spec_l1New.f k l) (l, 0, h) := by
  have loop : ∀ (d : Nat) (h i : Int), 0 ≤ i → (l.length : Int) - i = d → ∃ h', Ev (fun k => spec_l1New.l0 k l h i) (l, 0, h') := by
    intro d
    induction d with
    | zero =>
      intro h i h0 hd
      refine ⟨h, K.succ ?_⟩
      simp only [spec_l1New.l0]
      exact K.neg (by omega) (Ev.now _)
    | succ d ih =>
      intro h i h0 hd
      by_cases c : i < 4000
      · obtain ⟨h', g⟩ := ih (Go.bits .and .i64 (wrap64 ((wrap64 ((wrap64 (h * 137)) + (wrap64 (rd l i)))) + 11)) 1073741823) (i + 1) (by omega) (by omega)
        refine ⟨h', K.succ ?_⟩
        simp only [spec_l1New.l0]
        rw [K.wr (x := i + 1) (by omega) (by omega)]
        exact K.pos (by omega) (K.pos c (K.pos h0 g))
      · refine ⟨h, K.succ ?_⟩
        simp only [spec_l1New.l0]
        exact K.pos (by omega) (K.neg c (Ev.now _))
  unfold spec_l1New.f
  exact loop l.length _ 0 (by omega) (by omega)
theorem l1Byte (l : List Int) (hl : l.length ≤ 1048576) (i h : Int) (h0 : 0 ≤ i) (h1 : i ≤ (l.length : Int)) :
    ∃ v i' h', spec_l1Byte.f l i h = some (v, i', h') ∧ 0 ≤ v ∧ v ≤ 255 ∧ 0 ≤ i' ∧ i' ≤ (l.length : Int) := by
  unfold spec_l1Byte.f
  simp only [and255]
  by_cases c : i < (l.length : Int)
  · rw [if_pos c, if_pos h0, K.wr (x := i + 1) (by omega) (by omega)]
    exact ⟨_, _, _, rfl, by omega, by omega, by omega, by omega⟩
  · rw [if_neg c]
    exact ⟨_, _, _, rfl, by omega, by omega, h0, h1⟩
theorem l1Below (l : List Int) (hl : l.length ≤ 1048576) (i h : Int) (h0 : 0 ≤ i) (h1 : i ≤ (l.length : Int)) (n : Int) (hn : 0 < n) (hn2 : n ≤ 256) :
    ∃ v i' h', spec_l1Below.f l i h n = some (v, i', h') ∧ 0 ≤ v ∧ v < n ∧ 0 ≤ i' ∧ i' ≤ (l.length : Int) := by
  obtain ⟨v, i', h', e, a, b, c, d⟩ := l1Byte l hl i h h0 h1
  refine ⟨Int.tmod v n, i', h', ?_, Int.tmod_nonneg _ a, Int.tmod_lt_of_pos _ hn, c, d⟩
  unfold spec_l1Below.f
  rw [if_neg (by omega), if_pos hn2, e]
  simp only [Option.bind_some]
  rw [if_neg (by omega)]
theorem l1Once (l : List Int) (hl : l.length ≤ 1048576) (i h : Int) (h0 : 0 ≤ i) (h1 : i ≤ (l.length : Int)) (n : Int) (hn : 0 < n) (hn2 : n ≤ 256) :
    ∃ v i' h', spec_l1Once.f l i h n = some (v, i', h') ∧ 0 ≤ i' ∧ i' ≤ (l.length : Int) := by
  obtain ⟨v, i', h', e, a, b, c, d⟩ := l1Below l hl i h h0 h1 n hn hn2
  refine ⟨v == 0, i', h', ?_, c, d⟩
  unfold spec_l1Once.f
  rw [e]
  rfl
theorem l1Int (l : List Int) (hl : l.length ≤ 1048576) (i h : Int) (h0 : 0 ≤ i) (h1 : i ≤ (l.length : Int)) (xs : List Int) (hn : 0 < (xs.length : Int)) (hn2 : (xs.length : Int) ≤ 256) :
    ∃ v i' h', spec_l1Int.f l i h xs = some (v, i', h') ∧ v ∈ xs ∧ 0 ≤ i' ∧ i' ≤ (l.length : Int) := by
  obtain ⟨v, i', h', e, a, b, c, d⟩ := l1Below l hl i h h0 h1 _ hn hn2
  refine ⟨rd xs v, i', h', ?_, ?_, c, d⟩
  · unfold spec_l1Int.f
    rw [e]
    simp only [Option.bind_some]
    rw [if_pos a, if_pos b]
  · simp only [rd, List.getD_eq_getElem?_getD, List.getElem?_eq_getElem (show v.toNat < xs.length by omega), Option.getD_some]
    exact List.getElem_mem _
theorem InRange (a b c : Int) : impl_InRange.f a b c = some (decide (b ≤ a ∧ a ≤ c)) := by
  unfold impl_InRange.f
  split <;> (try split) <;> first | rfl | (congr 1; exact decide_eq_decide.2 (by omega)) | (congr 1; exact (decide_eq_false (by omega)).symm)
theorem isIndex (a b : Int) : impl_isIndex.f a b = some (decide (0 ≤ a ∧ a < b)) := by
  unfold impl_isIndex.f
  split <;> (try split) <;> first | rfl | (congr 1; exact decide_eq_decide.2 (by omega)) | (congr 1; exact (decide_eq_false (by omega)).symm)
theorem rd_of {l : List Int} {i : Int} {x : Int} (h : l[i.toNat]? = some x) : rd l i = x := by
  simp only [rd, List.getD_eq_getElem?_getD, h, Option.getD_some]
theorem rd_mem {l : List Int} {i : Int} (h0 : 0 ≤ i) (h : i < (l.length : Int)) : rd l i ∈ l := by
  have hg : l[i.toNat]? = some (l[i.toNat]'(by omega)) := List.getElem?_eq_getElem (by omega)
  rw [rd_of hg]
  exact List.getElem_mem _

def flat : List S88 → List Int
  | [] => []
  | r :: t => List.replicate r.f0.toNat r.f1 ++ flat t
def tot : List S88 → Int
  | [] => 0
  | r :: t => r.f0 + tot t
def good : List S88 → Prop
  | [] => True
  | r :: t => 1 ≤ r.f0 ∧ good t
def AC (p : Option Int) : List S88 → Prop
  | [] => True
  | r :: t => p ≠ some r.f1 ∧ AC (some r.f1) t
theorem tot_nn : ∀ l : List S88, good l → 0 ≤ tot l := by
  intro l
  induction l with
  | nil => intro _; exact Int.le_refl _
  | cons r t ih =>
    intro h
    have := ih h.2
    have := h.1
    simp only [tot]
    omega
theorem flat_len : ∀ l : List S88, good l → ((flat l).length : Int) = tot l := by
  intro l
  induction l with
  | nil => intro _; rfl
  | cons r t ih =>
    intro h
    have h1 := ih h.2
    have h2 := h.1
    simp only [flat, tot, List.length_append, List.length_replicate]
    omega
theorem rdDropR (l : List S88) (i : Int) (h0 : 0 ≤ i) (h1 : i < (l.length : Int)) : l.drop i.toNat = rd_T88 l i :: l.drop (i + 1).toNat := by
  rw [List.drop_eq_getElem_cons (by omega), show (i + 1).toNat = i.toNat + 1 by omega]
  simp [rd_T88, List.getD_eq_getElem?_getD, List.getElem?_eq_getElem (show i.toNat < l.length by omega)]
theorem rdDropI (l : List Int) (i : Int) (h0 : 0 ≤ i) (h1 : i < (l.length : Int)) : l.drop i.toNat = rd l i :: l.drop (i + 1).toNat := by
  rw [List.drop_eq_getElem_cons (by omega), show (i + 1).toNat = i.toNat + 1 by omega]
  simp [rd, List.getD_eq_getElem?_getD, List.getElem?_eq_getElem (show i.toNat < l.length by omega)]
theorem unpIn (l : List S88) (c i nx : Int) (hc : c ≤ 100) (h0 : 0 ≤ i) (hi : i + 1 ≤ 1048576) (v : List Int) : ∀ (d : Nat) (out : List Int) (j : Int), c - j = d → 0 ≤ j → out.length + d ≤ 1000 →
    Ev (fun k => impl_UnpackNext.l0 k (out ++ List.replicate d nx) l (l.length : Int) (i + 1)) v → Ev (fun k => impl_UnpackNext.l1 k out l (l.length : Int) i c j c nx) v := by
  intro d
  induction d with
  | zero =>
    intro out j hd hj ho h
    have w1 : wrap64 (i + 1) = i + 1 := K.wr (by omega) (by omega)
    refine K.succ ?_
    simp only [impl_UnpackNext.l1, w1]
    refine K.neg (by omega) ?_
    simpa using h
  | succ d ih =>
    intro out j hd hj ho h
    have w1 : wrap64 (j + 1) = j + 1 := K.wr (by omega) (by omega)
    refine K.succ ?_
    simp only [impl_UnpackNext.l1, w1]
    refine K.pos (by omega) (K.pos (by omega) (ih _ _ (by omega) (by omega) (by simp; omega) ?_))
    simpa [List.replicate_succ] using h
theorem unp (l : List S88) (hl : l.length ≤ 1000000) : ∀ (d : Nat) (out : List Int) (i : Int), 0 ≤ i → (l.length : Int) - i = d → out.length ≤ 100 →
    ∃ v : List Int, v.length ≤ 100 ∧ Ev (fun k => impl_UnpackNext.l0 k out l (l.length : Int) i) v ∧ (good (l.drop i.toNat) → (out.length : Int) + tot (l.drop i.toNat) ≤ 100 → v = out ++ flat (l.drop i.toNat)) := by
  intro d
  induction d with
  | zero =>
    intro out i h0 hd ho
    refine ⟨out, ho, K.succ ?_, fun _ _ => ?_⟩
    · simp only [impl_UnpackNext.l0]
      exact K.neg (by omega) (Ev.now _)
    · rw [List.drop_eq_nil_of_le (by omega)]
      simp [flat]
  | succ d ih =>
    intro out i h0 hd ho
    have w2 : wrap64 (100 - (out.length : Int)) = 100 - (out.length : Int) := K.wr (by omega) (by omega)
    rw [rdDropR l i h0 (by omega)]
    by_cases c : 1 ≤ (rd_T88 l i).f0 ∧ (rd_T88 l i).f0 ≤ 100 - (out.length : Int)
    · obtain ⟨v, hv, g, e⟩ := ih (out ++ List.replicate (rd_T88 l i).f0.toNat (rd_T88 l i).f1) (i + 1) (by omega) (by omega) (by simp; omega)
      refine ⟨v, hv, K.succ ?_, fun hg ht => ?_⟩
      · simp only [impl_UnpackNext.l0, InRange, Option.bind_some, w2]
        refine K.pos (by omega) (K.pos h0 (K.pos (by omega) (K.pos (decide_eq_true c) ?_)))
        exact unpIn l _ i _ (by omega) h0 (by omega) v (rd_T88 l i).f0.toNat out 0 (by omega) (by omega) (by omega) g
      · rw [e hg.2 (by simp only [tot] at ht; simp; omega)]
        simp [flat]
    · refine ⟨[], by simp, K.succ ?_, fun hg ht => ?_⟩
      · simp only [impl_UnpackNext.l0, InRange, Option.bind_some, w2]
        exact K.pos (by omega) (K.pos h0 (K.pos (by omega) (K.neg (by rw [decide_eq_false c]; exact Bool.false_ne_true) (Ev.now _))))
      · have := tot_nn _ hg.2
        have := hg.1
        simp only [tot] at ht
        omega
theorem unpack (l : List S88) (hl : l.length ≤ 1000000) : ∃ v : List Int, v.length ≤ 100 ∧ Ev (fun k => impl_UnpackNext.f k l) v ∧ (good l → tot l ≤ 100 → v = flat l) := by
  obtain ⟨v, hv, g, e⟩ := unp l hl l.length [] 0 (by omega) (by omega) (by simp)
  exact ⟨v, hv, g, fun h1 h2 => by simpa using e h1 (by simpa using h2)⟩
theorem nextIn (l : List S88) (n : Int) (v : List Int) (g : Ev (fun k => impl_UnpackNext.f k l) v) : Ev (fun k => impl_NextIn.f k l n) (if 0 ≤ n ∧ n < (v.length : Int) then rd v n else -1) := by
  unfold impl_NextIn.f
  refine Ev.bind g ?_
  simp only [isIndex, Option.bind_some]
  by_cases c : 0 ≤ n ∧ n < (v.length : Int)
  · rw [if_pos c]
    exact K.pos (decide_eq_true c) (K.pos c.1 (K.pos c.2 (Ev.now _)))
  · rw [if_neg c]
    exact K.neg (by rw [decide_eq_false c]; exact Bool.false_ne_true) (Ev.now _)
theorem isPk (l : List S88) (hl : l.length ≤ 1000000) : ∀ (d : Nat) (n i : Int), 0 ≤ i → (l.length : Int) - i = d → 0 ≤ n → n ≤ 100 →
    ∃ b : Bool, Ev (fun k => impl_IsPacked.l0 k l n l (l.length : Int) i) b ∧ (b = true ↔ good (l.drop i.toNat) ∧ n + tot (l.drop i.toNat) ≤ 100 ∧ AC (if 0 < i then some (rd_T88 l (i - 1)).f1 else none) (l.drop i.toNat)) := by
  intro d
  induction d with
  | zero =>
    intro n i h0 hd hn hn2
    refine ⟨true, K.succ ?_, ?_⟩
    · simp only [impl_IsPacked.l0]
      exact K.neg (by omega) (Ev.now _)
    · rw [List.drop_eq_nil_of_le (by omega)]
      simp [good, tot, AC, hn2]
  | succ d ih =>
    intro n i h0 hd hn hn2
    have w1 : wrap64 (i + 1) = i + 1 := K.wr (by omega) (by omega)
    have w2 : wrap64 (100 - n) = 100 - n := K.wr (by omega) (by omega)
    have w4 : wrap64 (i - 1) = i - 1 := K.wr (by omega) (by omega)
    rw [rdDropR l i h0 (by omega)]
    by_cases c : 1 ≤ (rd_T88 l i).f0 ∧ (rd_T88 l i).f0 ≤ 100 - n
    · have w3 : wrap64 (n + (rd_T88 l i).f0) = n + (rd_T88 l i).f0 := K.wr (by omega) (by omega)
      obtain ⟨b, g, e⟩ := ih (n + (rd_T88 l i).f0) (i + 1) (by omega) (by omega) (by omega) (by omega)
      have e0 : (if 0 < i + 1 then some (rd_T88 l (i + 1 - 1)).f1 else none) = some (rd_T88 l i).f1 := by
        rw [if_pos (by omega), show i + 1 - 1 = i by omega]
      rw [e0] at e
      by_cases c2 : 0 < i
      · rw [if_pos c2]
        by_cases c3 : (rd_T88 l i).f1 = (rd_T88 l (i - 1)).f1
        · refine ⟨false, K.succ ?_, ?_⟩
          · simp only [impl_IsPacked.l0, InRange, Option.bind_some, w2, w4]
            exact K.pos (by omega) (K.pos h0 (K.pos (by omega) (K.pos (decide_eq_true c) (K.pos (by omega) (K.pos (by omega) (K.pos (by omega) (K.pos c3 (Ev.now _))))))))
          · constructor
            · intro h
              cases h
            · rintro ⟨_, _, h, _⟩
              exact absurd (by rw [c3]) h
        · refine ⟨b, K.succ ?_, ?_⟩
          · simp only [impl_IsPacked.l0, InRange, Option.bind_some, w1, w2, w3, w4]
            exact K.pos (by omega) (K.pos h0 (K.pos (by omega) (K.pos (decide_eq_true c) (K.pos (by omega) (K.pos (by omega) (K.pos (by omega) (K.neg c3 g)))))))
          · rw [e]
            simp only [good, tot, AC]
            constructor
            · rintro ⟨p, q, r⟩
              exact ⟨⟨c.1, p⟩, by omega, fun h => c3 (Option.some.inj h).symm, r⟩
            · rintro ⟨⟨_, p⟩, q, _, r⟩
              exact ⟨p, by omega, r⟩
      · rw [if_neg c2]
        refine ⟨b, K.succ ?_, ?_⟩
        · simp only [impl_IsPacked.l0, InRange, Option.bind_some, w1, w2, w3, w4]
          exact K.pos (by omega) (K.pos h0 (K.pos (by omega) (K.pos (decide_eq_true c) (K.neg (by omega) g))))
        · rw [e]
          simp only [good, tot, AC]
          constructor
          · rintro ⟨p, q, r⟩
            exact ⟨⟨c.1, p⟩, by omega, by simp, r⟩
          · rintro ⟨⟨_, p⟩, q, _, r⟩
            exact ⟨p, by omega, r⟩
    · refine ⟨false, K.succ ?_, ?_⟩
      · simp only [impl_IsPacked.l0, InRange, Option.bind_some, w2]
        exact K.pos (by omega) (K.pos h0 (K.pos (by omega) (K.neg (by rw [decide_eq_false c]; exact Bool.false_ne_true) (Ev.now _))))
      · constructor
        · intro h
          cases h
        · rintro ⟨⟨h, p⟩, q, _⟩
          have := tot_nn _ p
          simp only [tot] at q
          omega
theorem isPacked (l : List S88) (hl : l.length ≤ 1000000) : ∃ b : Bool, Ev (fun k => impl_IsPacked.f k l) b ∧ (b = true ↔ good l ∧ tot l ≤ 100 ∧ AC none l) := by
  obtain ⟨b, g, e⟩ := isPk l hl l.length 0 0 (by omega) (by omega) (by omega) (by omega)
  refine ⟨b, g, ?_⟩
  rw [e]
  simp
/- One number packed, the list held in reverse. -/
def stp : List S88 → Int → List S88
  | [], n => [⟨1, n⟩]
  | r :: t, n => if r.f1 = n then ⟨r.f0 + 1, r.f1⟩ :: t else ⟨1, n⟩ :: r :: t
theorem stp_len (s : List S88) (n : Int) : (stp s n).length ≤ s.length + 1 := by
  cases s with
  | nil => simp [stp]
  | cons r t =>
    simp only [stp]
    split <;> simp
theorem packLoop (l : List Int) (hl : l.length ≤ 1000) : ∀ (d : Nat) (s : List S88) (i : Int), 0 ≤ i → (l.length : Int) - i = d → (s.length : Int) ≤ i → (∀ r ∈ s, 0 ≤ r.f0 ∧ r.f0 ≤ i) →
    Ev (fun k => impl_PackNext.l0 k s.reverse l (l.length : Int) i) ((l.drop i.toNat).foldl stp s).reverse := by
  intro d
  induction d with
  | zero =>
    intro s i h0 hd hs hc
    rw [List.drop_eq_nil_of_le (by omega)]
    refine K.succ ?_
    simp only [impl_PackNext.l0]
    exact K.neg (by omega) (Ev.now _)
  | succ d ih =>
    intro s i h0 hd hs hc
    have w1 : wrap64 (i + 1) = i + 1 := K.wr (by omega) (by omega)
    have w2 : wrap64 ((s.reverse.length : Int) - 1) = (s.reverse.length : Int) - 1 := by
      rw [List.length_reverse]
      exact K.wr (by omega) (by omega)
    have hl2 := stp_len s (rd l i)
    rw [rdDropI l i h0 (by omega), List.foldl_cons]
    have hi := ih (stp s (rd l i)) (i + 1) (by omega) (by omega) (by omega) (by
      intro r hr
      cases s with
      | nil =>
        simp only [stp, List.mem_singleton] at hr
        subst hr
        exact ⟨by show (0 : Int) ≤ 1; omega, by show (1 : Int) ≤ i + 1; omega⟩
      | cons q t =>
        have hq := hc q (by simp)
        have ht : ∀ r ∈ t, 0 ≤ r.f0 ∧ r.f0 ≤ i := fun r hr => hc r (by simp [hr])
        simp only [stp] at hr
        split at hr
        · rcases List.mem_cons.1 hr with rfl | hr
          · exact ⟨by show 0 ≤ q.f0 + 1; omega, by show q.f0 + 1 ≤ i + 1; omega⟩
          · have := ht r hr
            omega
        · rcases List.mem_cons.1 hr with rfl | hr
          · exact ⟨by show (0 : Int) ≤ 1; omega, by show (1 : Int) ≤ i + 1; omega⟩
          · rcases List.mem_cons.1 hr with rfl | hr
            · omega
            · have := ht r hr
              omega)
    refine K.succ ?_
    simp only [impl_PackNext.l0, w1, w2]
    refine K.pos (by omega) (K.pos h0 (K.pos (by omega) ?_))
    cases s with
    | nil =>
      refine K.neg (by simp) (K.pos (by simp) ?_)
      simpa [stp] using hi
    | cons r t =>
      have hlen : ((r :: t).reverse.length : Int) - 1 = (t.length : Int) := by simp
      have hrd : rd_T88 (r :: t).reverse (t.length : Int) = r := by
        simp [rd_T88, List.getD_eq_getElem?_getD, List.getElem?_append_right]
      have hset : ∀ x : S88, (r :: t).reverse.set (t.length : Int).toNat x = (x :: t).reverse := by
        intro x
        simp
      rw [hlen, hrd, hset]
      have hrc := hc r (by simp)
      have w3 : wrap64 (r.f0 + 1) = r.f0 + 1 := K.wr (by omega) (by omega)
      refine K.pos (by omega) (K.pos (by omega) (K.pos (by simp; omega) ?_))
      by_cases c : r.f1 = rd l i
      · have e : stp (r :: t) (rd l i) = ⟨r.f0 + 1, r.f1⟩ :: t := by simp only [stp, if_pos c]
        rw [e] at hi ⊢
        rw [w3]
        exact K.pos c hi
      · have e : stp (r :: t) (rd l i) = ⟨1, rd l i⟩ :: r :: t := by simp only [stp, if_neg c]
        rw [e] at hi ⊢
        refine K.neg c (K.pos (by simp at hs ⊢; omega) ?_)
        simpa using hi
theorem pack (l : List Int) (hl : l.length ≤ 1000) : Ev (fun k => impl_PackNext.f k l) (l.foldl stp []).reverse := by
  unfold impl_PackNext.f
  have h := packLoop l hl l.length [] 0 (by omega) (by omega) (by simp) (by simp)
  simpa using h
/- What packing a list does: the same numbers, no two neighbors alike, as many runs as changes. -/
theorem flat_app (a b : List S88) : flat (a ++ b) = flat a ++ flat b := by
  induction a with
  | nil => rfl
  | cons r t ih => simp [flat, ih]
theorem good_app (a b : List S88) : good (a ++ b) ↔ good a ∧ good b := by
  induction a with
  | nil => simp [good]
  | cons r t ih => simp [good, ih, and_assoc]
theorem tot_app (a b : List S88) : tot (a ++ b) = tot a + tot b := by
  induction a with
  | nil => simp [tot]
  | cons r t ih =>
    simp only [List.cons_append, tot, ih]
    omega
def lastf (p : Option Int) : List S88 → Option Int
  | [] => p
  | r :: t => lastf (some r.f1) t
theorem AC_snoc (r : S88) : ∀ (l : List S88) (p : Option Int), AC p (l ++ [r]) ↔ AC p l ∧ lastf p l ≠ some r.f1 := by
  intro l
  induction l with
  | nil =>
    intro p
    simp [AC, lastf]
  | cons q t ih =>
    intro p
    simp only [List.cons_append, AC, lastf, ih, and_assoc]
theorem lastf_snoc (r : S88) : ∀ (l : List S88) (p : Option Int), lastf p (l ++ [r]) = some r.f1 := by
  intro l
  induction l with
  | nil => intro p; rfl
  | cons q t ih => intro p; simp only [List.cons_append, lastf, ih]
theorem stp_flat (s : List S88) (n : Int) (hg : good s.reverse) (ha : AC none s.reverse) : flat (stp s n).reverse = flat s.reverse ++ [n] ∧ good (stp s n).reverse ∧ AC none (stp s n).reverse ∧ (stp s n).head?.map (fun r => r.f1) = some n := by
  cases s with
  | nil => simp [stp, flat, good, AC]
  | cons r t =>
    rw [List.reverse_cons] at hg ha ⊢
    rw [good_app] at hg
    rw [AC_snoc] at ha
    have hr : 1 ≤ r.f0 := hg.2.1
    simp only [stp]
    split
    · rename_i c
      rw [List.reverse_cons, flat_app, flat_app, good_app, AC_snoc]
      refine ⟨?_, ⟨hg.1, by show 1 ≤ r.f0 + 1; omega, trivial⟩, ha, by simp [c]⟩
      simp only [flat, List.append_nil, List.append_assoc]
      rw [show (r.f0 + 1).toNat = r.f0.toNat + 1 by omega, List.replicate_succ', c]
    · rename_i c
      rw [List.reverse_cons, List.reverse_cons, flat_app, flat_app, good_app, good_app, AC_snoc, AC_snoc, lastf_snoc]
      refine ⟨by simp [flat], ⟨hg, by show (1 : Int) ≤ 1; omega, trivial⟩, ⟨ha, fun h => c (Option.some.inj h)⟩, rfl⟩
def chg (l : List Int) : Nat → Int → Int
  | 0, _ => 0
  | d + 1, i => (if i = 0 ∨ rd l (i - 1) ≠ rd l i then 1 else 0) + chg l d (i + 1)
theorem fold_stp (l : List Int) : ∀ (d : Nat) (s : List S88) (i : Int), 0 ≤ i → (l.length : Int) - i = d → good s.reverse → AC none s.reverse → (i = 0 → s = []) → (0 < i → s.head?.map (fun r => r.f1) = some (rd l (i - 1))) →
    flat ((l.drop i.toNat).foldl stp s).reverse = flat s.reverse ++ l.drop i.toNat ∧ good ((l.drop i.toNat).foldl stp s).reverse ∧ AC none ((l.drop i.toNat).foldl stp s).reverse ∧ (((l.drop i.toNat).foldl stp s).length : Int) = s.length + chg l d i := by
  intro d
  induction d with
  | zero =>
    intro s i h0 hd hg ha _ _
    rw [List.drop_eq_nil_of_le (by omega)]
    simp [chg, hg, ha]
  | succ d ih =>
    intro s i h0 hd hg ha hz hp
    rw [rdDropI l i h0 (by omega), List.foldl_cons]
    obtain ⟨e1, e2, e3, e4⟩ := stp_flat s (rd l i) hg ha
    obtain ⟨g1, g2, g3, g4⟩ := ih (stp s (rd l i)) (i + 1) (by omega) (by omega) e2 e3 (by omega) (by intro _; rw [show i + 1 - 1 = i by omega]; exact e4)
    refine ⟨by rw [g1, e1]; simp, g2, g3, ?_⟩
    rw [g4]
    simp only [chg]
    have : ((stp s (rd l i)).length : Int) = s.length + (if i = 0 ∨ rd l (i - 1) ≠ rd l i then 1 else 0) := by
      by_cases c : i = 0
      · rw [hz c, if_pos (Or.inl c)]
        simp [stp]
      · have hh := hp (by omega)
        cases s with
        | nil => simp at hh
        | cons r t =>
          simp only [List.head?_cons, Option.map_some] at hh
          have hh := Option.some.inj hh
          simp only [stp, hh]
          by_cases c2 : rd l (i - 1) = rd l i
          · rw [if_pos c2, if_neg (by intro h; rcases h with h | h; exact c h; exact h c2)]
            simp
          · rw [if_neg c2, if_pos (Or.inr c2)]
            simp
    omega
/- Packing what a good list unpacks to gives it back. -/
theorem fold_same (n : Int) (t : List S88) : ∀ (m : Nat) (a : Int), (List.replicate m n).foldl stp (⟨a, n⟩ :: t) = ⟨a + m, n⟩ :: t := by
  intro m
  induction m with
  | zero => intro a; simp
  | succ m ih =>
    intro a
    rw [List.replicate_succ, List.foldl_cons]
    have : stp ((⟨a, n⟩ : S88) :: t) n = ⟨a + 1, n⟩ :: t := by simp [stp]
    rw [this, ih]
    congr 2
    omega
theorem fold_flat : ∀ (l s : List S88), good l → AC (s.head?.map (fun r => r.f1)) l → (flat l).foldl stp s = l.reverse ++ s := by
  intro l
  induction l with
  | nil => intro s _ _; rfl
  | cons r t ih =>
    intro s hg ha
    have hr : 1 ≤ r.f0 := hg.1
    simp only [flat, List.foldl_append]
    have h1 : (List.replicate r.f0.toNat r.f1).foldl stp s = r :: s := by
      rw [show r.f0.toNat = (r.f0 - 1).toNat + 1 by omega, List.replicate_succ, List.foldl_cons]
      have : stp s r.f1 = ⟨1, r.f1⟩ :: s := by
        cases s with
        | nil => rfl
        | cons q u =>
          have : ¬ q.f1 = r.f1 := fun h => ha.1 (by simp [h])
          simp only [stp, if_neg this]
      rw [this, fold_same]
      cases r with
      | mk a b =>
        simp only at hr ⊢
        congr 2
        omega
    rw [h1, ih (r :: s) hg.2 ha.2]
    simp
/- The draws. -/
theorem drawPack (l : List Int) (hl : l.length ≤ 1048576) : ∃ v : List Int, v.length ≤ 8 ∧ Ev (fun k => spec_DrawPackNext.f k l) v := by
  have loop : ∀ (d : Nat) (o : List Int) (x i h : Int), x = d → o.length + d ≤ 8 → 0 ≤ i → i ≤ (l.length : Int) → ∃ v : List Int, v.length ≤ 8 ∧ Ev (fun k => spec_DrawPackNext.l0 k o x l i h) v := by
    intro d
    induction d with
    | zero =>
      intro o x i h hx ho _ _
      refine ⟨o, by omega, K.succ ?_⟩
      simp only [spec_DrawPackNext.l0]
      exact K.neg (by omega) (Ev.now _)
    | succ d ih =>
      intro o x i h hx ho h0 h1
      obtain ⟨v, i', h', e, a, b, c, f⟩ := l1Below l hl i h h0 h1 4 (by omega) (by omega)
      obtain ⟨r, hr, g⟩ := ih (o ++ [wrap64 (v - 1)]) (x - 1) i' h' (by omega) (by simp; omega) c f
      refine ⟨r, hr, K.succ ?_⟩
      simp only [spec_DrawPackNext.l0]
      rw [K.wr (x := x - 1) (by omega) (by omega)]
      exact K.pos (by omega) (K.known e (K.pos (by omega) g))
  obtain ⟨h, g⟩ := l1New l hl
  obtain ⟨v, i', h', e, a, b, c, f⟩ := l1Below l hl 0 h (by omega) (by omega) 9 (by omega) (by omega)
  obtain ⟨r, hr, g2⟩ := loop v.toNat [] v i' h' (by omega) (by simp; omega) c f
  refine ⟨r, hr, ?_⟩
  unfold spec_DrawPackNext.f
  exact Ev.bind g (K.known e g2)
theorem drawNext (l : List Int) (hl : l.length ≤ 1048576) : ∃ (v : List S88) (n : Int), v.length ≤ 4 ∧ Ev (fun k => spec_DrawNextIn.f k l) (v, n) := by
  have loop : ∀ (d : Nat) (o : List S88) (x i h : Int), x = d → o.length + d ≤ 4 → 0 ≤ i → i ≤ (l.length : Int) → ∃ (v : List S88) (i' h' : Int), v.length ≤ 4 ∧ 0 ≤ i' ∧ i' ≤ (l.length : Int) ∧ Ev (fun k => spec_l16Any.l0 k o x l i h) (v, i', h') := by
    intro d
    induction d with
    | zero =>
      intro o x i h hx ho h0 h1
      by_cases c : (o.length : Int) > 0
      · obtain ⟨v, i', h', e, a, b⟩ := l1Once l hl i h h0 h1 4 (by omega) (by omega)
        cases v with
        | true =>
          obtain ⟨u, i2, h2, e2, _, a2, b2⟩ := l1Int l hl i' h' a b [(-1), 0, 99, 100, 101, 9223372036854775807] (by decide) (by decide)
          refine ⟨o.set (0 : Int).toNat (⟨u, (rd_T88 o 0).f1⟩ : S88), i2, h2, ?_, a2, b2, K.succ ?_⟩
          · simp
            omega
          · simp only [spec_l16Any.l0]
            exact K.neg (by omega) (K.pos c (K.known e (K.pos rfl (K.known e2 (K.pos (by omega) (Ev.now _))))))
        | false =>
          refine ⟨o, i', h', by omega, a, b, K.succ ?_⟩
          simp only [spec_l16Any.l0]
          exact K.neg (by omega) (K.pos c (K.known e (K.neg Bool.false_ne_true (Ev.now _))))
      · refine ⟨o, i, h, by omega, h0, h1, K.succ ?_⟩
        simp only [spec_l16Any.l0]
        exact K.neg (by omega) (K.neg c (Ev.now _))
    | succ d ih =>
      intro o x i h hx ho h0 h1
      obtain ⟨v, i', h', e, _, _, c, f⟩ := l1Below l hl i h h0 h1 4 (by omega) (by omega)
      obtain ⟨v2, i2, h2, e2, _, _, c2, f2⟩ := l1Below l hl i' h' c f 4 (by omega) (by omega)
      obtain ⟨r, i3, h3, hr, a3, b3, g⟩ := ih (o ++ [(⟨wrap64 (1 + v), wrap64 (v2 - 1)⟩ : S88)]) (x - 1) i2 h2 (by omega) (by simp; omega) c2 f2
      refine ⟨r, i3, h3, hr, a3, b3, K.succ ?_⟩
      simp only [spec_l16Any.l0]
      rw [K.wr (x := x - 1) (by omega) (by omega)]
      exact K.pos (by omega) (K.known e (K.known e2 (K.pos (by omega) g)))
  obtain ⟨h, g⟩ := l1New l hl
  obtain ⟨v, i', h', e, a, b, c, f⟩ := l1Below l hl 0 h (by omega) (by omega) 5 (by omega) (by omega)
  obtain ⟨r, i2, h2, hr, a2, b2, g2⟩ := loop v.toNat [] v i' h' (by omega) (by simp; omega) c f
  obtain ⟨u, i3, h3, e3, _⟩ := l1Below l hl i2 h2 a2 b2 12 (by omega) (by omega)
  refine ⟨r, wrap64 (u - 1), hr, ?_⟩
  unfold spec_DrawNextIn.f spec_l16Any.f
  exact Ev.bind g (Ev.bind (K.known e g2) (K.known e3 (Ev.now _)))
theorem eqInts (a : List Int) (ha : a.length ≤ 1000) : Ev (fun k => impl_EqualInts.f k a a) true := by
  unfold impl_EqualInts.f slices_Equal_int_int.f
  refine Ev.bind (K.pos rfl ?_) (Ev.now _)
  refine K.all (n := a.length) (fun k i => slices_Equal_int_int.l0 k a a (a.length : Int) i) ?_ ?_ a.length 0 (by omega) (by omega)
  · intro k i hi
    simp only [slices_Equal_int_int.l0]
    rw [if_neg hi]
  · intro k i h0 hi
    simp only [slices_Equal_int_int.l0, ↓reduceIte]
    rw [if_pos hi, if_pos h0, if_pos hi, K.wr (x := i + 1) (by omega) (by omega)]
    rw [if_pos hi]
/- The law's ends. -/
theorem final (x : List Int) (next : List Int) (v : List S88) (hn : next.length ≤ 8) (hx : x.length ≤ 1048576) (hg : good v) (ha : AC none v) (hf : flat v = next) :
    Ev (fun k => laws_FnPacked.l0 k x next v (v.length : Int) (next.length : Int)) true := by
  have hv : (v.length : Int) ≤ 8 := by
    have : ∀ l : List S88, good l → l.length ≤ (flat l).length := by
      intro l
      induction l with
      | nil => intro _; simp
      | cons r t ih =>
        intro h
        have := ih h.2
        have := h.1
        simp only [flat, List.length_append, List.length_replicate, List.length_cons]
        omega
    have := this v hg
    rw [hf] at this
    omega
  have ht : tot v ≤ 100 := by
    have := flat_len v hg
    rw [hf] at this
    omega
  have end_ : Ev (fun k => laws_FnPacked.j2 k next v (v.length : Int) false) true := by
    refine K.succ ?_
    simp only [laws_FnPacked.j2]
    obtain ⟨b, g, e⟩ := isPacked v (by omega)
    rw [e.2 ⟨hg, ht, ha⟩] at g
    obtain ⟨u, _, g2, e2⟩ := unpack v (by omega)
    rw [e2 hg ht, hf] at g2
    exact K.neg Bool.false_ne_true (Ev.bind g (K.pos rfl (K.pos True.intro (Ev.bind g2 (Ev.bind (eqInts next (by omega)) (Ev.now _))))))
  obtain ⟨r, n, hr, gd⟩ := drawNext x hx
  obtain ⟨u, hu, gu, eu⟩ := unpack r (by omega)
  obtain ⟨b, gb, eb⟩ := isPacked r (by omega)
  have gn := nextIn r n u gu
  have tail : Ev (fun k => (impl_NextIn.f k r n).bind fun t => (if t = (-1) then (laws_FnPacked.j2 k next v (v.length : Int) false) else (if n < 0 then (laws_FnPacked.j2 k next v (v.length : Int) true) else (laws_FnPacked.j2 k next v (v.length : Int) (decide (n ≥ (u.length : Int))))))) true := by
    refine Ev.bind gn ?_
    by_cases c : 0 ≤ n ∧ n < (u.length : Int)
    · rw [if_pos c]
      by_cases c2 : rd u n = -1
      · exact K.pos c2 end_
      · refine K.neg c2 (K.neg (by omega) ?_)
        rw [decide_eq_false (by omega)]
        exact end_
    · rw [if_neg c]
      exact K.pos rfl end_
  refine K.succ ?_
  simp only [laws_FnPacked.l0]
  refine K.neg (by omega) (Ev.bind gd (Ev.bind gu (Ev.bind gb ?_)))
  cases b with
  | false => exact K.neg Bool.false_ne_true tail
  | true =>
    obtain ⟨h1, h2, h3⟩ := eb.1 rfl
    have gp := pack u (by omega)
    rw [eu h1 h2, fold_flat r [] h1 h3, List.append_nil, List.reverse_reverse] at gp
    rw [eu h1 h2] at tail ⊢
    exact K.pos rfl (Ev.bind gp (K.pos (by rfl) tail))
theorem loop (x : List Int) (next : List Int) (v : List S88) (hn : next.length ≤ 8) (hx : x.length ≤ 1048576) (hg : good v) (ha : AC none v) (hf : flat v = next) :
    ∀ (d : Nat) (c i : Int), 0 ≤ i → (next.length : Int) - i = d → c + chg next d i = (v.length : Int) → 0 ≤ c → c ≤ i → Ev (fun k => laws_FnPacked.l0 k x next v c i) true := by
  have ht : tot v ≤ 100 := by
    have := flat_len v hg
    rw [hf] at this
    omega
  have hv : ∃ u, Ev (fun k => impl_UnpackNext.f k v) u ∧ u = next := by
    have hl : v.length ≤ 1000000 := by
      have : ∀ l : List S88, good l → l.length ≤ (flat l).length := by
        intro l
        induction l with
        | nil => intro _; simp
        | cons r t ih =>
          intro h
          have := ih h.2
          have := h.1
          simp only [flat, List.length_append, List.length_replicate, List.length_cons]
          omega
      have := this v hg
      rw [hf] at this
      omega
    obtain ⟨u, _, g2, e2⟩ := unpack v hl
    exact ⟨u, g2, by rw [e2 hg ht, hf]⟩
  obtain ⟨u, gu, rfl⟩ := hv
  intro d
  induction d with
  | zero =>
    intro c i h0 hd hc _ _
    simp only [chg] at hc
    have e1 : c = (v.length : Int) := by omega
    have e2 : i = (u.length : Int) := by omega
    rw [e1, e2]
    exact final x u v hn hx hg ha hf
  | succ d ih =>
    intro c i h0 hd hc hc0 hci
    simp only [chg] at hc
    have w1 : wrap64 (i + 1) = i + 1 := K.wr (by omega) (by omega)
    have w2 : wrap64 (c + 1) = c + 1 := K.wr (by omega) (by omega)
    have w3 : wrap64 (i - 1) = i - 1 := K.wr (by omega) (by omega)
    have gn := nextIn v i u gu
    rw [if_pos (by omega)] at gn
    have step : ∀ b : Bool, (b = true ↔ (i = 0 ∨ rd u (i - 1) ≠ rd u i)) → Ev (fun k => laws_FnPacked.j1 k x u v c i b) true := by
      intro b hb
      refine K.succ ?_
      simp only [laws_FnPacked.j1, w1, w2]
      cases b with
      | true =>
        rw [if_pos (hb.1 rfl)] at hc
        exact K.pos rfl (Ev.bind gn (K.pos h0 (K.pos (by omega) (K.pos rfl (ih (c + 1) (i + 1) (by omega) (by omega) (by omega) (by omega) (by omega))))))
      | false =>
        rw [if_neg (fun h => by have := hb.2 h; cases this)] at hc
        exact K.neg Bool.false_ne_true (Ev.bind gn (K.pos h0 (K.pos (by omega) (K.pos rfl (ih c (i + 1) (by omega) (by omega) (by omega) (by omega) (by omega))))))
    refine K.succ ?_
    simp only [laws_FnPacked.l0, w3]
    refine K.pos (by omega) ?_
    by_cases c0 : i = 0
    · exact K.pos c0 (step true ⟨fun _ => Or.inl c0, fun _ => rfl⟩)
    · refine K.neg c0 (K.pos (by omega) (K.pos (by omega) (K.pos h0 (step _ ?_))))
      rw [bne_iff_ne]
      exact ⟨fun h => Or.inr h, fun h => h.resolve_left c0⟩
end LFnPacked
theorem FnPacked (l0 : List Int) : ∃ k, laws_FnPacked.f k l0 = some true := by
  refine K.rounds (g := fun k => laws_FnPacked.f k l0) ?_
  unfold laws_FnPacked.f laws_big.f
  refine K.known rfl ?_
  by_cases c : (l0.length : Int) > 1048576
  · exact K.pos (decide_eq_true c) (Ev.now _)
  refine K.neg (by rw [decide_eq_false c]; exact Bool.false_ne_true) ?_
  obtain ⟨next, hn, g⟩ := LFnPacked.drawPack l0 (by omega)
  refine Ev.bind g (Ev.bind (LFnPacked.pack next (by omega)) ?_)
  obtain ⟨e1, e2, e3, e4⟩ := LFnPacked.fold_stp next next.length [] 0 (by omega) (by omega) trivial trivial (fun _ => rfl) (by omega)
  simp only [Int.toNat_zero, List.drop_zero, List.reverse_nil] at e1 e2 e3 e4
  refine LFnPacked.loop l0 next _ hn (by omega) e2 e3 (by simpa [LFnPacked.flat] using e1) next.length 0 0 (by omega) (by omega) ?_ (by omega) (by omega)
  simp at e4 ⊢
  omega

end Go.Proofs.Ytlljhblilicnfaa.Pure
