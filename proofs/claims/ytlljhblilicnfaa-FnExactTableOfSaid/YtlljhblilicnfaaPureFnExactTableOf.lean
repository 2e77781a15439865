/- The table of a destination is one in the program and in the reference, for every list of at most 2^20 links and any other arguments. -/
import Derived.Test.YtlljhblilicnfaaQFnExactTableOfx
import Derived.Test.YtlljhblilicnfaaKKit
namespace Go.Proofs.Ytlljhblilicnfaa.Pure
open Go.RowKit Go.Proofs.Ytlljhblilicnfaa.PFnExactTableOf Go.Proofs.YtlljhblilicnfaaW.PrintWords Go.Proofs.YtlljhblilicnfaaW.PrintLast Go.Proofs.YtlljhblilicnfaaW.PrintMore Go.Proofs.Ytlljhblilicnfaa
set_option linter.unusedSimpArgs false
set_option linter.unusedVariables false
namespace LFnExactTableOf

def cvLink (x : S117) : S103 := ⟨x.f0, x.f1⟩
theorem toLinkS (l : List S117) (hl : l.length ≤ 1048576) : Ev (fun k => laws_toLinkS.f k l) (l.map cvLink) := by
  unfold laws_toLinkS.f
  refine K.pos (by omega) (K.pos (by omega) ?_)
  refine K.fill (fun k xs i => laws_toLinkS.l0 k l xs i) (l.map cvLink) (by simpa using hl) ?_ ?_ l.length _ 0 (by omega) (by simp) (by simp) (by intro j hj; omega)
  · intro k xs i hi
    simp only [List.length_map] at hi
    simp only [laws_toLinkS.l0]
    rw [if_neg hi]
  · intro k xs i y h0 hi hx hy
    simp only [List.length_map] at hi hx
    simp only [laws_toLinkS.l0, laws_toLink.f, Option.bind_some]
    rw [if_pos hi, if_pos h0, if_pos (by omega), K.wr (x := i + 1) (by omega) (by omega)]
    have hg : l[i.toNat]? = some (l[i.toNat]'(by omega)) := List.getElem?_eq_getElem (by omega)
    rw [List.getElem?_map, hg, Option.map_some] at hy
    obtain rfl := Option.some.inj hy
    have hr : rd_T117 l i = l[i.toNat]'(by omega) := by
      simp only [rd_T117, List.getD_eq_getElem?_getD, hg, Option.getD_some]
    rw [hr]
    rfl
theorem szLinkS (l : List S117) (left : Int) (h0 : 0 ≤ left) (h1 : left ≤ 1048576) (hm : l.length ≤ 9223372036854775807) : laws_szLinkS.f l left = some (if (l.length : Int) ≤ left then left - l.length else -1) := by
  unfold laws_szLinkS.f
  rw [K.wr (by omega) (by omega)]
  split <;> split <;> first | rfl | omega


theorem eqLinkS (l : List S103) (hl : l.length ≤ 67108864) : Ev (fun k => laws_eqLinkS.f k l l) true := by
  unfold laws_eqLinkS.f
  refine K.pos rfl ?_
  refine K.all (n := l.length) (fun k i => laws_eqLinkS.l0 k l l i) ?_ ?_ l.length 0 (by omega) (by omega)
  · intro k i hi
    simp only [laws_eqLinkS.l0]
    rw [if_neg hi]
  · intro k i h0 hi
    simp only [laws_eqLinkS.l0, laws_eqLink.f, ↓reduceIte, Option.bind_some]
    rw [if_pos hi, if_pos h0, if_pos hi, K.wr (x := i + 1) (by omega) (by omega)]


theorem rd_Link_of {l : List S103} {i : Int} {x : S103} (h : l[i.toNat]? = some x) : rd_T103 l i = x := by
  simp only [rd_T103, List.getD_eq_getElem?_getD, h, Option.getD_some]
theorem rd_Link_set {l : List S103} {i : Int} {x : S103} (h : i.toNat < l.length) : rd_T103 (l.set i.toNat x) i = x :=
  rd_Link_of (List.getElem?_set_self h)


theorem layLinkS (l : List S103) (c : Int) (hl : l.length ≤ 67108864) (hc0 : 0 ≤ c) (hc1 : c ≤ 1099511627776) : ∃ m ys, c ≤ m ∧ m ≤ c + 16 * l.length ∧ Ev (fun k => laws_markLinkS.f k l c) (m, ys) := by
  unfold laws_markLinkS.f
  refine Exists.elim (K.lay (fun k xs c i => laws_markLinkS.l0 k xs c i) l.length 2 (fun c _ => (⟨c, c + 1⟩ : S103)) (by omega) (by omega)
    ?_ ?_ l.length l c 0 (by omega) (by omega) rfl (by omega) (by omega)) (fun m h => h.elim fun ys h => ⟨m, ys, h.1, h.2.1, h.2.2.2⟩)
  · intro k xs c i hi hx
    simp only [laws_markLinkS.l0]
    rw [if_neg (by omega)]
  · intro k xs c i x h0 hi hx hc0 hc1 hxi
    have hlt : i.toNat < xs.length := by omega
    simp only [laws_markLinkS.l0, Option.bind_some]
    rw [if_pos (by omega), if_pos h0]
    rw [K.wr (x := c + 1) (by omega) (by omega)]
    rw [K.wr (x := c + 1 + 1) (by omega) (by omega), show c + 1 + 1 = c + 2 by omega]
    simp only [rd_Link_set, List.length_set, hlt, List.set_set]
    rw [K.wr (x := i + 1) (by omega) (by omega)]

theorem eqIntS (l : List Int) (hl : l.length ≤ 67108864) : Ev (fun k => laws_eqIntS.f k l l) true := by
  unfold laws_eqIntS.f
  refine K.pos rfl ?_
  refine K.all (n := l.length) (fun k i => laws_eqIntS.l0 k l l i) ?_ ?_ l.length 0 (by omega) (by omega)
  · intro k i hi
    simp only [laws_eqIntS.l0]
    rw [if_neg hi]
  · intro k i h0 hi
    simp only [laws_eqIntS.l0, ↓reduceIte]
    rw [if_pos hi, if_pos h0, if_pos hi, K.wr (x := i + 1) (by omega) (by omega)]
theorem rd_of {l : List Int} {i : Int} {x : Int} (h : l[i.toNat]? = some x) : rd l i = x := by
  simp only [rd, List.getD_eq_getElem?_getD, h, Option.getD_some]
theorem rd_mem {l : List Int} {i : Int} (h0 : 0 ≤ i) (h : i < (l.length : Int)) : rd l i ∈ l := by
  have hg : l[i.toNat]? = some (l[i.toNat]'(by omega)) := List.getElem?_eq_getElem (by omega)
  rw [rd_of hg]
  exact List.getElem_mem _
theorem eqTab (d : Int) (a b : List Int) (ha : a.length ≤ 1048576) (hb : b.length ≤ 1048576) : Ev (fun k => laws_eqTable.f k d a b d a b) true := by
  unfold laws_eqTable.f
  exact K.pos rfl (Ev.bind (eqIntS a (by omega)) (K.pos rfl (Ev.bind (eqIntS b (by omega)) (K.pos rfl (Ev.now _)))))
theorem markIntC (l : List Int) (c : Int) (hl : l.length ≤ 1048576) (hc0 : 0 ≤ c) (hc1 : c ≤ 1099511627776) : ∃ m ys, c ≤ m ∧ m ≤ c + 16 * l.length ∧ Ev (fun k => laws_markIntS.f k l c) (m, ys) ∧ Ev (fun k => laws_heldIntS.f k ys c) m := by
  unfold laws_markIntS.f laws_heldIntS.f
  refine Exists.elim (K.marks (fun k xs c i => laws_markIntS.l0 k xs c i) (fun k xs c i => laws_heldIntS.l0 k xs c i) l.length 1 (fun c _ => c) (by omega) (by omega) (by omega)
    ?_ ?_ ?_ ?_ l.length l c 0 (by omega) (by omega) rfl (by omega) (by omega)) (fun m h => h.elim fun ys h => ⟨m, ys, h.1, h.2.1, h.2.2.2.2.1, h.2.2.2.2.2⟩)
  · intro k xs c i hi hx
    simp only [laws_markIntS.l0]
    rw [if_neg (by omega)]
  · intro k xs c i x h0 hi hx hc0 hc1 hxi
    simp only [laws_markIntS.l0]
    rw [if_pos (by omega), if_pos h0, K.wr (x := c + 1) (by omega) (by omega), K.wr (x := i + 1) (by omega) (by omega)]
  · intro k xs c i hi hx
    simp only [laws_heldIntS.l0]
    rw [if_neg (by omega)]
  · intro k xs c i x h0 hi hx hc0 hc1 hxi
    simp only [laws_heldIntS.l0]
    rw [if_pos (by omega), if_pos h0, rd_of hxi, if_pos rfl, K.wr (x := c + 1) (by omega) (by omega), K.wr (x := i + 1) (by omega) (by omega)]
theorem markTab (d : Int) (a b : List Int) (ha : a.length ≤ 1048576) (hb : b.length ≤ 1048576) : ∃ m ya yb, 1 ≤ m ∧ Ev (fun k => laws_markTable.f k d a b 1) (m, ya, yb) ∧ Ev (fun k => laws_heldTable.f k d ya yb 1) m := by
  obtain ⟨m1, y1, a0, a1, a2, a3⟩ := markIntC a 1 ha (by omega) (by omega)
  obtain ⟨m2, y2, b0, b1, b2, b3⟩ := markIntC b m1 hb (by omega) (by omega)
  refine ⟨m2, y1, y2, by omega, ?_, ?_⟩
  · unfold laws_markTable.f
    exact Ev.bind a2 (Ev.bind b2 (Ev.now _))
  · unfold laws_heldTable.f
    exact Ev.bind a3 (K.neg (by omega) (Ev.bind b3 (K.neg (by omega) (Ev.now _))))
theorem sorted_ext : ∀ (a b : List Int), a.Pairwise (· < ·) → b.Pairwise (· < ·) → (∀ x, x ∈ a ↔ x ∈ b) → a = b
  | [], b, _, _, h => (List.eq_nil_iff_forall_not_mem.2 fun x hx => by have := (h x).2 hx; simp at this).symm
  | x :: a, [], _, _, h => by have := (h x).1 (by simp); simp at this
  | x :: a, y :: b, ha, hb, h => by
    rw [List.pairwise_cons] at ha hb
    have e : x = y := by
      rcases List.mem_cons.1 ((h x).1 (by simp)) with e | e
      · exact e
      rcases List.mem_cons.1 ((h y).2 (by simp)) with e2 | e2
      · exact e2.symm
      have := hb.1 x e
      have := ha.1 y e2
      omega
    subst e
    rw [sorted_ext a b ha.2 hb.2 fun z => ⟨fun hz => ?_, fun hz => ?_⟩]
    · rcases List.mem_cons.1 ((h z).1 (List.mem_cons_of_mem _ hz)) with e | e
      · have := ha.1 z hz; omega
      · exact e
    · rcases List.mem_cons.1 ((h z).2 (List.mem_cons_of_mem _ hz)) with e | e
      · have := hb.1 z hz; omega
      · exact e
theorem upTo (d : Array Int) (hs : ∀ i j, i ≤ j → j < d.size → d[i]! ≤ d[j]!) : ∀ m, m ≤ d.size → (Go.Lib.compactUpTo d m).Pairwise (· < ·) ∧ (∀ x, x ∈ Go.Lib.compactUpTo d m ↔ ∃ j, j < m ∧ d[j]! = x)
  | 0, _ => by
    refine ⟨by simp [Go.Lib.compactUpTo], fun x => ?_⟩
    simp [Go.Lib.compactUpTo]
  | m + 1, hm => by
    obtain ⟨h1, h2⟩ := upTo d hs m (by omega)
    rw [Go.Lib.compactUpTo_succ]
    by_cases hk : Go.Lib.keeps d m = true
    · rw [if_pos hk]
      refine ⟨List.pairwise_append.2 ⟨h1, by simp, fun x hx y hy => ?_⟩, fun x => ?_⟩
      · obtain ⟨j, hj, rfl⟩ := (h2 x).1 hx
        obtain rfl := List.mem_singleton.1 hy
        have hk2 := of_decide_eq_true hk
        rcases hk2 with hk2 | hk2
        · omega
        · have a1 := hs j (m - 1) (by omega) (by omega)
          have a2 := hs (m - 1) m (by omega) (by omega)
          omega
      · rw [List.mem_append, h2, List.mem_singleton]
        constructor
        · rintro (⟨j, hj, e⟩ | e)
          · exact ⟨j, by omega, e⟩
          · exact ⟨m, by omega, e.symm⟩
        · rintro ⟨j, hj, e⟩
          by_cases c : j = m
          · subst c; exact .inr e.symm
          · exact .inl ⟨j, by omega, e⟩
    · rw [if_neg hk, List.append_nil]
      refine ⟨h1, fun x => ?_⟩
      rw [h2]
      have hk2 : ¬ (m = 0 ∨ d[m]! ≠ d[m - 1]!) := fun h => hk (decide_eq_true h)
      have hm0 : m ≠ 0 := fun h => hk2 (.inl h)
      have he : d[m]! = d[m - 1]! := Classical.byContradiction fun h => hk2 (.inr h)
      constructor
      · rintro ⟨j, hj, e⟩
        exact ⟨j, by omega, e⟩
      · rintro ⟨j, hj, e⟩
        by_cases c : j = m
        · subst c; exact ⟨j - 1, by omega, by rw [← he]; exact e⟩
        · exact ⟨j, by omega, e⟩
theorem compactSorted (l : List Int) : (Go.Lib.compact (l.mergeSort fun x y => decide (x ≤ y))).Pairwise (· < ·) ∧ ∀ x, x ∈ Go.Lib.compact (l.mergeSort fun x y => decide (x ≤ y)) ↔ x ∈ l := by
  have hp : (l.mergeSort fun x y => decide (x ≤ y)).Pairwise (fun x y => decide (x ≤ y) = true) := List.pairwise_mergeSort (fun a b c h1 h2 => by simp at *; omega) (fun a b => by simp; omega) l
  have hm : ∀ x, x ∈ l.mergeSort (fun x y => decide (x ≤ y)) ↔ x ∈ l := fun x => List.mem_mergeSort
  generalize l.mergeSort (fun x y => decide (x ≤ y)) = s at hp hm
  have hs : ∀ i j, i ≤ j → j < s.toArray.size → s.toArray[i]! ≤ s.toArray[j]! := by
    intro i j hij hj
    have hj' : j < s.length := by simpa using hj
    rw [getElem!_pos s.toArray i (by simp; omega), getElem!_pos s.toArray j hj]
    by_cases c : i = j
    · subst c; exact Int.le_refl _
    · have := List.pairwise_iff_getElem.1 hp i j (by omega) hj' (by omega)
      simpa using this
  obtain ⟨h1, h2⟩ := upTo s.toArray hs s.length (by simp)
  refine ⟨h1, fun x => ?_⟩
  rw [← hm x, Go.Lib.compact, h2, List.mem_iff_getElem]
  constructor
  · rintro ⟨j, hj, e⟩
    refine ⟨j, hj, ?_⟩
    rw [getElem!_pos s.toArray j (by simpa using hj)] at e
    simpa using e
  · rintro ⟨j, hj, e⟩
    refine ⟨j, hj, ?_⟩
    rw [getElem!_pos s.toArray j (by simpa using hj)]
    simpa using e
def ins : List Int → Int → List Int
  | [], n => [n]
  | x :: o, n => if x < n then x :: ins o n else if x = n then x :: o else n :: x :: o
theorem ins_app : ∀ (p q : List Int) (n : Int), (∀ x ∈ p, x < n) → ins (p ++ q) n = p ++ ins q n
  | [], _, _, _ => rfl
  | x :: p, q, n, h => by
    rw [List.cons_append, ins, if_pos (h x (by simp)), ins_app p q n (fun y hy => h y (List.mem_cons_of_mem _ hy))]
    rfl
theorem ins_mem : ∀ (o : List Int) (n x : Int), x ∈ ins o n ↔ x = n ∨ x ∈ o
  | [], n, x => by simp [ins]
  | y :: o, n, x => by
    rw [ins]
    split
    · rw [List.mem_cons, ins_mem o n x, List.mem_cons]
      constructor
      · rintro (h | h | h)
        · exact .inr (.inl h)
        · exact .inl h
        · exact .inr (.inr h)
      · rintro (h | h | h)
        · exact .inr (.inl h)
        · exact .inl h
        · exact .inr (.inr h)
    · split
      · rename_i h
        subst h
        simp
      · simp
theorem ins_len : ∀ (o : List Int) (n : Int), (ins o n).length ≤ o.length + 1
  | [], n => by simp [ins]
  | y :: o, n => by
    have := ins_len o n
    rw [ins]
    split
    · simp; omega
    · split <;> simp
theorem ins_sorted : ∀ (o : List Int) (n : Int), o.Pairwise (· < ·) → (ins o n).Pairwise (· < ·)
  | [], n, _ => by simp [ins]
  | y :: o, n, h => by
    rw [List.pairwise_cons] at h
    rw [ins]
    split
    · rename_i c
      refine List.pairwise_cons.2 ⟨fun x hx => ?_, ins_sorted o n h.2⟩
      rcases (ins_mem o n x).1 hx with rfl | hx
      · exact c
      · exact h.1 x hx
    · split
      · exact List.pairwise_cons.2 h
      · refine List.pairwise_cons.2 ⟨fun x hx => ?_, List.pairwise_cons.2 h⟩
        rcases List.mem_cons.1 hx with rfl | hx
        · omega
        · have := h.1 x hx; omega
def stepS (a : Int) (o : List Int) (s : S103) : List Int := if s.f0 = a then ins o s.f1 else if s.f1 = a then ins o s.f0 else o
def stepI (a : Int) (o : List Int) (s : S103) : List Int := (o ++ if s.f0 = a then [s.f1] else []) ++ if s.f1 = a then [s.f0] else []
def nears (a : Int) (l : List S103) : List Int := l.foldl (stepS a) []
theorem stepS_len (a : Int) (o : List Int) (s : S103) : (stepS a o s).length ≤ o.length + 1 := by
  unfold stepS
  split
  · exact ins_len _ _
  · split
    · exact ins_len _ _
    · omega
theorem stepI_len (a : Int) (o : List Int) (s : S103) : (stepI a o s).length ≤ o.length + 2 := by
  unfold stepI
  split <;> split <;> simp
theorem near_fold (a : Int) : ∀ (l : List S103) (o v : List Int), o.Pairwise (· < ·) → (∀ x, x ∈ o ↔ x ∈ v) → (l.foldl (stepS a) o).Pairwise (· < ·) ∧ ∀ x, x ∈ l.foldl (stepS a) o ↔ x ∈ l.foldl (stepI a) v
  | [], o, v, h1, h2 => ⟨h1, h2⟩
  | s :: l, o, v, h1, h2 => by
    refine near_fold a l (stepS a o s) (stepI a v s) ?_ ?_
    · unfold stepS
      split
      · exact ins_sorted _ _ h1
      · split
        · exact ins_sorted _ _ h1
        · exact h1
    · intro x
      unfold stepS stepI
      by_cases c : s.f0 = a
      · rw [if_pos c, if_pos c, ins_mem, h2]
        by_cases d : s.f1 = a
        · rw [if_pos d]
          have e : s.f0 = s.f1 := by omega
          simp only [List.mem_append, List.mem_singleton, e]
          constructor
          · rintro (h | h)
            · exact .inr h
            · exact .inl (.inl h)
          · rintro ((h | h) | h)
            · exact .inr h
            · exact .inl h
            · exact .inl h
        · rw [if_neg d]
          simp only [List.mem_append, List.mem_singleton, List.append_nil]
          exact Or.comm
      · rw [if_neg c, if_neg c, List.append_nil]
        by_cases d : s.f1 = a
        · rw [if_pos d, if_pos d, ins_mem, h2]
          simp only [List.mem_append, List.mem_singleton]
          exact Or.comm
        · rw [if_neg d, if_neg d, List.append_nil]
          exact h2 x
theorem nears_eq (a : Int) (l : List S103) : Go.Lib.compact ((l.foldl (stepI a) []).mergeSort fun x y => decide (x ≤ y)) = nears a l := by
  obtain ⟨h1, h2⟩ := near_fold a l [] [] (by simp) (fun x => Iff.rfl)
  obtain ⟨h3, h4⟩ := compactSorted (l.foldl (stepI a) [])
  exact sorted_ext _ _ h3 h1 fun x => (h4 x).trans (h2 x).symm
theorem stepS_fold (a : Int) : ∀ (l : List S103) (o : List Int), (l.foldl (stepS a) o).length ≤ o.length + l.length
  | [], o => by simp
  | s :: l, o => by
    have := stepS_fold a l (stepS a o s)
    have := stepS_len a o s
    simp only [List.foldl_cons, List.length_cons]
    omega
theorem nears_len (a : Int) (l : List S103) : (nears a l).length ≤ l.length := by
  have := stepS_fold a l []
  simpa [nears] using this
theorem sIns (l : List S103) (a i n : Int) (r : List Int) : ∀ (q p : List Int), (∀ x ∈ p, x < n) → p.length + q.length ≤ 67108864 → Ev (fun k => spec_NeighborsIn.l0 k l a (ins (p ++ q) n) (wrap64 (i + 1))) r → Ev (fun k => spec_NeighborsIn.l1 k l a (p ++ q) i n (p.length : Int)) r
  | [], p, hp, hl, h => by
    rw [ins_app p [] n hp] at h
    have e : (([] ++ (p ++ []).take (p.length : Int).toNat ++ [n]) ++ (p ++ []).drop (p.length : Int).toNat : List Int) = p ++ ins [] n := by simp [ins]
    refine K.succ ?_
    simp only [spec_NeighborsIn.l1, Option.bind_some, e]
    simp at hl
    exact K.neg (by simp) (K.pos (by simp) (K.pos (by omega) (K.pos (by simp) (K.pos (by simp; omega) (K.pos (by simp; omega) (K.pos (by simp; omega) h))))))
  | y :: q, p, hp, hl, h => by
    have hr : rd (p ++ y :: q) (p.length : Int) = y := by simp [rd, List.getD_eq_getElem?_getD]
    simp at hl
    refine K.succ ?_
    simp only [spec_NeighborsIn.l1, Option.bind_some, hr, K.wr (x := (p.length : Int) + 1) (by omega) (by omega)]
    refine K.pos (by simp; omega) (K.pos (by omega) ?_)
    by_cases c : y < n
    · refine K.pos c ?_
      have e2 : p ++ y :: q = (p ++ [y]) ++ q := by simp
      have e3 : (p.length : Int) + 1 = ((p ++ [y]).length : Int) := by simp
      rw [e2, e3]
      refine sIns l a i n r q (p ++ [y]) ?_ (by simp; omega) (by rw [← e2]; exact h)
      intro x hx
      rcases List.mem_append.1 hx with hx | hx
      · exact hp x hx
      · rw [List.mem_singleton.1 hx]; exact c
    · refine K.neg c (K.neg (by simp; omega) ?_)
      rw [ins_app p (y :: q) n hp, ins, if_neg c] at h
      by_cases d : y = n
      · rw [if_pos d] at h
        exact K.pos d h
      · rw [if_neg d] at h
        have e : (([] ++ (p ++ y :: q).take (p.length : Int).toNat ++ [n]) ++ (p ++ y :: q).drop (p.length : Int).toNat : List Int) = p ++ n :: y :: q := by simp
        rw [e]
        exact K.neg d (K.pos (by simp; omega) (K.pos (by simp; omega) (K.pos (by simp; omega) (K.pos (by simp; omega) h))))
theorem sNear (a : Int) : ∀ (q p : List S103) (o : List Int), o.length ≤ p.length → p.length + q.length ≤ 1048576 → Ev (fun k => spec_NeighborsIn.l0 k (p ++ q) a o (p.length : Int)) (q.foldl (stepS a) o)
  | [], p, o, _, _ => by
    refine K.succ ?_
    simp only [spec_NeighborsIn.l0]
    exact K.neg (by simp) (Ev.now _)
  | s :: q, p, o, ho, hl => by
    have hr : rd_T103 (p ++ s :: q) (p.length : Int) = s := by simp [rd_T103, List.getD_eq_getElem?_getD]
    simp at hl
    have w1 : wrap64 ((p.length : Int) + 1) = (p.length : Int) + 1 := K.wr (by omega) (by omega)
    have e2 : p ++ s :: q = (p ++ [s]) ++ q := by simp
    have e3 : (p.length : Int) + 1 = ((p ++ [s]).length : Int) := by simp
    have ih := sNear a q (p ++ [s]) (stepS a o s) (by have := stepS_len a o s; simp; omega) (by simp; omega)
    rw [← e2, ← e3, ← w1] at ih
    refine K.succ ?_
    simp only [spec_NeighborsIn.l0, hr]
    refine K.pos (by simp; omega) (K.pos (by omega) ?_)
    rw [List.foldl_cons]
    unfold stepS at ih ⊢
    by_cases c : s.f0 = a
    · rw [if_pos c] at ih ⊢
      refine K.pos c (K.succ ?_)
      simp only [spec_NeighborsIn.j1]
      exact sIns _ a _ s.f1 _ o [] (by simp) (by simp; omega) ih
    · rw [if_neg c] at ih ⊢
      refine K.neg c ?_
      by_cases d : s.f1 = a
      · rw [if_pos d] at ih ⊢
        refine K.pos d (K.succ ?_)
        simp only [spec_NeighborsIn.j1]
        exact sIns _ a _ s.f0 _ o [] (by simp) (by simp; omega) ih
      · rw [if_neg d] at ih ⊢
        exact K.neg d ih
theorem iNear (a : Int) (r : List Int) : ∀ (q p : List S103) (o : List Int), o.length ≤ 2 * p.length → p.length + q.length ≤ 1048576 → sc108.f (q.foldl (stepI a) o) = some r → Ev (fun k => impl_NeighborsIn.l0 k a o (p ++ q) ((p ++ q).length : Int) (p.length : Int)) r
  | [], p, o, _, _, h => by
    refine K.succ ?_
    simp only [impl_NeighborsIn.l0]
    refine K.neg (by simp) (K.known h (Ev.now _))
  | s :: q, p, o, ho, hl, h => by
    have hr : rd_T103 (p ++ s :: q) (p.length : Int) = s := by simp [rd_T103, List.getD_eq_getElem?_getD]
    simp at hl
    have w1 : wrap64 ((p.length : Int) + 1) = (p.length : Int) + 1 := K.wr (by omega) (by omega)
    have e2 : p ++ s :: q = (p ++ [s]) ++ q := by simp
    have e3 : (p.length : Int) + 1 = ((p ++ [s]).length : Int) := by simp
    have ih := iNear a r q (p ++ [s]) (stepI a o s) (by have := stepI_len a o s; simp; omega) (by simp; omega) h
    rw [← e2, ← e3, ← w1] at ih
    refine K.succ ?_
    simp only [impl_NeighborsIn.l0, hr, Option.bind_some]
    refine K.pos (by simp; omega) (K.pos (by omega) (K.pos (by simp; omega) ?_))
    unfold stepI at ih
    by_cases c : s.f0 = a
    · rw [if_pos c] at ih
      refine K.pos c (K.pos (by omega) ?_)
      by_cases d : s.f1 = a
      · rw [if_pos d] at ih
        exact K.pos d (K.pos (by simp; omega) ih)
      · rw [if_neg d, List.append_nil] at ih
        exact K.neg d ih
    · rw [if_neg c, List.append_nil] at ih
      refine K.neg c ?_
      by_cases d : s.f1 = a
      · rw [if_pos d] at ih
        exact K.pos d (K.pos (by omega) ih)
      · rw [if_neg d, List.append_nil] at ih
        exact K.neg d ih
theorem stepI_fold (a : Int) : ∀ (l : List S103) (o : List Int), (l.foldl (stepI a) o).length ≤ o.length + 2 * l.length
  | [], o => by simp
  | s :: l, o => by
    have := stepI_fold a l (stepI a o s)
    have := stepI_len a o s
    simp only [List.foldl_cons, List.length_cons]
    omega
theorem near (a : Int) (l : List S103) (hl : l.length ≤ 1048576) : ∃ v : List Int, v.length ≤ 1048576 ∧ Ev (fun k => spec_NeighborsIn.f k l a) v ∧ Ev (fun k => impl_NeighborsIn.f k l a) v := by
  refine ⟨nears a l, Nat.le_trans (nears_len a l) hl, ?_, ?_⟩
  · unfold spec_NeighborsIn.f
    exact sNear a l [] [] (by simp) (by simpa using hl)
  · unfold impl_NeighborsIn.f
    refine iNear a _ l [] [] (by simp) (by simpa using hl) ?_
    have := stepI_fold a l []
    unfold sc108.f
    rw [if_pos (by simp at this; omega), nears_eq]
theorem l1In (a b c : Int) : spec_l1In.f a b c = some (decide (b ≤ a ∧ a ≤ c)) := by
  unfold spec_l1In.f
  split <;> (try split) <;> first | rfl | (congr 1; exact decide_eq_decide.2 (by omega)) | (congr 1; exact (decide_eq_false (by omega)).symm)
theorem isIndex (a b : Int) : impl_isIndex.f a b = some (decide (0 ≤ a ∧ a < b)) := by
  unfold impl_isIndex.f
  split <;> (try split) <;> first | rfl | (congr 1; exact decide_eq_decide.2 (by omega)) | (congr 1; exact (decide_eq_false (by omega)).symm)
theorem InRange (a b c : Int) : impl_InRange.f a b c = some (decide (b ≤ a ∧ a ≤ c)) := by
  unfold impl_InRange.f
  split <;> (try split) <;> first | rfl | (congr 1; exact decide_eq_decide.2 (by omega)) | (congr 1; exact (decide_eq_false (by omega)).symm)
def cneg : List Int → Nat
  | [] => 0
  | x :: D => (if x < 0 then 1 else 0) + cneg D
theorem cneg_set : ∀ (D : List Int) (j : Nat) (x v : Int), D[j]? = some x → x < 0 → 0 ≤ v → cneg (D.set j v) + 1 = cneg D
  | [], j, x, v, h, _, _ => by simp at h
  | y :: D, 0, x, v, h, hx, hv => by
    simp at h
    subst h
    rw [List.set_cons_zero, cneg, cneg, if_pos hx, if_neg (by omega)]
    omega
  | y :: D, j + 1, x, v, h, hx, hv => by
    simp at h
    have := cneg_set D j x v h hx hv
    rw [List.set_cons_succ, cneg, cneg]
    omega
theorem cneg_rep : ∀ n : Nat, cneg (List.replicate n (-1)) = n
  | 0 => rfl
  | n + 1 => by
    rw [List.replicate_succ, cneg, cneg_rep n, if_pos (by omega)]
    omega
structure BInv (N : Int) (D T : List Int) : Prop where
  len : (D.length : Int) = N
  top : N ≤ 12
  cnt : ((T.length + cneg D : Nat) : Int) ≤ N
  hi : ∀ y : Int, 0 ≤ y → y < N → rd D y ≤ T.length
  mem : ∀ y ∈ T, 0 ≤ y ∧ y < N ∧ 0 ≤ rd D y
theorem rd_set {D : List Int} {j y v : Int} (hj0 : 0 ≤ j) (hj : j < D.length) (hy : 0 ≤ y) : rd (D.set j.toNat v) y = if y = j then v else rd D y := by
  simp only [rd, List.getD_eq_getElem?_getD, List.getElem?_set]
  by_cases c : y = j
  · subst c
    rw [if_pos rfl, if_pos (by omega), if_pos rfl]
    rfl
  · rw [if_neg (by omega), if_neg c]
theorem rd_some {D : List Int} {j : Int} (hj0 : 0 ≤ j) (hj : j < D.length) : D[j.toNat]? = some (rd D j) := by
  rw [List.getElem?_eq_getElem (by omega)]
  simp only [rd, List.getD_eq_getElem?_getD]
  rw [List.getElem?_eq_getElem (by omega), Option.getD_some]
theorem binv_put {N : Int} {D T : List Int} (h : BInv N D T) {a y : Int} (ha : a ∈ T) (hy0 : 0 ≤ y) (hy1 : y < N) (hy : rd D y < 0) : BInv N (D.set y.toNat (rd D a + 1)) (T ++ [y]) := by
  obtain ⟨a0, a1, a2⟩ := h.mem a ha
  have hl := h.len
  have h12 := h.hi a a0 a1
  refine ⟨by rw [List.length_set]; exact h.len, h.top, ?_, ?_, ?_⟩
  · have := cneg_set D y.toNat (rd D y) (rd D a + 1) (rd_some hy0 (by omega)) hy (by omega)
    have := h.cnt
    simp only [List.length_append, List.length_singleton]
    omega
  · intro z z0 z1
    rw [rd_set hy0 (by omega) z0]
    have := h.hi z z0 z1
    simp only [List.length_append, List.length_singleton]
    split <;> omega
  · intro z hz
    rcases List.mem_append.1 hz with hz | hz
    · obtain ⟨z0, z1, z2⟩ := h.mem z hz
      refine ⟨z0, z1, ?_⟩
      rw [rd_set hy0 (by omega) z0]
      split <;> omega
    · obtain rfl := List.mem_singleton.1 hz
      refine ⟨hy0, hy1, ?_⟩
      rw [rd_set hy0 (by omega) hy0, if_pos rfl]
      omega
theorem bfs2 (l : List S103) (N f dst a : Int) (k : Nat) : ∀ (q p : List Int), p.length + q.length ≤ 1048576 → ∀ (D T : List Int), BInv N D T → k < T.length → a ∈ T → ∃ D' T', BInv N D' T' ∧ k < T'.length ∧ (∀ r, Ev (fun z => spec_DistancesTo.l1 z l N f dst D' T' ((k : Int) + 1)) r → Ev (fun z => spec_DistancesTo.l2 z l N f dst D T (k : Int) a (p ++ q) (p.length : Int)) r) ∧ (∀ r, Ev (fun z => impl_DistancesTo.l1 z l N f dst D' (T'.drop (k + 1))) r → Ev (fun z => impl_DistancesTo.l2 z l N f dst D (T.drop k) a (p ++ q) ((p ++ q).length : Int) (p.length : Int)) r)
  | [], p, hl, D, T, h, hk, ha => by
    have h1 := h.cnt
    have h2 := h.top
    refine ⟨D, T, h, hk, fun r hr => K.succ ?_, fun r hr => K.succ ?_⟩
    · simp only [spec_DistancesTo.l2, K.wr (x := (k : Int) + 1) (by omega) (by omega)]
      exact K.neg (by simp) hr
    · have e : (T.drop k).drop (1 : Int).toNat = T.drop (k + 1) := by rw [List.drop_drop]; rfl
      simp only [impl_DistancesTo.l2, e]
      exact K.neg (by simp) (K.pos (by simp; omega) hr)
  | y :: q, p, hl, D, T, h, hk, ha => by
    have h1 := h.cnt
    have h2 := h.top
    have h3 := h.len
    simp at hl
    obtain ⟨a0, a1, a2⟩ := h.mem a ha
    have a3 := h.hi a a0 a1
    have hr : rd (p ++ y :: q) (p.length : Int) = y := by simp [rd, List.getD_eq_getElem?_getD]
    have w1 := Aside0.mk (K.wr (x := (p.length : Int) + 1) (by omega) (by omega))
    have wN := Aside0.mk (K.wr (x := N - 1) (by omega) (by omega))
    have e2 : p ++ y :: q = (p ++ [y]) ++ q := by simp
    have e3 : (p.length : Int) + 1 = ((p ++ [y]).length : Int) := by simp
    by_cases c : (0 ≤ y ∧ y < N) ∧ rd D y < 0
    · obtain ⟨⟨c0, c1⟩, c2⟩ := c
      obtain ⟨D', T', i1, i2, i3, i4⟩ := bfs2 l N f dst a k q (p ++ [y]) (by simp; omega) _ _ (binv_put h ha c0 c1 c2) (by simp; omega) (List.mem_append_left _ ha)
      refine ⟨D', T', i1, i2, fun r g => K.succ ?_, fun r g => K.succ ?_⟩
      · have g := i3 r g
        rw [← e2, ← e3] at g
        simp only [spec_DistancesTo.l2, hr, w1.out, wN.out, l1In, Option.bind_some, K.wr (x := rd D a + 1) (by omega) (by omega)]
        exact K.pos (by simp; omega) (K.pos (by omega) (K.pos (decide_eq_true ⟨c0, by omega⟩) (K.pos c0 (K.pos (by omega) (K.pos c2 (K.pos a0 (K.pos (by omega) (K.pos (by omega) g))))))))
      · have g := i4 r g
        rw [← e2, ← e3, show (T ++ [y]).drop k = T.drop k ++ [y] from List.drop_append_of_le_length (by omega)] at g
        simp only [impl_DistancesTo.l2, hr, w1.out, isIndex, Option.bind_some, K.wr (x := rd D a + 1) (by omega) (by omega)]
        exact K.pos (by simp; omega) (K.pos (by omega) (K.pos (by simp; omega) (K.pos (decide_eq_true ⟨c0, c1⟩) (K.pos c0 (K.pos (by omega) (K.pos c2 (K.pos a0 (K.pos (by omega) (K.pos (by simp; omega) g)))))))))
    · obtain ⟨D', T', i1, i2, i3, i4⟩ := bfs2 l N f dst a k q (p ++ [y]) (by simp; omega) D T h hk ha
      refine ⟨D', T', i1, i2, fun r g => K.succ ?_, fun r g => K.succ ?_⟩
      · have g := i3 r g
        rw [← e2, ← e3] at g
        simp only [spec_DistancesTo.l2, hr, w1.out, wN.out, l1In, Option.bind_some]
        refine K.pos (by simp; omega) (K.pos (by omega) ?_)
        by_cases d : 0 ≤ y ∧ y < N
        · exact K.pos (decide_eq_true ⟨d.1, by omega⟩) (K.pos d.1 (K.pos (by omega) (K.neg (fun e => c ⟨d, e⟩) g)))
        · exact K.neg (by simp; omega) g
      · have g := i4 r g
        rw [← e2, ← e3] at g
        simp only [impl_DistancesTo.l2, hr, w1.out, isIndex, Option.bind_some]
        refine K.pos (by simp; omega) (K.pos (by omega) (K.pos (by simp; omega) ?_))
        by_cases d : 0 ≤ y ∧ y < N
        · exact K.pos (decide_eq_true d) (K.pos d.1 (K.pos (by omega) (K.neg (fun e => c ⟨d, e⟩) g)))
        · exact K.neg (by simp; omega) g
theorem bfs1 (l : List S103) (hl : l.length ≤ 1048576) (N f dst : Int) : ∀ (m k : Nat) (D T : List Int), k + m = 12 → BInv N D T → k ≤ T.length → ∃ v : List Int, (v.length : Int) = N ∧ Ev (fun z => spec_DistancesTo.l1 z l N f dst D T (k : Int)) v ∧ Ev (fun z => impl_DistancesTo.l1 z l N f dst D (T.drop k)) v := by
  intro m
  induction m with
  | zero =>
    intro k D T hk h hT
    have h1 := h.cnt
    have h2 := h.top
    have h3 := h.len
    refine ⟨D, h3, K.succ ?_, K.succ ?_⟩
    · simp only [spec_DistancesTo.l1]
      exact K.neg (by omega) (Ev.now _)
    · simp only [impl_DistancesTo.l1]
      exact K.neg (by simp; omega) (Ev.now _)
  | succ m ih =>
    intro k D T hk h hT
    have h1 := h.cnt
    have h2 := h.top
    have h3 := h.len
    by_cases c : k = T.length
    · refine ⟨D, h3, K.succ ?_, K.succ ?_⟩
      · simp only [spec_DistancesTo.l1]
        exact K.neg (by omega) (Ev.now _)
      · simp only [impl_DistancesTo.l1]
        exact K.neg (by simp; omega) (Ev.now _)
    · have hkT : k < T.length := by omega
      have r1 : rd T (k : Int) = T[k] := by
        simp [rd, List.getD_eq_getElem?_getD, List.getElem?_eq_getElem hkT]
      have r2 : rd (T.drop k) 0 = T[k] := by
        simp [rd, List.getD_eq_getElem?_getD, List.getElem?_drop, List.getElem?_eq_getElem hkT]
      have ha : T[k] ∈ T := List.getElem_mem _
      have wk := Aside0.mk (K.wr (x := (k : Int) + 1) (by omega) (by omega))
      have e : (T.drop k).drop (1 : Int).toNat = T.drop (k + 1) := by rw [List.drop_drop]; rfl
      have hlen : ((T.drop k).length : Int) > 0 := by rw [List.length_drop]; omega
      generalize T[k] = a at r1 r2 ha
      by_cases skip : a ≠ dst ∧ a ≥ f
      · obtain ⟨v, hv, g1, g2⟩ := ih (k + 1) D T (by omega) h (by omega)
        rw [show ((k + 1 : Nat) : Int) = (k : Int) + 1 by omega] at g1
        refine ⟨v, hv, K.succ ?_, K.succ ?_⟩
        · simp only [spec_DistancesTo.l1, r1]
          refine K.pos (by omega) (K.pos (by omega) (K.neg skip.1 (K.succ ?_)))
          simp only [spec_DistancesTo.j2, wk.out]
          exact K.pos (decide_eq_true skip.2) g1
        · simp only [impl_DistancesTo.l1, r2]
          refine K.pos hlen (K.pos (by omega) (K.neg skip.1 (K.succ ?_)))
          simp only [impl_DistancesTo.j3, e]
          exact K.pos (decide_eq_true skip.2) (K.pos (by omega) g2)
      · obtain ⟨t, ht, n1, n2⟩ := near a l hl
        obtain ⟨D', T', i1, i2, i3, i4⟩ := bfs2 l N f dst a k t [] (by simp; omega) D T h hkT ha
        obtain ⟨v, hv, g1, g2⟩ := ih (k + 1) D' T' (by omega) i1 (by omega)
        rw [show ((k + 1 : Nat) : Int) = (k : Int) + 1 by omega] at g1
        have i3 := i3 v g1
        have i4 := i4 v g2
        have s1 : Ev (fun z => spec_DistancesTo.j2 z l N f dst D T (k : Int) a false) v := by
          refine K.succ ?_
          simp only [spec_DistancesTo.j2]
          exact K.neg Bool.false_ne_true (Ev.bind n1 i3)
        have s2 : Ev (fun z => impl_DistancesTo.j3 z l N f dst D (T.drop k) a false) v := by
          refine K.succ ?_
          simp only [impl_DistancesTo.j3]
          exact K.neg Bool.false_ne_true (Ev.bind n2 i4)
        refine ⟨v, hv, K.succ ?_, K.succ ?_⟩
        · simp only [spec_DistancesTo.l1, r1]
          refine K.pos (by omega) (K.pos (by omega) ?_)
          by_cases d : a = dst
          · exact K.pos d s1
          · rw [show decide (a ≥ f) = false from decide_eq_false (fun e => skip ⟨d, e⟩)]
            exact K.neg d s1
        · simp only [impl_DistancesTo.l1, r2]
          refine K.pos hlen (K.pos (by omega) ?_)
          by_cases d : a = dst
          · exact K.pos d s2
          · rw [show decide (a ≥ f) = false from decide_eq_false (fun e => skip ⟨d, e⟩)]
            exact K.neg d s2
theorem sFill (l : List S103) (N f dst : Int) (r : List Int) (hN : N ≤ 12) (hd0 : 0 ≤ dst) (hd1 : dst < N) : ∀ (d i : Nat), (i + d : Nat) = N → Ev (fun z => spec_DistancesTo.l1 z l N f dst ((List.replicate (i + d) (-1)).set dst.toNat 0) [dst] 0) r → Ev (fun z => spec_DistancesTo.l0 z l N f dst (List.replicate i (-1)) (i : Int)) r := by
  intro d
  induction d with
  | zero =>
    intro i hi h
    refine K.succ ?_
    simp only [spec_DistancesTo.l0]
    exact K.neg (by omega) (K.pos hd0 (K.pos (by simp; omega) h))
  | succ d ih =>
    intro i hi h
    refine K.succ ?_
    simp only [spec_DistancesTo.l0, K.wr (x := (i : Int) + 1) (by omega) (by omega)]
    have e : List.replicate i (-1 : Int) ++ [-1] = List.replicate (i + 1) (-1) := List.replicate_succ'.symm
    rw [e]
    have := ih (i + 1) (by omega) (by rw [show i + 1 + d = i + (d + 1) by omega]; exact h)
    exact K.pos (by omega) (K.pos (by simp; omega) this)
theorem iFill (l : List S103) (N f dst : Int) (r : List Int) (hN : N ≤ 12) (hd0 : 0 ≤ dst) (hd1 : dst < N) : ∀ (d i : Nat), (i + d : Nat) = N → Ev (fun z => impl_DistancesTo.l1 z l N f dst ((List.replicate (i + d) (-1)).set dst.toNat 0) [dst]) r → Ev (fun z => impl_DistancesTo.l0 z l N f dst (List.replicate i (-1)) N (i : Int)) r := by
  intro d
  induction d with
  | zero =>
    intro i hi h
    refine K.succ ?_
    simp only [impl_DistancesTo.l0]
    exact K.neg (by omega) (K.pos hd0 (K.pos (by simp; omega) h))
  | succ d ih =>
    intro i hi h
    refine K.succ ?_
    simp only [impl_DistancesTo.l0, K.wr (x := (i : Int) + 1) (by omega) (by omega)]
    have e : List.replicate i (-1 : Int) ++ [-1] = List.replicate (i + 1) (-1) := List.replicate_succ'.symm
    rw [e]
    have := ih (i + 1) (by omega) (by rw [show i + 1 + d = i + (d + 1) by omega]; exact h)
    exact K.pos (by omega) (K.pos (by simp; omega) this)
theorem l14Ok (N dst : Int) : spec_l14Ok.f N dst = some (decide ((1 ≤ N ∧ N ≤ 12) ∧ 0 ≤ dst ∧ dst < N)) := by
  unfold spec_l14Ok.f
  rw [l1In, Option.bind_some]
  by_cases c : 1 ≤ N ∧ N ≤ 12
  · rw [if_pos (decide_eq_true c), l1In, Option.bind_some, K.wr (x := N - 1) (by omega) (by omega)]
    congr 1
    exact decide_eq_decide.2 (by omega)
  · rw [if_neg (by simpa using c)]
    congr 1
    exact (decide_eq_false (by omega)).symm
theorem distsN (l : List S103) (hl : l.length ≤ 1048576) (N f dst : Int) : ∃ v : List Int, (v = [] ∨ (v.length : Int) = N ∧ N ≤ 12) ∧ Ev (fun z => spec_DistancesTo.f z l N f dst) v ∧ Ev (fun z => impl_DistancesTo.f z l N f dst) v := by
  unfold spec_DistancesTo.f impl_DistancesTo.f impl_isNumber.f
  simp only [l14Ok, InRange, isIndex, Option.bind_some]
  by_cases c : (1 ≤ N ∧ N ≤ 12) ∧ 0 ≤ dst ∧ dst < N
  · obtain ⟨c1, c2⟩ := c
    have hn : ((0 + N.toNat : Nat) : Int) = N := by omega
    have hr : (List.replicate (0 + N.toNat) (-1 : Int))[dst.toNat]? = some (-1) := by
      rw [List.getElem?_replicate, if_pos (by omega)]
    have hI : BInv N ((List.replicate (0 + N.toNat) (-1)).set dst.toNat 0) [dst] := by
      have hlen : ((List.replicate (0 + N.toNat) (-1 : Int)).length : Int) = N := by simp; omega
      have hrd : ∀ y : Int, 0 ≤ y → y < N → rd (List.replicate (0 + N.toNat) (-1)) y = -1 := by
        intro y y0 y1
        simp only [rd, List.getD_eq_getElem?_getD]
        rw [List.getElem?_replicate, if_pos (by omega)]
        rfl
      refine ⟨by rw [List.length_set]; exact hlen, c1.2, ?_, ?_, ?_⟩
      · have := cneg_set _ dst.toNat (-1) 0 hr (by omega) (by omega)
        rw [cneg_rep] at this
        simp only [List.length_singleton]
        omega
      · intro y y0 y1
        rw [rd_set c2.1 (by omega) y0, hrd y y0 y1]
        simp only [List.length_singleton]
        split <;> omega
      · intro y hy
        obtain rfl := List.mem_singleton.1 hy
        refine ⟨c2.1, c2.2, ?_⟩
        rw [rd_set c2.1 (by omega) c2.1, if_pos rfl]
        omega
    obtain ⟨v, hv, g1, g2⟩ := bfs1 l hl N f dst 12 0 _ _ (by omega) hI (by simp)
    refine ⟨v, .inr ⟨hv, c1.2⟩, ?_, ?_⟩
    · refine K.pos (decide_eq_true ⟨c1, c2⟩) ?_
      exact sFill l N f dst v c1.2 c2.1 c2.2 N.toNat 0 hn g1
    · refine K.pos (decide_eq_true c1) (K.succ ?_)
      simp only [impl_DistancesTo.j0]
      rw [show (!decide (0 ≤ dst ∧ dst < N)) = false by rw [decide_eq_true c2]; rfl]
      exact K.neg Bool.false_ne_true (iFill l N f dst v c1.2 c2.1 c2.2 N.toNat 0 hn g2)
  · refine ⟨[], .inl rfl, K.neg (by simpa using c) (Ev.now _), ?_⟩
    by_cases c1 : 1 ≤ N ∧ N ≤ 12
    · refine K.pos (decide_eq_true c1) (K.succ ?_)
      simp only [impl_DistancesTo.j0]
      rw [show (!decide (0 ≤ dst ∧ dst < N)) = true by rw [decide_eq_false (fun e => c ⟨c1, e⟩)]; rfl]
      exact K.pos rfl (Ev.now _)
    · refine K.neg (by simpa using c1) (K.succ ?_)
      simp only [impl_DistancesTo.j0]
      exact K.pos trivial (Ev.now _)
theorem dists (l : List S103) (hl : l.length ≤ 1048576) (N f dst : Int) : ∃ v : List Int, v.length ≤ 12 ∧ Ev (fun z => spec_DistancesTo.f z l N f dst) v ∧ Ev (fun z => impl_DistancesTo.f z l N f dst) v := by
  obtain ⟨v, hv, h1, h2⟩ := distsN l hl N f dst
  refine ⟨v, ?_, h1, h2⟩
  rcases hv with rfl | hv
  · simp
  · omega
theorem sEnd (l : List S103) (N f dst n j : Int) (D o t : List Int) (i : Nat) (r : List Int) (hi : i ≤ 12) (ho : o.length ≤ 12) (h : Ev (fun z => spec_NextTo.l0 z l N f dst (o ++ [n]) D ((i : Int) + 1)) r) : Ev (fun z => spec_NextTo.j2 z l N f dst o D (i : Int) n t j false) r := by
  refine K.succ ?_
  simp only [spec_NextTo.j2, K.wr (x := (i : Int) + 1) (by omega) (by omega)]
  exact K.neg Bool.false_ne_true (K.pos (by omega) h)
theorem sOut (l : List S103) (N f dst n j : Int) (D o t : List Int) (i : Nat) (r : List Int) (hi : i ≤ 12) (hD : i < D.length) (ho : o.length ≤ 12) (hc : ¬ (n < 0 ∧ rd D (i : Int) > 0)) (h : Ev (fun z => spec_NextTo.l0 z l N f dst (o ++ [n]) D ((i : Int) + 1)) r) : Ev (fun z => spec_NextTo.l1 z l N f dst o D (i : Int) n t j) r := by
  have e := sEnd l N f dst n j D o t i r hi ho h
  refine K.succ ?_
  simp only [spec_NextTo.l1]
  by_cases c : j < (t.length : Int)
  · refine K.pos c (K.pos (by omega) (K.pos (by omega) ?_))
    by_cases d : rd D (i : Int) > 0
    · refine K.pos d ?_
      rw [show decide (n < 0) = false from decide_eq_false (fun e => hc ⟨e, d⟩)]
      exact e
    · exact K.neg d e
  · exact K.neg c e
theorem iOut (l : List S103) (N f dst n d : Int) (D o : List Int) (i : Nat) (r : List Int) (hi : i ≤ 12) (ho : o.length ≤ 12) (hc : ¬ (n < 0 ∧ d > 0)) (h : Ev (fun z => impl_NextTo.l0 z l N f dst (o ++ [n]) D D (D.length : Int) ((i : Int) + 1)) r) : ∀ (q p : List Int), p.length + q.length ≤ 1048576 → Ev (fun z => impl_NextTo.l1 z l N f dst o D d n D (D.length : Int) (i : Int) (p ++ q) ((p ++ q).length : Int) (p.length : Int)) r
  | [], p, hl => by
    refine K.succ ?_
    simp only [impl_NextTo.l1, K.wr (x := (i : Int) + 1) (by omega) (by omega)]
    exact K.neg (by simp) (K.pos (by omega) h)
  | y :: q, p, hl => by
    simp at hl
    have w1 := Aside0.mk (K.wr (x := (p.length : Int) + 1) (by omega) (by omega))
    have e2 : p ++ y :: q = (p ++ [y]) ++ q := by simp
    have e3 : (p.length : Int) + 1 = ((p ++ [y]).length : Int) := by simp
    have ih := iOut l N f dst n d D o i r hi ho hc h q (p ++ [y]) (by simp; omega)
    rw [← e2, ← e3] at ih
    refine K.succ ?_
    simp only [impl_NextTo.l1, w1.out]
    refine K.pos (by simp; omega) (K.pos (by omega) (K.pos (by simp; omega) ?_))
    by_cases c : n < 0
    · exact K.pos c (K.neg (fun e => hc ⟨c, e⟩) ih)
    · exact K.neg c ih
theorem nx (l : List S103) (N f dst : Int) (D o : List Int) (i : Nat) (hD : (D.length : Int) = N) (hN : N ≤ 12) (hi : i < D.length) (ho : o.length ≤ 12) (hd : rd D (i : Int) > 0) : ∀ (q p : List Int), p.length + q.length ≤ 1048576 → ∃ n : Int, (∀ r, Ev (fun z => spec_NextTo.l0 z l N f dst (o ++ [n]) D ((i : Int) + 1)) r → Ev (fun z => spec_NextTo.l1 z l N f dst o D (i : Int) (-1) (p ++ q) (p.length : Int)) r) ∧ (∀ r, Ev (fun z => impl_NextTo.l0 z l N f dst (o ++ [n]) D D (D.length : Int) ((i : Int) + 1)) r → Ev (fun z => impl_NextTo.l1 z l N f dst o D (rd D (i : Int)) (-1) D (D.length : Int) (i : Int) (p ++ q) ((p ++ q).length : Int) (p.length : Int)) r)
  | [], p, hl => by
    refine ⟨-1, fun r g => K.succ ?_, fun r g => K.succ ?_⟩
    · simp only [spec_NextTo.l1]
      exact K.neg (by simp) (sEnd l N f dst (-1) _ D o _ i r (by omega) ho g)
    · simp only [impl_NextTo.l1, K.wr (x := (i : Int) + 1) (by omega) (by omega)]
      exact K.neg (by simp) (K.pos (by omega) g)
  | y :: q, p, hl => by
    simp at hl
    have hr : rd (p ++ y :: q) (p.length : Int) = y := by simp [rd, List.getD_eq_getElem?_getD]
    have w1 := Aside0.mk (K.wr (x := (p.length : Int) + 1) (by omega) (by omega))
    have wN := Aside0.mk (K.wr (x := N - 1) (by omega) (by omega))
    obtain ⟨m, hm⟩ : ∃ m, Aside0 (wrap64 (rd D (i : Int) - 1) = m) := ⟨_, ⟨rfl⟩⟩
    have e2 : p ++ y :: q = (p ++ [y]) ++ q := by simp
    have e3 : (p.length : Int) + 1 = ((p ++ [y]).length : Int) := by simp
    have b1 : (p.length : Int) < ((p ++ y :: q).length : Int) := by simp; omega
    have b2 : 0 ≤ (p.length : Int) := by omega
    have b3 : 0 ≤ (i : Int) := by omega
    have b4 : (i : Int) < (D.length : Int) := by omega
    have b5 : (-1 : Int) < 0 := by omega
    have hs : ∀ r, Ev (fun z => spec_NextTo.j2 z l N f dst o D (i : Int) (-1) (p ++ y :: q) (p.length : Int) true) r → Ev (fun z => spec_NextTo.l1 z l N f dst o D (i : Int) (-1) (p ++ y :: q) (p.length : Int)) r := by
      intro r g
      refine K.succ ?_
      simp only [spec_NextTo.l1]
      exact K.pos b1 (K.pos b3 (K.pos b4 (K.pos hd (by rw [show decide ((-1 : Int) < 0) = true from rfl]; exact g))))
    by_cases c : ((0 ≤ y ∧ y < N) ∧ (y < f ∨ y = dst)) ∧ rd D y = m
    · obtain ⟨⟨⟨c0, c1⟩, c2⟩, c3⟩ := c
      have c4 : y < (D.length : Int) := by omega
      refine ⟨y, fun r g => hs r (K.succ ?_), fun r g => K.succ ?_⟩
      · have g := sOut l N f dst y ((p.length : Int) + 1) D o (p ++ y :: q) i r (by omega) hi ho (fun e => by omega) g
        simp only [spec_NextTo.j2, hr, w1.out, wN.out, hm.out, l1In, Option.bind_some]
        refine K.pos trivial (K.pos b2 (K.pos b1 (K.pos (decide_eq_true ⟨c0, by omega⟩) ?_)))
        by_cases d : y < f
        · exact K.pos d (K.pos c0 (K.pos c4 (K.pos b3 (K.pos b4 (K.pos c3 g)))))
        · exact K.neg d (K.pos (c2.resolve_left d) (K.pos c0 (K.pos c4 (K.pos b3 (K.pos b4 (K.pos c3 g))))))
      · have g := iOut l N f dst y (rd D (i : Int)) D o i r (by omega) ho (fun e => by omega) g q (p ++ [y]) (by simp; omega)
        rw [← e2, ← e3] at g
        simp only [impl_NextTo.l1, hr, w1.out, hm.out, isIndex, Option.bind_some]
        refine K.pos b1 (K.pos b2 (K.pos b1 (K.pos b5 (K.pos hd (K.pos (decide_eq_true ⟨c0, c1⟩) ?_)))))
        by_cases d : y < f
        · exact K.pos d (K.pos c0 (K.pos c4 (K.pos c3 g)))
        · exact K.neg d (K.pos (c2.resolve_left d) (K.pos c0 (K.pos c4 (K.pos c3 g))))
    · obtain ⟨n, i3, i4⟩ := nx l N f dst D o i hD hN hi ho hd q (p ++ [y]) (by simp; omega)
      refine ⟨n, fun r g => hs r (K.succ ?_), fun r g => K.succ ?_⟩
      · have g := i3 r g
        rw [← e2, ← e3] at g
        simp only [spec_NextTo.j2, hr, w1.out, wN.out, hm.out, l1In, Option.bind_some]
        refine K.pos trivial (K.pos b2 (K.pos b1 ?_))
        by_cases a : 0 ≤ y ∧ y < N
        · have a2 : y < (D.length : Int) := by omega
          refine K.pos (decide_eq_true ⟨a.1, by omega⟩) ?_
          by_cases d : y < f
          · exact K.pos d (K.pos a.1 (K.pos a2 (K.pos b3 (K.pos b4 (K.neg (fun e => c ⟨⟨a, .inl d⟩, e⟩) g)))))
          · refine K.neg d ?_
            by_cases d2 : y = dst
            · exact K.pos d2 (K.pos a.1 (K.pos a2 (K.pos b3 (K.pos b4 (K.neg (fun e => c ⟨⟨a, .inr d2⟩, e⟩) g)))))
            · exact K.neg d2 g
        · exact K.neg (by simp; omega) g
      · have g := i4 r g
        rw [← e2, ← e3] at g
        simp only [impl_NextTo.l1, hr, w1.out, hm.out, isIndex, Option.bind_some]
        refine K.pos b1 (K.pos b2 (K.pos b1 (K.pos b5 (K.pos hd ?_))))
        by_cases a : 0 ≤ y ∧ y < N
        · have a2 : y < (D.length : Int) := by omega
          refine K.pos (decide_eq_true a) ?_
          by_cases d : y < f
          · exact K.pos d (K.pos a.1 (K.pos a2 (K.neg (fun e => c ⟨⟨a, .inl d⟩, e⟩) g)))
          · refine K.neg d ?_
            by_cases d2 : y = dst
            · exact K.pos d2 (K.pos a.1 (K.pos a2 (K.neg (fun e => c ⟨⟨a, .inr d2⟩, e⟩) g)))
            · exact K.neg d2 g
        · exact K.neg (by simp; omega) g
theorem nxt (l : List S103) (hl : l.length ≤ 1048576) (N f dst : Int) (D : List Int) (hD : (D.length : Int) = N) (hN : N ≤ 12) : ∀ (d i : Nat) (o : List Int), i + d = D.length → o.length = i → ∃ v : List Int, v.length ≤ 12 ∧ Ev (fun z => spec_NextTo.l0 z l N f dst o D (i : Int)) v ∧ Ev (fun z => impl_NextTo.l0 z l N f dst o D D (D.length : Int) (i : Int)) v := by
  intro d
  induction d with
  | zero =>
    intro i o hi ho
    refine ⟨o, by omega, K.succ ?_, K.succ ?_⟩
    · simp only [spec_NextTo.l0]
      exact K.neg (by omega) (Ev.now _)
    · simp only [impl_NextTo.l0]
      exact K.neg (by omega) (Ev.now _)
  | succ d ih =>
    intro i o hi ho
    obtain ⟨t, ht, n1, n2⟩ := near (i : Int) l hl
    have key : ∃ n : Int, (∀ r, Ev (fun z => spec_NextTo.l0 z l N f dst (o ++ [n]) D ((i : Int) + 1)) r → Ev (fun z => spec_NextTo.l1 z l N f dst o D (i : Int) (-1) t 0) r) ∧ (∀ r, Ev (fun z => impl_NextTo.l0 z l N f dst (o ++ [n]) D D (D.length : Int) ((i : Int) + 1)) r → Ev (fun z => impl_NextTo.l1 z l N f dst o D (rd D (i : Int)) (-1) D (D.length : Int) (i : Int) t (t.length : Int) 0) r) := by
      by_cases c : rd D (i : Int) > 0
      · exact nx l N f dst D o i hD hN (by omega) (by omega) c t [] (by simp; omega)
      · exact ⟨-1, fun r g => sOut l N f dst (-1) 0 D o t i r (by omega) (by omega) (by omega) (fun e => c e.2) g, fun r g => iOut l N f dst (-1) (rd D (i : Int)) D o i r (by omega) (by omega) (fun e => c e.2) g t [] (by simp; omega)⟩
    obtain ⟨n, k1, k2⟩ := key
    obtain ⟨v, hv, g1, g2⟩ := ih (i + 1) (o ++ [n]) (by omega) (by simp; omega)
    rw [show ((i + 1 : Nat) : Int) = (i : Int) + 1 by omega] at g1 g2
    refine ⟨v, hv, K.succ ?_, K.succ ?_⟩
    · simp only [spec_NextTo.l0]
      exact K.pos (by omega) (Ev.bind n1 (k1 v g1))
    · simp only [impl_NextTo.l0]
      exact K.pos (by omega) (K.pos (by omega) (K.pos (by omega) (Ev.bind n2 (k2 v g2))))
theorem nexts (l : List S103) (hl : l.length ≤ 1048576) (N f dst : Int) : ∃ v : List Int, v.length ≤ 12 ∧ Ev (fun z => spec_NextTo.f z l N f dst) v ∧ Ev (fun z => impl_NextTo.f z l N f dst) v := by
  obtain ⟨D, hD, h1, h2⟩ := distsN l hl N f dst
  have key : ∃ v : List Int, v.length ≤ 12 ∧ Ev (fun z => spec_NextTo.l0 z l N f dst [] D 0) v ∧ Ev (fun z => impl_NextTo.l0 z l N f dst [] D D (D.length : Int) 0) v := by
    rcases hD with rfl | ⟨hD, hN⟩
    · refine ⟨[], by simp, K.succ ?_, K.succ ?_⟩
      · simp only [spec_NextTo.l0]
        exact K.neg (by simp) (Ev.now _)
      · simp only [impl_NextTo.l0]
        exact K.neg (by simp) (Ev.now _)
    · exact nxt l hl N f dst D hD hN D.length 0 [] (by omega) rfl
  obtain ⟨v, hv, g1, g2⟩ := key
  refine ⟨v, hv, ?_, ?_⟩
  · unfold spec_NextTo.f
    exact Ev.bind h1 g1
  · unfold impl_NextTo.f
    exact Ev.bind h2 g2
theorem tables (l : List S103) (hl : l.length ≤ 1048576) (N f dst : Int) : ∃ a b : List Int, a.length ≤ 12 ∧ b.length ≤ 12 ∧ Ev (fun z => spec_TableOf.f z l N f dst) (dst, a, b) ∧ Ev (fun z => impl_TableOf.f z l N f dst) (dst, a, b) := by
  obtain ⟨a, ha, a1, a2⟩ := dists l hl N f dst
  obtain ⟨b, hb, b1, b2⟩ := nexts l hl N f dst
  refine ⟨a, b, ha, hb, ?_, ?_⟩
  · unfold spec_TableOf.f
    exact Ev.bind a1 (Ev.bind b1 (Ev.now _))
  · unfold impl_TableOf.f
    exact Ev.bind a2 (Ev.bind b2 (Ev.now _))


end LFnExactTableOf
theorem FnExactTableOf (a : List S117) (n f dst : Int) (ha : a.length ≤ 9223372036854775807) : ∃ k, laws_FnExactTableOf.f k a n f dst = some true := by
  refine K.rounds (g := fun k => laws_FnExactTableOf.f k a n f dst) ?_
  unfold laws_FnExactTableOf.f
  refine K.known (LFnExactTableOf.szLinkS a 1048576 (by omega) (by omega) ha) ?_
  by_cases c : (a.length : Int) ≤ 1048576
  · rw [if_pos c]
    obtain ⟨u, v, hu, hv, h1, h2⟩ := LFnExactTableOf.tables (a.map LFnExactTableOf.cvLink) (by simp; omega) n f dst
    obtain ⟨m0, y0, hm0, _, g0⟩ := LFnExactTableOf.layLinkS (a.map LFnExactTableOf.cvLink) 1 (by simp; omega) (by omega) (by omega)
    obtain ⟨m1, y1, z1, hm1, g1, g2⟩ := LFnExactTableOf.markTab dst u v (by omega) (by omega)
    repeat (first | exact Ev.now _ | refine K.pos (by first | exact True.intro | with_reducible rfl | omega) ?_ | refine K.neg (by first | omega | exact Bool.false_ne_true | exact K.nbne _) ?_ | refine Ev.bind (LFnExactTableOf.toLinkS a (by omega)) ?_ | refine Ev.bind (h1) ?_ | refine Ev.bind (h2) ?_ | refine Ev.bind (LFnExactTableOf.eqLinkS (a.map LFnExactTableOf.cvLink) (by simp; omega)) ?_ | refine Ev.bind (LFnExactTableOf.eqTab dst u v (by omega) (by omega)) ?_ | refine Ev.bind (g0) ?_ | refine Ev.bind (g1) ?_ | refine Ev.bind (g2) ?_ | (refine K.succ ?_; simp only [laws_FnExactTableOf.j0]))
  · rw [if_neg c]
    exact K.pos (by omega) (Ev.now _)

end Go.Proofs.Ytlljhblilicnfaa.Pure
