/- How a value that is read at a Go type is of a printed kind, for the rows of laws over structs and slices of structs. It holds of every program, world and type; no condition. -/
import Derived.Test.YtopbkdcicidajaaWWords
import Derived.Deep.Slices
import Derived.ChangeArms
import Derived.ChangeSame
namespace Go.Proofs.Ytopbkdcicidajaa.Rd
open Go.ChangeShapes Go.WideShapes Go.Deep Go.Proofs.YtopbkdcicidajaaW.PrintWords

theorem pick {α : Type} (Q : Nat → α → Prop) : ∀ n, (∀ i, i < n → ∃ v, Q i v) → ∃ xs : List α, xs.length = n ∧ ∀ i v, xs[i]? = some v → Q i v
  | 0, _ => ⟨[], rfl, fun i v h => by simp at h⟩
  | n + 1, h => by
    obtain ⟨xs, hl, hx⟩ := pick Q n (fun i hi => h i (by omega))
    obtain ⟨v, hv⟩ := h n (by omega)
    refine ⟨xs ++ [v], by simp [hl], fun i u hu => ?_⟩
    by_cases hi : i < n
    · rw [List.getElem?_append_left (by omega)] at hu
      exact hx i u hu
    · have hlt : i < (xs ++ [v]).length := by
        rw [List.getElem?_eq_some_iff] at hu
        exact hu.1
      have : i = n := by
        simp [hl] at hlt
        omega
      subst this
      rw [List.getElem?_append_right (by omega)] at hu
      simp [hl] at hu
      subst hu
      exact hv

/-- Whatever is read at type t is of the kind d, and ok. -/
def Opens (P : Program) (t : TypeId) {α : Type} (d : Kd α) (ok : α → Prop) : Prop :=
  P.cellsOf t = d.sz ∧ ∀ (H : Type) (enc : TypeId × Value → H) (w : World) (base : Nat) (spare : Nat → Bool) (held : Bool) (fuel : Nat) (cs : List Value) (x : DataW H × List MemPlace),
    DataW.trod enc P w base spare held fuel t cs = some x → ∃ v, d.K w v cs ∧ ok v

theorem Opens.int {P : Program} {t : TypeId} {k : IntKind} (ht : P.underlying t = some (.int k)) (hc : P.cellsOf t = 1) : Opens P t (Kd.int k) (fun n => (Lit.int k n).wf = true) :=
  ⟨hc, fun H enc w base spare held fuel cs x h => by
    obtain ⟨n, rfl, _, hw⟩ := DataW.trod_int ht h
    exact ⟨n, rfl, hw⟩⟩

theorem Opens.slice {P : Program} {t e : TypeId} {α : Type} {d : Kd α} {ok : α → Prop} (ht : P.underlying t = some (.slice e)) (hc : P.cellsOf t = 1) (he : Opens P e d ok) :
    Opens P t (Kd.slice e d) (fun xs => ∀ x ∈ xs, ok x) :=
  ⟨hc, fun H enc w base spare held fuel cs x h => by
    rcases open_slice ht h with ⟨rfl, _⟩ | ⟨a, len, cap, m, n, D, Pl, rfl, hb, hl, hm, hmm, hx, hi⟩
    · exact ⟨[], ⟨none, 0, rfl, Nat.le_refl _, Kd.C_nil d w⟩, by simp⟩
    · have hlm : len ≤ m := by
        rw [hmm]
        split <;> omega
      have hev : ∀ i, i < len → ∃ v, (d.K w v = d.K w v ∧ ok v) ∧ ∃ c, c.length = d.sz ∧ d.K w v c ∧ ∀ j u, c[j]? = some u → w.cell? (a.add (i * d.sz + j)) = some u := by
        intro i hil
        obtain ⟨c, hcs, htr⟩ := hi i (by omega)
        obtain ⟨v, hK, hok⟩ := he.2 H enc w base spare held n c _ htr
        obtain ⟨_, hcl, hat⟩ := World.cells?_some hcs
        refine ⟨v, ⟨rfl, hok⟩, c, d.K_len hK, hK, fun j u hu => ?_⟩
        have hj : j < c.length := by
          rw [List.getElem?_eq_some_iff] at hu
          exact hu.1
        have hcell := hat j (by rw [d.K_len hK] at hj; rw [he.1]; exact hj)
        rw [he.1] at hcell
        rw [← Go.Deep.add_add, hcell, hu]
      obtain ⟨xs, hxl, hxs⟩ := pick _ len hev
      subst hxl
      refine ⟨xs, ⟨some a, cap, rfl, hl, rfl, Nat.le_trans hl (by simpa [maxLen] using hm), fun _ => ⟨a, rfl, fun j p hp => (hxs j p hp).2⟩⟩, fun v hv => ?_⟩
      obtain ⟨i, hi2⟩ := List.mem_iff_getElem?.1 hv
      exact (hxs i v hi2).1.2⟩

/-- The fields of a struct from offset o on. -/
def OpensF (P : Program) (fs : List Field) (o : Nat) {α : Type} (d : Kd α) (ok : α → Prop) : Prop :=
  ∀ (H : Type) (enc : TypeId × Value → H) (w : World) (base : Nat) (spare : Nat → Bool) (held : Bool) (fuel : Nat) (cs : List Value),
    (∀ f, f ∈ fs → ∃ x, DataW.trod enc P w base spare held fuel f.type ((cs.drop f.offset).take (P.cellsOf f.type)) = some x) → ∃ v, d.K w v ((cs.drop o).take d.sz) ∧ ok v

theorem OpensF.one {P : Program} {f : Field} {o : Nat} {α : Type} {d : Kd α} {ok : α → Prop} (ho : f.offset = o) (h : Opens P f.type d ok) : OpensF P [f] o d ok := by
  intro H enc w base spare held fuel cs hf
  obtain ⟨x, hx⟩ := hf f (by simp)
  rw [ho, h.1] at hx
  exact h.2 H enc w base spare held fuel _ x hx

theorem OpensF.cons {P : Program} {f : Field} {fs : List Field} {o : Nat} {α β : Type} {d : Kd α} {ok : α → Prop} {d2 : Kd β} {ok2 : β → Prop} (ho : f.offset = o) (h : Opens P f.type d ok) (h2 : OpensF P fs (o + d.sz) d2 ok2) :
    OpensF P (f :: fs) o (Kd.pair d d2) (fun x => ok x.1 ∧ ok2 x.2) := by
  intro H enc w base spare held fuel cs hf
  obtain ⟨x, hx⟩ := hf f (by simp)
  rw [ho, h.1] at hx
  obtain ⟨v, hv, hok⟩ := h.2 H enc w base spare held fuel _ x hx
  obtain ⟨v2, hv2, hok2⟩ := h2 H enc w base spare held fuel cs (fun g hg => hf g (by simp [hg]))
  refine ⟨(v, v2), ⟨(cs.drop o).take d.sz, (cs.drop (o + d.sz)).take d2.sz, ?_, hv, hv2⟩, hok, hok2⟩
  show (cs.drop o).take (d.sz + d2.sz) = _
  rw [List.take_add, List.drop_drop]

theorem Opens.struct {P : Program} {t : TypeId} {fs : Array Field} {α β : Type} {d : Kd α} {ok : α → Prop} (f : β → α) (g : α → β) (hg : ∀ v, f (g v) = v) (ht : P.underlying t = some (.struct fs)) (hc : P.cellsOf t = d.sz) (h : OpensF P fs.toList 0 d ok) :
    Opens P t (Kd.iso d f) (fun x => ok (f x)) :=
  ⟨hc, fun H enc w base spare held fuel cs x hx => by
    obtain ⟨xs, n, _, _, hlen, hxl, hfs⟩ := DataW.trod_struct ht hx
    obtain ⟨v, hv, hok⟩ := h H enc w base spare held n cs (fun f hf => by
      obtain ⟨i, hi⟩ := List.mem_iff_getElem?.1 hf
      have hi' : fs[i]? = some f := by simpa using hi
      have hil : i < xs.length := by
        rw [hxl]
        exact (Array.getElem?_eq_some_iff.1 hi').1
      exact ⟨xs[i], by rw [hfs i f hi', List.getElem?_eq_getElem hil]⟩)
    refine ⟨g v, ?_, ?_⟩
    · show d.K w (f (g v)) cs
      rw [hg]
      rw [List.drop_zero, List.take_of_length_le (by rw [hlen, hc]; exact Nat.le_refl _)] at hv
      exact hv
    · show ok (f (g v))
      rw [hg]
      exact hok⟩
end Go.Proofs.Ytopbkdcicidajaa.Rd
