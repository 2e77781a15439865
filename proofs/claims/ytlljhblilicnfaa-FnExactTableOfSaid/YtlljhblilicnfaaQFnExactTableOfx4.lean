-- Written by a program of this session for this claim (the kit's printer with changes).
import Derived.Shelf.SortM.Plain
import Derived.Shelf.SortM.SortNone
import Derived.Ground.SlgmProg
import Derived.Shelf.SlicesG.CompactI
import Derived.Ground.SlgnProg
import Derived.Test.YtlljhblilicnfaaQFnExactTableOfx0
namespace Go.Proofs.Ytlljhblilicnfaa.PFnExactTableOf
open Go.RowKit Go.Proofs.YtlljhblilicnfaaW.PrintWords Go.Proofs.YtlljhblilicnfaaW.PrintLast Go.Proofs.YtlljhblilicnfaaW.PrintMore
attribute [local go_sem] max2_int min2_int max_two min_two max_three min_three max_four min_four   -- for this text's walks alone
set_option linter.unusedVariables false
set_option linter.unusedSimpArgs false

/-! ### sc108: slices.Sort, then slices.Compact, by the kit's contracts -/
def sc108.f (l : List Int) : Option (List Int) := if l.length < 4611686018427387904 then some (Go.Lib.compact (l.mergeSort fun x y => decide (x ≤ y))) else none
open Go.Shelf in
def sortL107_ren : Go.Shelf.Ren := ⟨fun | 5 => 107 | 8 => 126 | 7 => 125 | 19 => 142 | 20 => 143 | 10 => 133 | 11 => 134 | 12 => 135 | 13 => 136 | 14 => 137 | 15 => 138 | 16 => 139 | 17 => 140 | 18 => 141 | 30 => 146 | 31 => 147 | 32 => 148 | 33 => 149 | 34 => 150 | 35 => 121 | 40 => 151 | n => n, fun | 23 => 24 | 25 => 3 | 3 => 3 | 32 => 131 | 22 => 24 | 0 => 0 | 44 => 147 | 46 => 149 | 4 => 4 | 36 => 140 | 35 => 139 | 41 => 144 | 5 => 5 | 9 => 9 | 53 => 151 | 57 => 155 | 63 => 157 | 64 => 158 | n => n, fun | n => n⟩
theorem sortL107 : Go.Proofs.SlLaysM.n5 Try.prog sortL107_ren := {
 mixed := by kernel_rfl
 f5 := ⟨Try.f107.name, by decide, Try.func107.trans (congrArg some (by kernel_rfl))⟩
 f7 := ⟨Try.f125.name, by decide, Try.func125.trans (congrArg some (by kernel_rfl))⟩
 f8 := Try.func126.trans (congrArg some (by kernel_rfl))
 f10 := ⟨Try.f133.name, by decide, Try.func133.trans (congrArg some (by kernel_rfl))⟩
 f11 := ⟨Try.f134.name, by decide, Try.func134.trans (congrArg some (by kernel_rfl))⟩
 f12 := ⟨Try.f135.name, by decide, Try.func135.trans (congrArg some (by kernel_rfl))⟩
 f13 := ⟨Try.f136.name, by decide, Try.func136.trans (congrArg some (by kernel_rfl))⟩
 f14 := ⟨Try.f137.name, by decide, Try.func137.trans (congrArg some (by kernel_rfl))⟩
 f15 := ⟨Try.f138.name, by decide, Try.func138.trans (congrArg some (by kernel_rfl))⟩
 f16 := ⟨Try.f139.name, by decide, Try.func139.trans (congrArg some (by kernel_rfl))⟩
 f17 := ⟨Try.f140.name, by decide, Try.func140.trans (congrArg some (by kernel_rfl))⟩
 f18 := ⟨Try.f141.name, by decide, Try.func141.trans (congrArg some (by kernel_rfl))⟩
 f19 := Try.func142.trans (congrArg some (by kernel_rfl))
 f20 := Try.func143.trans (congrArg some (by kernel_rfl))
 f30 := ⟨Try.f146.name, by decide, Try.func146.trans (congrArg some (by kernel_rfl))⟩
 f31 := Try.func147.trans (congrArg some (by kernel_rfl))
 f32 := Try.func148.trans (congrArg some (by kernel_rfl))
 f33 := ⟨Try.f149.name, by decide, Try.func149.trans (congrArg some (by kernel_rfl))⟩
 f34 := ⟨Try.f150.name, by decide, Try.func150.trans (congrArg some (by kernel_rfl))⟩
 f35 := ⟨Try.f121.name, by decide, Try.func121.trans (congrArg some (by kernel_rfl))⟩
 f40 := ⟨Try.f151.name, by decide, Try.func151.trans (congrArg some (by kernel_rfl))⟩
 t0 := Try.underlying0
 a0 := Try.isAgg0
 z0 := Try.sizeOf0
 v0 := Try.zeroValue0
 t3 := Try.underlying3
 a3 := Try.isAgg3
 z3 := Try.sizeOf3
 v3 := Try.zeroValue3
 t4 := Try.underlying4
 a4 := Try.isAgg4
 z4 := Try.sizeOf4
 v4 := Try.zeroValue4
 t5 := Try.underlying5
 a5 := Try.isAgg5
 z5 := Try.sizeOf5
 v5 := Try.zeroValue5
 t9 := Try.underlying9
 a9 := Try.isAgg9
 z9 := Try.sizeOf9
 v9 := Try.zeroValue9
 t22 := Try.underlying24
 a22 := Try.isAgg24
 z22 := Try.sizeOf24
 v22 := Try.zeroValue24
 t23 := Try.underlying24
 a23 := Try.isAgg24
 z23 := Try.sizeOf24
 v23 := Try.zeroValue24
 t25 := Try.underlying3
 a25 := Try.isAgg3
 z25 := Try.sizeOf3
 v25 := Try.zeroValue3
 t32 := Try.underlying131
 a32 := Try.isAgg131
 z32 := Try.sizeOf131
 v32 := Try.zeroValue131
 t35 := Try.underlying139
 a35 := Try.isAgg139
 z35 := Try.sizeOf139
 v35 := Try.zeroValue139
 t36 := Try.underlying140
 a36 := Try.isAgg140
 z36 := Try.sizeOf140
 v36 := Try.zeroValue140
 t41 := Try.underlying144
 a41 := Try.isAgg144
 z41 := Try.sizeOf144
 v41 := Try.zeroValue144
 t44 := Try.underlying147
 a44 := Try.isAgg147
 z44 := Try.sizeOf147
 v44 := Try.zeroValue147
 t46 := Try.underlying149
 a46 := Try.isAgg149
 z46 := Try.sizeOf149
 v46 := Try.zeroValue149
 t53 := Try.underlying151
 a53 := Try.isAgg151
 z53 := Try.sizeOf151
 v53 := Try.zeroValue151
 t57 := Try.underlying155
 a57 := Try.isAgg155
 z57 := Try.sizeOf155
 v57 := Try.zeroValue155
 t63 := Try.underlying157
 a63 := Try.isAgg157
 z63 := Try.sizeOf157
 v63 := Try.zeroValue157
 t64 := Try.underlying158
 a64 := Try.isAgg158
 z64 := Try.sizeOf158
 v64 := Try.zeroValue158 }
open Go.Shelf in
def compL108_ren : Go.Shelf.Ren := ⟨fun | 43 => 108 | n => n, fun | 22 => 24 | 23 => 3 | 3 => 3 | 4 => 4 | 0 => 0 | n => n, fun | n => n⟩
theorem compL108 : Go.Proofs.SlLaysN.n43 Try.prog compL108_ren := {
 mixed := by kernel_rfl
 f43 := ⟨Try.f108.name, by decide, Try.func108.trans (congrArg some (by kernel_rfl))⟩
 t0 := Try.underlying0
 a0 := Try.isAgg0
 z0 := Try.sizeOf0
 v0 := Try.zeroValue0
 t3 := Try.underlying3
 a3 := Try.isAgg3
 z3 := Try.sizeOf3
 v3 := Try.zeroValue3
 t4 := Try.underlying4
 a4 := Try.isAgg4
 z4 := Try.sizeOf4
 v4 := Try.zeroValue4
 t22 := Try.underlying24
 a22 := Try.isAgg24
 z22 := Try.sizeOf24
 v22 := Try.zeroValue24
 t23 := Try.underlying3
 a23 := Try.isAgg3
 z23 := Try.sizeOf3
 v23 := Try.zeroValue3
 i23 := by kernel_rfl }
theorem putOwn_ {w : World} {base g cap n : Nat} {e : TypeId} {xs : List Int} (h : w.ownsRow base e 1 (.slice (some ⟨g, 0, none⟩) n cap) n (encs (Value.int .i64) xs)) (ys : List Int) (hy : ys.length = n) (m : Nat) (hm : m ≤ n) (q : Nat) (os : Array Obj) :
  (Go.Sort.grow (Go.Sort.putRow (Value.int .i64) (Go.Sort.ahead w q) g 0 ys.toArray) os).ownsRow base e 1 (.slice (some ⟨g, 0, none⟩) m cap) m (encs (Value.int .i64) (ys.take m)) ∧ w.grownBy (Go.Sort.grow (Go.Sort.putRow (Value.int .i64) (Go.Sort.ahead w q) g 0 ys.toArray) os) (some g) := by
 obtain ⟨_, h2⟩ := h
 rcases h2 with ⟨h2, _⟩ | ⟨g', cap', cur, hv, hg, hh, hn, hc, hs, ht⟩
 ·cases h2
 injection hv with hv1 _ hv2
 injection hv1 with hv1
 injection hv1 with hv1
 subst hv1 hv2
 have hlt : g < w.heap.size := (Array.getElem?_eq_some_iff.1 hh).1
 have hw : (Go.Sort.grow (Go.Sort.putRow (Value.int .i64) (Go.Sort.ahead w q) g 0 ys.toArray) os).heap = w.heap.modify g (Go.Sort.onCells (Go.Sort.putCells (Value.int .i64) 0 ys.toArray)) ++ os := rfl
 have hg2 : (Go.Sort.grow (Go.Sort.putRow (Value.int .i64) (Go.Sort.ahead w q) g 0 ys.toArray) os).heap[g]? = some (.cells (Go.Sort.putCells (Value.int .i64) 0 ys.toArray cur) e (0, 0)) := by
  rw [hw, Array.getElem?_append_left (by simpa using hlt), Array.getElem?_modify, if_pos rfl, hh]
  rfl
 refine ⟨⟨by simp [encs]; omega, .inr ⟨g, cap, _, rfl, hg, hg2, by omega, hc, ?_, ?_⟩⟩, ⟨rfl, rfl, rfl, ?_, ?_⟩⟩
 ·simp only [Go.Sort.putCells, Array.size_mapIdx]
  exact hs
 ·apply List.ext_getElem?
  intro j
  rw [List.getElem?_take]
  by_cases hj : j < m * 1
  ·have hjn : j < n := by omega
   have hjc : j < cur.size := by omega
   rw [if_pos hj]
   simp only [Go.Sort.putCells, Array.getElem?_toList, Array.getElem?_mapIdx, Array.getElem?_eq_getElem hjc, Option.map_some, encs, List.getElem?_map]
   rw [List.getElem?_take, if_pos (show j < m by omega), List.getElem?_eq_getElem (show j < ys.length by omega), Option.map_some]
   split
   ·congr 2
    simp only [Nat.sub_zero]
    rw [getElem!_pos _ j (by simpa using (show j < ys.length by omega))]
    simp
   ·exact absurd (show j < 0 + ys.toArray.size by simp; omega) (by omega)
  ·rw [if_neg hj]
   simp only [encs, List.getElem?_map]
   rw [List.getElem?_eq_none (by simp; omega)]
   rfl
 ·rw [hw]
  simp
 ·intro k hk hne
  rw [hw, Array.getElem?_append_left (by simpa using hk), Array.getElem?_modify, if_neg (fun e_ => hne (by rw [e_]))]
theorem holds_ {w : World} {base g cap n : Nat} {e : TypeId} {xs : List Int} (h : w.ownsRow base e 1 (.slice (some ⟨g, 0, none⟩) n cap) n (encs (Value.int .i64) xs)) : Go.Sort.Holds (Value.int .i64) w g 0 xs.toArray ∧ xs.length = n ∧ g < w.heap.size ∧ n ≤ cap ∧ cap ≤ maxLen ∧ base ≤ g := by
 have hx : xs.length = n := by simpa [encs] using h.1
 obtain ⟨_, h2⟩ := h
 rcases h2 with ⟨h2, _⟩ | ⟨g', cap', cur, hv, hg, hh, hn, hc, hs, ht⟩
 ·cases h2
 injection hv with hv1 _ hv2
 injection hv1 with hv1
 injection hv1 with hv1
 subst hv1 hv2
 refine ⟨fun j hj => ?_, hx, (Array.getElem?_eq_some_iff.1 hh).1, hn, hc, hg⟩
 have hj' : j < xs.length := by simpa using hj
 have hc2 := congrArg (fun l => l[j]?) ht
 simp only [List.getElem?_take, encs, List.getElem?_map] at hc2
 rw [if_pos (by omega), List.getElem?_eq_getElem hj', Option.map_some] at hc2
 rw [Nat.zero_add]
 refine ⟨?_, blk_frozen hh j⟩
 rw [blk_cell hh j]
 rw [Array.getElem?_toList] at hc2
 rw [hc2, getElem!_pos _ j hj]
 simp
theorem sortR_ {w : World} {base : Nat} {e : TypeId} {ok : Nat → Prop} {v : Value} {xs : List Int} (h : (Kd.int .i64).R e w base ok v xs) (hl : xs.length < 4611686018427387904) :
  Calls Try.prog 107 #[v] w fun en w' => en = .returned (.tuple #[]) ∧ (Kd.int .i64).R e w' base ok v (xs.mergeSort fun x y => decide (x ≤ y)) ∧ w.grownBy w' v.ownBlock := by
 have ho := Kd.own_of_R h
 by_cases h0 : xs.length = 0
 ·obtain ⟨A, c, rfl⟩ := own_slice ho
  have hx : xs = [] := List.length_eq_zero_iff.1 h0
  subst hx
  refine (AnyM.slices_Sort_int_none sortL107 A c w).mono ?_
  rintro en w' ⟨rfl, rfl⟩
  exact ⟨rfl, by simpa using h, ⟨rfl, rfl, rfl, Nat.le_refl _, fun _ _ _ => rfl⟩⟩
 ·have ho' := ho
  rcases ho.2 with ⟨_, h2⟩ | ⟨g, cap, cur, rfl, _⟩
  ·exact absurd h2 h0
  obtain ⟨hH, _, hlt, hn, hc, hg⟩ := holds_ ho
  refine (AnyM.slices_Sort_int sortL107 g 0 cap xs w hH hlt hl).mono ?_
  rintro en w' ⟨rfl, n, os, rfl⟩
  obtain ⟨p1, p2⟩ := putOwn_ ho (xs.mergeSort fun x y => decide (x ≤ y)) (List.length_mergeSort _) xs.length (Nat.le_refl _) n os
  refine ⟨rfl, Kd.R_of_own ?_ h.1, p2⟩
  rw [List.take_of_length_le (by rw [List.length_mergeSort]; exact Nat.le_refl _)] at p1
  rw [List.length_mergeSort]
  exact p1
theorem compactR_ {w : World} {base n : Nat} {e : TypeId} {ok : Nat → Prop} {A : Option Addr} {c : Nat} {xs : List Int} (h : (Kd.int .i64).R e w base ok (.slice A n c) xs) :
  Calls Try.prog 108 #[.slice A n c] w fun en w' => ∃ v, en = .returned v ∧ (Kd.int .i64).R e w' base ok v (Go.Lib.compact xs) ∧ w.grownBy w' (Value.slice A n c).ownBlock := by
 have hle : (Go.Lib.compact xs).length ≤ xs.length := by unfold Go.Lib.compact Go.Lib.compactUpTo; rw [List.length_map]; exact Nat.le_trans (List.length_filter_le _ _) (by simp)
 have ho := Kd.own_of_R h
 have hn : n = xs.length := (Kd.R_reads' h).1
 subst hn
 by_cases h0 : xs.length = 0
 ·have hx : xs = [] := List.length_eq_zero_iff.1 h0
  subst hx
  refine (AnyG.slices_Compact_int_empty compL108 A c w).mono ?_
  rintro en w' ⟨rfl, rfl⟩
  exact ⟨_, rfl, by have e_ : Go.Lib.compact ([] : List Int) = [] := List.length_eq_zero_iff.1 (by simpa using hle); rw [e_]; exact h, ⟨rfl, rfl, rfl, Nat.le_refl _, fun _ _ _ => rfl⟩⟩
 ·rcases ho.2 with ⟨_, h2⟩ | ⟨g, cap, cur, hv, _⟩
  ·exact absurd h2 h0
  obtain ⟨rfl, rfl⟩ : A = some ⟨g, 0, none⟩ ∧ c = cap := by injection hv with h1 _ h3; exact ⟨h1, h3⟩
  obtain ⟨hH, _, hlt, hn, hc, hg⟩ := holds_ ho
  refine (AnyG.slices_Compact_int compL108 g 0 c xs w hH (by unfold maxLen at hc; omega) hn).mono ?_
  rintro en w' ⟨rfl, q, rfl⟩
  obtain ⟨p1, p2⟩ := putOwn_ ho (Go.Lib.compact xs ++ List.replicate (xs.length - (Go.Lib.compact xs).length) 0) (by simp; omega) (Go.Lib.compact xs).length hle q #[]
  have e_ : ∀ w : World, Go.Sort.grow w #[] = w := fun w => by simp [Go.Sort.grow]
  rw [e_] at p1 p2
  rw [List.take_left] at p1
  exact ⟨_, rfl, Kd.R_of_own p1 (fun k hk => h.1 k hk), p2⟩

theorem sc108.out {l r : List Int} (h : sc108.f l = some r) : l.length < 4611686018427387904 ∧ r = Go.Lib.compact (l.mergeSort fun x y => decide (x ≤ y)) := by
 unfold sc108.f at h
 split at h
 ·exact ⟨by assumption, (Option.some.inj h).symm⟩
 ·cases h
theorem sortX_ {W w : World} {e : TypeId} {ok : Nat → Prop} {v : Value} {xs : List Int} (h : (Kd.int .i64).R e w W.heap.size ok v xs) (hB : Below W.heap.size W w) (hl : xs.length < 4611686018427387904) :
  Calls Try.prog 107 #[v] w fun en w' => en = .returned (.tuple #[]) ∧ (Kd.int .i64).R e w' W.heap.size ok v (xs.mergeSort fun x y => decide (x ≤ y)) ∧ Below W.heap.size W w' := by
 refine (sortR_ h hl).mono ?_
 rintro en w' ⟨h1, h2, h3⟩
 exact ⟨h1, h2, pw_below_grown hB v.ownBlock (below_size hB) h3 (Kd.R_base h)⟩
theorem compactX_ {W w : World} {n : Nat} {e : TypeId} {ok : Nat → Prop} {A : Option Addr} {c : Nat} {xs r : List Int} (h : (Kd.int .i64).R e w W.heap.size ok (.slice A n c) (xs.mergeSort fun x y => decide (x ≤ y))) (hB : Below W.heap.size W w) (hs : sc108.f xs = some r) :
  Calls Try.prog 108 #[.slice A n c] w fun en w' => ∃ v, en = .returned v ∧ (Kd.int .i64).R e w' W.heap.size ok v r ∧ Below W.heap.size W w' := by
 refine (compactR_ h).mono ?_
 rintro en w' ⟨v, h1, h2, h3⟩
 refine ⟨v, h1, ?_, pw_below_grown hB _ (below_size hB) h3 (Kd.R_base h)⟩
 rw [(sc108.out hs).2]
 exact h2

/-! ### impl_NeighborsIn: function 57 -/
def impl_NeighborsIn.l0 : Nat → Int → List Int → List (S103) → Int → Int → Option (List Int)
 | 0, _, _, _, _, _ => none
 | k + 1, x1, x5, x9, x10, x11 => if x11 < x10 then (if 0 ≤ x11 then (if x11 < (x9.length : Int) then (if ((rd_T103 x9 x11).f0) = x1 then (if x5.length < 17592186044416 then ((some (x5 ++ [(rd_T103 x9 x11).f1] : List Int)).bind fun y267 => (if ((rd_T103 x9 x11).f1) = x1 then (if y267.length < 17592186044416 then (impl_NeighborsIn.l0 k x1 (y267 ++ [(rd_T103 x9 x11).f0]) x9 x10 (wrap64 (x11 + 1))) else (none)) else (impl_NeighborsIn.l0 k x1 y267 x9 x10 (wrap64 (x11 + 1))))) else (none)) else (if ((rd_T103 x9 x11).f1) = x1 then (if x5.length < 17592186044416 then (impl_NeighborsIn.l0 k x1 (x5 ++ [(rd_T103 x9 x11).f0]) x9 x10 (wrap64 (x11 + 1))) else (none)) else (impl_NeighborsIn.l0 k x1 x5 x9 x10 (wrap64 (x11 + 1))))) else (none)) else (none)) else ((sc108.f x5).bind fun t262 => (some t262))
def impl_NeighborsIn.f (k : Nat) (l0 : List (S103)) (a1 : Int) : Option (List Int) := impl_NeighborsIn.l0 k a1 (([] : List Int)) l0 (l0.length : Int) 0
theorem impl_NeighborsIn.mono_l : ∀ k, (∀ y0 y1 y2 y3 y4, LeO (impl_NeighborsIn.l0 k y0 y1 y2 y3 y4) (impl_NeighborsIn.l0 (k + 1) y0 y1 y2 y3 y4))
 | 0 => fun _ _ _ _ _ r h => by simp [impl_NeighborsIn.l0] at h
 | k + 1 => by
  have ih0 := impl_NeighborsIn.mono_l k
  ·intro y0 y1 y2 y3 y4
   unfold impl_NeighborsIn.l0
   repeat' first | (with_reducible first | exact ih0 _ _ _ _ _ | exact LeO.refl _ | exact LeO.none _ | refine LeO.ite ?_ ?_ | refine LeO.bind ?_ (fun _ => ?_)) | exact LeO.none _ | refine LeO.ite ?_ ?_ | refine LeO.bind ?_ (fun _ => ?_)
theorem impl_NeighborsIn.mono : ∀ a0 a1 k, LeO (impl_NeighborsIn.f k a0 a1) (impl_NeighborsIn.f (k + 1) a0 a1) := by
 intro a0 a1 k
 have ih0 := impl_NeighborsIn.mono_l k
 unfold impl_NeighborsIn.f
 repeat' first | (with_reducible first | exact ih0 _ _ _ _ _ | exact LeO.refl _ | exact LeO.none _ | refine LeO.ite ?_ ?_ | refine LeO.bind ?_ (fun _ => ?_)) | exact LeO.none _ | refine LeO.ite ?_ ?_ | refine LeO.bind ?_ (fun _ => ?_)
set_option maxHeartbeats 8000000 in
set_option maxRecDepth 100000 in
theorem impl_NeighborsIn.calls (k : Nat) (A0 : Option Addr) (c0 : Nat) (l0 : List (S103)) (a1 : Int) (r : List Int) (w : World) (hr0 : Kd.C k103 w A0 l0.length l0) (hc0 : l0.length ≤ c0) (h : impl_NeighborsIn.f k l0 a1 = some r) :
  Calls Try.prog 57 #[.slice A0 l0.length c0, .int .i64 a1] w fun e w' => ∃ v0_ : Value, e = .returned (v0_) ∧ Kd.R (Kd.int .i64) 3 w' w.heap.size (fun _ => True) v0_ r ∧ Below w.heap.size w w' := by
 have hu103 := Try.underlying103
 have HR0 := Aside0.mk hr0
 have HC0 := Aside0.mk hc0
 clear hr0 hc0
 have HB := Aside0.mk (Below.refl w.heap.size w)
 have H := h
 clear h
 unfold impl_NeighborsIn.f at H
 replace H : ∃ y_ : List Int, Aside0 (y_ = (([] : List Int))) ∧ (impl_NeighborsIn.l0 k a1 y_ l0 (l0.length : Int) 0) = some r := ⟨_, ⟨rfl⟩, yh_ H⟩
 obtain ⟨y259, Ny259, H⟩ := H
 have H' := Aside0.mk H
 clear H
 go_enter Try.func57, Try.ntmps57
 go_wp2_with (first | ((with_reducible refine gate_dst (N := 8) rfl ?_); refine Kd.R_lit (Kd.int .i64) _ 3 ?hg (N := 8) ?hd (xs := ([] : List Int)) (inner := []) (ok := fun _ => True) (okp := fun _ => True) ?hr ?hp (fun _ hk => hk) trivial (Below.refl _ _) (Nat.le_refl _) (by simp) ?_; (case hd => rfl); (case hg => rfl); (case hr => first | (go_simp; done) | (go_simp; rfl)); (case hp => exact (Reps.none _ _)); intro v260 w3 ho4 hb hg_ hnew_; clear hg_ hnew_; (first | rw [← Ny259.out] at ho4 | (simp only [Int.reduceToNat] at ho4; rw [← Ny259.out] at ho4)); refine sh2_ (Kd.R_lower ho4 (below_size (bl_ HB))) (below_step (bl_ HB) hb) ?_; clear HB hb ho4; intro HO261 HB))
 go_loopg [5, 11] k (fun kq v5 v11 w' => ∃ (x5_1 : List Int) (x11_1 : Int), v11 = .int .i64 x11_1 ∧ Aside0 (impl_NeighborsIn.l0 kq a1 x5_1 l0 (l0.length : Int) x11_1 = some r) ∧ Aside0 (kq ≤ k) ∧ Aside0 (Kd.R (Kd.int .i64) 3 w' w.heap.size (fun _ => True) v5 x5_1) ∧ Aside0 (Below w.heap.size w w'))
 case atStart => exact ⟨(y259), (0), (by first | rfl | (simp; done) | (simp [*]; done)), H', ⟨Nat.le_refl _⟩, ⟨ra_ HO261⟩, ⟨bl_ HB⟩⟩
 case round =>
  clear H'
  try clear p2
  obtain ⟨x5_1, x11_1, rfl, HA, HK1, HO_5, HB⟩ := hrel
  cases gk with
  | zero => exact absurd HA.out (by simp [impl_NeighborsIn.l0])
  | succ k1 =>
   have H := HA.out
   clear HA
   simp only [impl_NeighborsIn.l0] at H
   by_cases c5 : x11_1 < (l0.length : Int)
   ·rw [if_pos c5] at H
    have c5b0 := decide_eq_true c5
    clear c5
    replace H := ifn_ H
    obtain ⟨c6, H⟩ := H
    have c6b0 := decide_eq_true c6
    clear c6
    replace H := ifn_ H
    obtain ⟨c7, H⟩ := H
    have c7b0 := decide_eq_true c7
    clear c7
    by_cases c8 : ((rd_T103 l0 x11_1).f0) = a1
    ·rw [if_pos c8] at H
     obtain ⟨c8b0, c8b1⟩ := bt_ c8
     clear c8
     replace H := ifn_ H
     obtain ⟨c9, H⟩ := H
     have LMc9 := Aside0.mk c9
     clear c9
     replace H : ∃ y_ : List Int, Aside0 (y_ = (x5_1 ++ [(rd_T103 l0 x11_1).f1])) ∧ (if ((rd_T103 l0 x11_1).f1) = a1 then (if y_.length < 17592186044416 then (impl_NeighborsIn.l0 k1 a1 (y_ ++ [(rd_T103 l0 x11_1).f0]) l0 (l0.length : Int) (wrap64 (x11_1 + 1))) else (none)) else (impl_NeighborsIn.l0 k1 a1 y_ l0 (l0.length : Int) (wrap64 (x11_1 + 1)))) = some r := ⟨_, ⟨rfl⟩, yh_ H⟩
     obtain ⟨y267, Ny267, H⟩ := H
     by_cases c10 : ((rd_T103 l0 x11_1).f1) = a1
     ·rw [if_pos c10] at H
      obtain ⟨c10b0, c10b1⟩ := bt_ c10
      clear c10
      replace H := ifn_ H
      obtain ⟨c11, H⟩ := H
      have LMc11 := Aside0.mk c11
      clear c11
      replace H : ∃ y_ : List Int, Aside0 (y_ = (y267 ++ [(rd_T103 l0 x11_1).f0])) ∧ (impl_NeighborsIn.l0 k1 a1 y_ l0 (l0.length : Int) (wrap64 (x11_1 + 1))) = some r := ⟨_, ⟨rfl⟩, yh_ H⟩
      obtain ⟨y270, Ny270, H⟩ := H
      have H' := Aside0.mk H
      clear H
      have p265 : 0 ≤ (x11_1 : Int) := od_
      have q265 : x11_1 < (l0.length : Int) := od_
      obtain ⟨ad265, e265, hx265_0, hx265_1⟩ := at_T103 HR0.out x11_1 p265 q265
      cases e265
      replace hx265_0 := hbc_ HB hx265_0
      replace hx265_1 := hbc_ HB hx265_1
      replace p265 := eq_true p265
      replace q265 := eq_true q265
      go_wp2_with (first | ((with_reducible refine gd_ 7 ?_); refine bx_ 7 103 #[.int .i64 0, .int .i64 0] ?_; intro gb266 hg w12 hbox hb; refine sh5_ (Kd.R_below (ra_ HO_5) hb) (below_step (bl_ HB) hb) hbox (ge_ hg (bl_ HB)) (ge_ hg (bl_ HB)) ?_; clear HO_5 HB hb hbox hg; intro HO_5 HB BK266 GW266 GE266; have hcz13 := cf2_ BK266) | ((with_reducible refine gate_builtin (b := .append) (xs := #[.tmp 19, .tmp 22]) rfl ?_); at_builtin; refine Kd.R_append (Kd.int .i64) (w0 := w) w.heap.size rfl (.tmp 19) (.tmp 22) 24 3 (.int .i64 0) 8 rfl Try.underlying24 info3 rfl (by decide) (by omega) u5 x5_1 ((rd_T103 l0 x11_1).f1) [.int .i64 ((rd_T103 l0 x11_1).f1)] (fun _ => True) (fun _ => False) rfl (by first | (go_simp; done) | (go_simp; rfl)) ?aP (fun _ hk => hk.elim) ?aF ?aO ?aB ?aS ?aL ?_; (case aP => exact rfl); (case aB => exact (bl1_ HB GE266)); (case aF => exact (fun _ _ => trivial)); (case aO => exact (by (with_reducible repeat (first | apply Kd.R_alloc | apply Kd.R_drewN | apply Kd.R_drew)); exact Kd.R_mono (Kd.R_far (p := ⟨gb266, 1, none⟩) (Kd.R_far (p := ⟨gb266, 0, none⟩) (Kd.R_types HO_5.out BK266.out (by decide)) (fun _ hk => hk.2) (.int .i64 ((rd_T103 l0 x11_1).f0))) (fun _ hk => hk.2) (.int .i64 ((rd_T103 l0 x11_1).f1))) (fun _ hk => trivial))); (case aS => exact (below_size (bl1_ HB GE266))); (case aL => have := LMc9.out; omega); intro v268 w14 ho hb hg hat; rw [← Ny267.out] at ho; refine sh3_ (blk_grown (g := gb266) (o := .cells #[.int .i64 ((rd_T103 l0 x11_1).f0), .int .i64 ((rd_T103 l0 x11_1).f1)] 103 (0, 0)) (by (with_reducible repeat (first | refine blk_drewN ?_ _ | refine blk_drew ?_ | refine blk_alloc ?_ _)); refine blk_put (cs := #[.int .i64 ((rd_T103 l0 x11_1).f0), .int .i64 0]) ?_ 1 _ rfl; (with_reducible repeat (first | refine blk_drewN ?_ _ | refine blk_drew ?_ | refine blk_alloc ?_ _)); refine blk_put (cs := #[.int .i64 0, .int .i64 0]) ?_ 0 _ rfl; (with_reducible repeat (first | refine blk_drewN ?_ _ | refine blk_drew ?_ | refine blk_alloc ?_ _)); exact BK266.out) hg (Kd.R_ne HO_5.out BK266.out (by decide))) hb ho ?_; clear BK266 HB HO_5 ho hb hg hat; intro BK266 HB HO269; have hcz15 := cf2_ BK266) | ((with_reducible refine gate_builtin (b := .append) (xs := #[.tmp 28, .tmp 31]) rfl ?_); at_builtin; refine Kd.R_append (Kd.int .i64) (w0 := w) w.heap.size rfl (.tmp 28) (.tmp 31) 24 3 (.int .i64 0) 8 rfl Try.underlying24 info3 rfl (by decide) (by omega) v268 y267 ((rd_T103 l0 x11_1).f0) [.int .i64 ((rd_T103 l0 x11_1).f0)] (fun _ => True) (fun _ => False) rfl rfl ?aP (fun _ hk => hk.elim) ?aF ?aO ?aB ?aS ?aL ?_; (case aP => exact rfl); (case aB => exact (bl1_ HB GE266)); (case aF => exact (fun _ _ => trivial)); (case aO => exact (ra_ HO269)); (case aS => exact (below_size (bl1_ HB GE266))); (case aL => have := LMc11.out; omega); intro v271 w16 ho hb hg hat; rw [← Ny270.out] at ho; refine sh3_ (blk_grown (g := gb266) (o := .cells #[.int .i64 ((rd_T103 l0 x11_1).f0), .int .i64 ((rd_T103 l0 x11_1).f1)] 103 (0, 0)) (bk_ BK266) hg (Kd.R_ne HO269.out BK266.out (by decide))) hb ho ?_; clear BK266 HB HO269 ho hb hg hat; intro BK266 HB HO272))
      go_roundg k1
      case measure => have := HK1.out; omega
      case rel => exact ⟨(y270), (wrap64 (x11_1 + 1)), (by first | rfl | (simp; done) | (simp [*]; done)), H', ⟨by have := HK1.out; omega⟩, ⟨ra_ HO272⟩, ⟨bl1_ HB GE266⟩⟩
     ·rw [if_neg c10] at H
      obtain ⟨c10b0, c10b1⟩ := bn_ c10
      have H' := Aside0.mk H
      clear H
      have p265 : 0 ≤ (x11_1 : Int) := od_
      have q265 : x11_1 < (l0.length : Int) := od_
      obtain ⟨ad265, e265, hx265_0, hx265_1⟩ := at_T103 HR0.out x11_1 p265 q265
      cases e265
      replace hx265_0 := hbc_ HB hx265_0
      replace hx265_1 := hbc_ HB hx265_1
      replace p265 := eq_true p265
      replace q265 := eq_true q265
      go_wp2_with (first | ((with_reducible refine gd_ 7 ?_); refine bx_ 7 103 #[.int .i64 0, .int .i64 0] ?_; intro gb266 hg w17 hbox hb; refine sh5_ (Kd.R_below (ra_ HO_5) hb) (below_step (bl_ HB) hb) hbox (ge_ hg (bl_ HB)) (ge_ hg (bl_ HB)) ?_; clear HO_5 HB hb hbox hg; intro HO_5 HB BK266 GW266 GE266; have hcz18 := cf2_ BK266) | ((with_reducible refine gate_builtin (b := .append) (xs := #[.tmp 19, .tmp 22]) rfl ?_); at_builtin; refine Kd.R_append (Kd.int .i64) (w0 := w) w.heap.size rfl (.tmp 19) (.tmp 22) 24 3 (.int .i64 0) 8 rfl Try.underlying24 info3 rfl (by decide) (by omega) u5 x5_1 ((rd_T103 l0 x11_1).f1) [.int .i64 ((rd_T103 l0 x11_1).f1)] (fun _ => True) (fun _ => False) rfl (by first | (go_simp; done) | (go_simp; rfl)) ?aP (fun _ hk => hk.elim) ?aF ?aO ?aB ?aS ?aL ?_; (case aP => exact rfl); (case aB => exact (bl1_ HB GE266)); (case aF => exact (fun _ _ => trivial)); (case aO => exact (by (with_reducible repeat (first | apply Kd.R_alloc | apply Kd.R_drewN | apply Kd.R_drew)); exact Kd.R_mono (Kd.R_far (p := ⟨gb266, 1, none⟩) (Kd.R_far (p := ⟨gb266, 0, none⟩) (Kd.R_types HO_5.out BK266.out (by decide)) (fun _ hk => hk.2) (.int .i64 ((rd_T103 l0 x11_1).f0))) (fun _ hk => hk.2) (.int .i64 ((rd_T103 l0 x11_1).f1))) (fun _ hk => trivial))); (case aS => exact (below_size (bl1_ HB GE266))); (case aL => have := LMc9.out; omega); intro v268 w19 ho hb hg hat; rw [← Ny267.out] at ho; refine sh3_ (blk_grown (g := gb266) (o := .cells #[.int .i64 ((rd_T103 l0 x11_1).f0), .int .i64 ((rd_T103 l0 x11_1).f1)] 103 (0, 0)) (by (with_reducible repeat (first | refine blk_drewN ?_ _ | refine blk_drew ?_ | refine blk_alloc ?_ _)); refine blk_put (cs := #[.int .i64 ((rd_T103 l0 x11_1).f0), .int .i64 0]) ?_ 1 _ rfl; (with_reducible repeat (first | refine blk_drewN ?_ _ | refine blk_drew ?_ | refine blk_alloc ?_ _)); refine blk_put (cs := #[.int .i64 0, .int .i64 0]) ?_ 0 _ rfl; (with_reducible repeat (first | refine blk_drewN ?_ _ | refine blk_drew ?_ | refine blk_alloc ?_ _)); exact BK266.out) hg (Kd.R_ne HO_5.out BK266.out (by decide))) hb ho ?_; clear BK266 HB HO_5 ho hb hg hat; intro BK266 HB HO269; have hcz20 := cf2_ BK266))
      go_roundg k1
      case measure => have := HK1.out; omega
      case rel => exact ⟨(y267), (wrap64 (x11_1 + 1)), (by first | rfl | (simp; done) | (simp [*]; done)), H', ⟨by have := HK1.out; omega⟩, ⟨ra_ HO269⟩, ⟨bl1_ HB GE266⟩⟩
    ·rw [if_neg c8] at H
     obtain ⟨c8b0, c8b1⟩ := bn_ c8
     by_cases c21 : ((rd_T103 l0 x11_1).f1) = a1
     ·rw [if_pos c21] at H
      obtain ⟨c21b0, c21b1⟩ := bt_ c21
      clear c21
      replace H := ifn_ H
      obtain ⟨c22, H⟩ := H
      have LMc22 := Aside0.mk c22
      clear c22
      replace H : ∃ y_ : List Int, Aside0 (y_ = (x5_1 ++ [(rd_T103 l0 x11_1).f0])) ∧ (impl_NeighborsIn.l0 k1 a1 y_ l0 (l0.length : Int) (wrap64 (x11_1 + 1))) = some r := ⟨_, ⟨rfl⟩, yh_ H⟩
      obtain ⟨y273, Ny273, H⟩ := H
      have H' := Aside0.mk H
      clear H
      have p265 : 0 ≤ (x11_1 : Int) := od_
      have q265 : x11_1 < (l0.length : Int) := od_
      obtain ⟨ad265, e265, hx265_0, hx265_1⟩ := at_T103 HR0.out x11_1 p265 q265
      cases e265
      replace hx265_0 := hbc_ HB hx265_0
      replace hx265_1 := hbc_ HB hx265_1
      replace p265 := eq_true p265
      replace q265 := eq_true q265
      go_wp2_with (first | ((with_reducible refine gd_ 7 ?_); refine bx_ 7 103 #[.int .i64 0, .int .i64 0] ?_; intro gb266 hg w23 hbox hb; refine sh5_ (Kd.R_below (ra_ HO_5) hb) (below_step (bl_ HB) hb) hbox (ge_ hg (bl_ HB)) (ge_ hg (bl_ HB)) ?_; clear HO_5 HB hb hbox hg; intro HO_5 HB BK266 GW266 GE266; have hcz24 := cf2_ BK266) | ((with_reducible refine gate_builtin (b := .append) (xs := #[.tmp 28, .tmp 31]) rfl ?_); at_builtin; refine Kd.R_append (Kd.int .i64) (w0 := w) w.heap.size rfl (.tmp 28) (.tmp 31) 24 3 (.int .i64 0) 8 rfl Try.underlying24 info3 rfl (by decide) (by omega) u5 x5_1 ((rd_T103 l0 x11_1).f0) [.int .i64 ((rd_T103 l0 x11_1).f0)] (fun _ => True) (fun _ => False) rfl (by first | (go_simp; done) | (go_simp; rfl)) ?aP (fun _ hk => hk.elim) ?aF ?aO ?aB ?aS ?aL ?_; (case aP => exact rfl); (case aB => exact (bl1_ HB GE266)); (case aF => exact (fun _ _ => trivial)); (case aO => exact (by (with_reducible repeat (first | apply Kd.R_alloc | apply Kd.R_drewN | apply Kd.R_drew)); exact Kd.R_mono (Kd.R_far (p := ⟨gb266, 1, none⟩) (Kd.R_far (p := ⟨gb266, 0, none⟩) (Kd.R_types HO_5.out BK266.out (by decide)) (fun _ hk => hk.2) (.int .i64 ((rd_T103 l0 x11_1).f0))) (fun _ hk => hk.2) (.int .i64 ((rd_T103 l0 x11_1).f1))) (fun _ hk => trivial))); (case aS => exact (below_size (bl1_ HB GE266))); (case aL => have := LMc22.out; omega); intro v274 w25 ho hb hg hat; rw [← Ny273.out] at ho; refine sh3_ (blk_grown (g := gb266) (o := .cells #[.int .i64 ((rd_T103 l0 x11_1).f0), .int .i64 ((rd_T103 l0 x11_1).f1)] 103 (0, 0)) (by (with_reducible repeat (first | refine blk_drewN ?_ _ | refine blk_drew ?_ | refine blk_alloc ?_ _)); refine blk_put (cs := #[.int .i64 ((rd_T103 l0 x11_1).f0), .int .i64 0]) ?_ 1 _ rfl; (with_reducible repeat (first | refine blk_drewN ?_ _ | refine blk_drew ?_ | refine blk_alloc ?_ _)); refine blk_put (cs := #[.int .i64 0, .int .i64 0]) ?_ 0 _ rfl; (with_reducible repeat (first | refine blk_drewN ?_ _ | refine blk_drew ?_ | refine blk_alloc ?_ _)); exact BK266.out) hg (Kd.R_ne HO_5.out BK266.out (by decide))) hb ho ?_; clear BK266 HB HO_5 ho hb hg hat; intro BK266 HB HO275))
      go_roundg k1
      case measure => have := HK1.out; omega
      case rel => exact ⟨(y273), (wrap64 (x11_1 + 1)), (by first | rfl | (simp; done) | (simp [*]; done)), H', ⟨by have := HK1.out; omega⟩, ⟨ra_ HO275⟩, ⟨bl1_ HB GE266⟩⟩
     ·rw [if_neg c21] at H
      obtain ⟨c21b0, c21b1⟩ := bn_ c21
      have H' := Aside0.mk H
      clear H
      have p265 : 0 ≤ (x11_1 : Int) := od_
      have q265 : x11_1 < (l0.length : Int) := od_
      obtain ⟨ad265, e265, hx265_0, hx265_1⟩ := at_T103 HR0.out x11_1 p265 q265
      cases e265
      replace hx265_0 := hbc_ HB hx265_0
      replace hx265_1 := hbc_ HB hx265_1
      replace p265 := eq_true p265
      replace q265 := eq_true q265
      go_wp2_with (first | ((with_reducible refine gd_ 7 ?_); refine bx_ 7 103 #[.int .i64 0, .int .i64 0] ?_; intro gb266 hg w26 hbox hb; refine sh5_ (Kd.R_below (ra_ HO_5) hb) (below_step (bl_ HB) hb) hbox (ge_ hg (bl_ HB)) (ge_ hg (bl_ HB)) ?_; clear HO_5 HB hb hbox hg; intro HO_5 HB BK266 GW266 GE266; have hcz27 := cf2_ BK266))
      go_roundg k1
      case measure => have := HK1.out; omega
      case rel => exact ⟨(x5_1), (wrap64 (x11_1 + 1)), (by first | rfl | (simp; done) | (simp [*]; done)), H', ⟨by have := HK1.out; omega⟩, ⟨by (with_reducible repeat (first | apply Kd.R_alloc | apply Kd.R_drewN | apply Kd.R_drew)); exact Kd.R_mono (Kd.R_far (p := ⟨gb266, 1, none⟩) (Kd.R_far (p := ⟨gb266, 0, none⟩) (Kd.R_types HO_5.out BK266.out (by decide)) (fun _ hk => hk.2) (.int .i64 ((rd_T103 l0 x11_1).f0))) (fun _ hk => hk.2) (.int .i64 ((rd_T103 l0 x11_1).f1))) (fun _ hk => trivial)⟩, ⟨bl1_ HB GE266⟩⟩
   ·rw [if_neg c5] at H
    have c5b0 : decide (x11_1 < (l0.length : Int)) = false := decide_eq_false c5
    clear c5
    replace H := bs_ H
    obtain ⟨t262, A28, H⟩ := H
    obtain rfl := Option.some.inj H
    obtain ⟨Ao29, co29, eo29⟩ := Kd.R_slice HO_5.out
    subst eo29
    go_wp2_with (first | ((with_reducible refine gate_callee (f := 107) rfl ?_); refine goesL_ (some 35) rfl rfl Try.func107 (by kernel_rfl) rfl #[.slice Ao29 x5_1.length co29] rfl mp_ ?_; (with_reducible refine (sortX_ (e := 3) (W := w) (ok := fun _ => True) (v := .slice Ao29 x5_1.length co29) (xs := x5_1) ?side1 ?side2 (sc108.out A28.out).1).mono ?_); (case side1 => (with_reducible repeat (first | apply Kd.R_alloc | apply Kd.R_drewN | apply Kd.R_drew)); exact HO_5.out); (case side2 => repeat (first | (with_reducible first | exact HB.out | apply below_alloc | apply pw_below_drewN | apply below_drew1) | exact HB.out)); rintro e w930 ⟨rfl, ho0, hb⟩; refine ⟨_, rfl, ?_⟩; have n0_ := Aside0.mk ho0; have n1_ := Aside0.mk hb; clear HO_5; clear HB; have HO_5 := n0_; have HB := n1_; clear n0_ n1_ ho0 hb) | ((with_reducible refine gate_callee (f := 108) rfl ?_); refine goesL_ (some 37) rfl rfl Try.func108 (by kernel_rfl) rfl #[.slice Ao29 x5_1.length co29] rfl mp_ ?_; (with_reducible refine (compactX_ (e := 3) (W := w) (ok := fun _ => True) (xs := x5_1) ?side1 ?side2 A28.out).mono ?_); (case side1 => (with_reducible repeat (first | apply Kd.R_alloc | apply Kd.R_drewN | apply Kd.R_drew)); exact HO_5.out); (case side2 => repeat (first | (with_reducible first | exact HB.out | apply below_alloc | apply pw_below_drewN | apply below_drew1) | exact HB.out)); rintro e w30 ⟨v263, rfl, ho0, hb⟩; refine ⟨_, rfl, ?_⟩; have n0_ := Aside0.mk ho0; have n1_ := Aside0.mk hb; clear HO_5; clear HB; have HO264 := n0_; have HB := n1_; clear n0_ n1_ ho0 hb))
    go_ret
    exact ⟨_, er_, by (with_reducible repeat (first | apply Kd.R_alloc | apply Kd.R_drewN | apply Kd.R_drew)); exact Kd.R_mono HO264.out (fun _ hk => trivial), bl_ HB⟩

/-! ### impl_isIndex: function 73 -/
def impl_isIndex.f (a0 : Int) (a1 : Int) : Option (Bool) := if a0 ≥ 0 then (some (decide (a0 < a1))) else (some false)
set_option maxHeartbeats 8000000 in
set_option maxRecDepth 100000 in
theorem impl_isIndex.calls (a0 : Int) (a1 : Int) (r : Bool) (w : World) (h : impl_isIndex.f a0 a1 = some r) :
  Calls Try.prog 73 #[.int .i64 a0, .int .i64 a1] w fun e w' => e = .returned (.bool r) ∧ Drawn0 w w' := by
 have H := h
 clear h
 unfold impl_isIndex.f at H
 by_cases c3 : a0 ≥ 0
 ·rw [if_pos c3] at H
  have c3b0 : decide (0 ≤ a0) = true := decide_eq_true c3
  clear c3
  obtain rfl := Option.some.inj H
  go_enter Try.func73, Try.ntmps73
  go_wp2
  go_ret
  exact ⟨by first | rfl | (simp; done) | (simp [*]; done), by repeat (first | exact Drawn0.refl _ | apply Drawn0.step)⟩
 ·rw [if_neg c3] at H
  have c3b0 : decide (0 ≤ a0) = false := decide_eq_false c3
  clear c3
  obtain rfl := Option.some.inj H
  go_enter Try.func73, Try.ntmps73
  go_wp2
  go_ret
  exact ⟨by first | rfl | (simp; done) | (simp [*]; done), by repeat (first | exact Drawn0.refl _ | apply Drawn0.step)⟩

/-! ### impl_InRange: function 75 -/
def impl_InRange.f (a0 : Int) (a1 : Int) (a2 : Int) : Option (Bool) := if a1 ≤ a0 then (some (decide (a0 ≤ a2))) else (some false)
set_option maxHeartbeats 8000000 in
set_option maxRecDepth 100000 in
theorem impl_InRange.calls (a0 : Int) (a1 : Int) (a2 : Int) (r : Bool) (w : World) (h : impl_InRange.f a0 a1 a2 = some r) :
  Calls Try.prog 75 #[.int .i64 a0, .int .i64 a1, .int .i64 a2] w fun e w' => e = .returned (.bool r) ∧ Drawn0 w w' := by
 have H := h
 clear h
 unfold impl_InRange.f at H
 by_cases c4 : a1 ≤ a0
 ·rw [if_pos c4] at H
  have c4b0 := decide_eq_true c4
  clear c4
  obtain rfl := Option.some.inj H
  go_enter Try.func75, Try.ntmps75
  go_wp2
  go_ret
  exact ⟨by first | rfl | (simp; done) | (simp [*]; done), by repeat (first | exact Drawn0.refl _ | apply Drawn0.step)⟩
 ·rw [if_neg c4] at H
  have c4b0 := decide_eq_false c4
  clear c4
  obtain rfl := Option.some.inj H
  go_enter Try.func75, Try.ntmps75
  go_wp2
  go_ret
  exact ⟨by first | rfl | (simp; done) | (simp [*]; done), by repeat (first | exact Drawn0.refl _ | apply Drawn0.step)⟩

/-! ### impl_isNumber: function 111 -/
def impl_isNumber.f (a0 : Int) : Option (Bool) := (impl_InRange.f a0 1 12).bind fun t276 => (some t276)
set_option maxHeartbeats 8000000 in
set_option maxRecDepth 100000 in
theorem impl_isNumber.calls (a0 : Int) (r : Bool) (w : World) (h : impl_isNumber.f a0 = some r) :
  Calls Try.prog 111 #[.int .i64 a0] w fun e w' => e = .returned (.bool r) ∧ Drawn0 w w' := by
 have H := h
 clear h
 unfold impl_isNumber.f at H
 replace H := bs_ H
 obtain ⟨t276, A2, H⟩ := H
 obtain rfl := Option.some.inj H
 go_enter Try.func111, Try.ntmps111
 go_wp2_with (first | ((with_reducible refine gate_callee (f := 75) rfl ?_); refine gl_ 4 Try.func75 (impl_InRange.calls a0 1 12 t276 _ A2.out) ?_; rintro e w' ⟨rfl, ⟨nd, rfl⟩⟩; refine ⟨_, rfl, ?_⟩))
 go_ret
 exact ⟨by first | rfl | (simp; done) | (simp [*]; done), by repeat (first | exact Drawn0.refl _ | apply Drawn0.step)⟩

/-! ### impl_DistancesTo: function 59 -/
mutual
def impl_DistancesTo.j0 : Nat → List (S103) → Int → Int → Int → List Int → Bool → Option (List Int)
 | 0, _, _, _, _, _, _ => none
 | k + 1, x0, x1, x2, x3, x9, x23 => if x23 = true then (some x9) else (impl_DistancesTo.l0 k x0 x1 x2 x3 x9 x1 0)
def impl_DistancesTo.l0 : Nat → List (S103) → Int → Int → Int → List Int → Int → Int → Option (List Int)
 | 0, _, _, _, _, _, _, _ => none
 | k + 1, x0, x1, x2, x3, x9, x25, x26 => if x26 < x25 then (if x9.length < 17592186044416 then (impl_DistancesTo.l0 k x0 x1 x2 x3 (x9 ++ [(-1)]) x25 (wrap64 (x26 + 1))) else (none)) else (if 0 ≤ x3 then (if x3 < (x9.length : Int) then (impl_DistancesTo.l1 k x0 x1 x2 x3 (x9.set (x3 : Int).toNat 0) (([x3] : List Int))) else (none)) else (none))
def impl_DistancesTo.l1 : Nat → List (S103) → Int → Int → Int → List Int → List Int → Option (List Int)
 | 0, _, _, _, _, _, _ => none
 | k + 1, x0, x1, x2, x3, x9, x10 => if (x10.length : Int) > 0 then (if 0 < (x10.length : Int) then (if (rd x10 0) = x3 then (impl_DistancesTo.j3 k x0 x1 x2 x3 x9 x10 (rd x10 0) false) else (impl_DistancesTo.j3 k x0 x1 x2 x3 x9 x10 (rd x10 0) (decide ((rd x10 0) ≥ x2)))) else (none)) else (some x9)
def impl_DistancesTo.j3 : Nat → List (S103) → Int → Int → Int → List Int → List Int → Int → Bool → Option (List Int)
 | 0, _, _, _, _, _, _, _, _ => none
 | k + 1, x0, x1, x2, x3, x9, x10, x11, x52 => if x52 = true then (if 1 ≤ (x10.length : Int) then (impl_DistancesTo.l1 k x0 x1 x2 x3 x9 (x10.drop (1 : Int).toNat)) else (none)) else ((impl_NeighborsIn.f k x0 x11).bind fun t293 => (impl_DistancesTo.l2 k x0 x1 x2 x3 x9 x10 x11 t293 (t293.length : Int) 0))
def impl_DistancesTo.l2 : Nat → List (S103) → Int → Int → Int → List Int → List Int → Int → List Int → Int → Int → Option (List Int)
 | 0, _, _, _, _, _, _, _, _, _, _ => none
 | k + 1, x0, x1, x2, x3, x9, x10, x11, x55, x56, x57 => if x57 < x56 then (if 0 ≤ x57 then (if x57 < (x55.length : Int) then ((impl_isIndex.f (rd x55 x57) x1).bind fun t297 => (if t297 = true then (if 0 ≤ (rd x55 x57) then (if (rd x55 x57) < (x9.length : Int) then (if (rd x9 (rd x55 x57)) < 0 then (if 0 ≤ x11 then (if x11 < (x9.length : Int) then (if x10.length < 17592186044416 then (impl_DistancesTo.l2 k x0 x1 x2 x3 (x9.set ((rd x55 x57) : Int).toNat (wrap64 ((rd x9 x11) + 1))) (x10 ++ [rd x55 x57]) x11 x55 x56 (wrap64 (x57 + 1))) else (none)) else (none)) else (none)) else (impl_DistancesTo.l2 k x0 x1 x2 x3 x9 x10 x11 x55 x56 (wrap64 (x57 + 1)))) else (none)) else (none)) else (impl_DistancesTo.l2 k x0 x1 x2 x3 x9 x10 x11 x55 x56 (wrap64 (x57 + 1))))) else (none)) else (none)) else (if 1 ≤ (x10.length : Int) then (impl_DistancesTo.l1 k x0 x1 x2 x3 x9 (x10.drop (1 : Int).toNat)) else (none))
end
def impl_DistancesTo.f (k : Nat) (l0 : List (S103)) (a1 : Int) (a2 : Int) (a3 : Int) : Option (List Int) := (some (([] : List Int) : List Int)).bind fun y277 => ((impl_isNumber.f a1).bind fun t280 => (if t280 = true then ((impl_isIndex.f a3 a1).bind fun t281 => (impl_DistancesTo.j0 k l0 a1 a2 a3 y277 (!t281))) else (impl_DistancesTo.j0 k l0 a1 a2 a3 y277 true)))
theorem impl_DistancesTo.mono_l : ∀ k, (∀ y0 y1 y2 y3 y4 y5, LeO (impl_DistancesTo.j0 k y0 y1 y2 y3 y4 y5) (impl_DistancesTo.j0 (k + 1) y0 y1 y2 y3 y4 y5)) ∧ (∀ y0 y1 y2 y3 y4 y5 y6, LeO (impl_DistancesTo.l0 k y0 y1 y2 y3 y4 y5 y6) (impl_DistancesTo.l0 (k + 1) y0 y1 y2 y3 y4 y5 y6)) ∧ (∀ y0 y1 y2 y3 y4 y5, LeO (impl_DistancesTo.l1 k y0 y1 y2 y3 y4 y5) (impl_DistancesTo.l1 (k + 1) y0 y1 y2 y3 y4 y5)) ∧ (∀ y0 y1 y2 y3 y4 y5 y6 y7, LeO (impl_DistancesTo.j3 k y0 y1 y2 y3 y4 y5 y6 y7) (impl_DistancesTo.j3 (k + 1) y0 y1 y2 y3 y4 y5 y6 y7)) ∧ (∀ y0 y1 y2 y3 y4 y5 y6 y7 y8 y9, LeO (impl_DistancesTo.l2 k y0 y1 y2 y3 y4 y5 y6 y7 y8 y9) (impl_DistancesTo.l2 (k + 1) y0 y1 y2 y3 y4 y5 y6 y7 y8 y9))
 | 0 => ⟨fun _ _ _ _ _ _ r h => by simp [impl_DistancesTo.j0] at h, fun _ _ _ _ _ _ _ r h => by simp [impl_DistancesTo.l0] at h, fun _ _ _ _ _ _ r h => by simp [impl_DistancesTo.l1] at h, fun _ _ _ _ _ _ _ _ r h => by simp [impl_DistancesTo.j3] at h, fun _ _ _ _ _ _ _ _ _ _ r h => by simp [impl_DistancesTo.l2] at h⟩
 | k + 1 => by
  obtain ⟨ih0, ih1, ih2, ih3, ih4⟩ := impl_DistancesTo.mono_l k
  refine ⟨?_, ?_, ?_, ?_, ?_⟩
  ·intro y0 y1 y2 y3 y4 y5
   unfold impl_DistancesTo.j0
   repeat' first | (with_reducible first | exact ih0 _ _ _ _ _ _ | exact ih1 _ _ _ _ _ _ _ | exact ih2 _ _ _ _ _ _ | exact ih3 _ _ _ _ _ _ _ _ | exact ih4 _ _ _ _ _ _ _ _ _ _ | exact impl_NeighborsIn.mono _ _ _ | exact LeO.refl _ | exact LeO.none _ | refine LeO.ite ?_ ?_ | refine LeO.bind ?_ (fun _ => ?_)) | exact LeO.none _ | refine LeO.ite ?_ ?_ | refine LeO.bind ?_ (fun _ => ?_)
  ·intro y0 y1 y2 y3 y4 y5 y6
   unfold impl_DistancesTo.l0
   repeat' first | (with_reducible first | exact ih0 _ _ _ _ _ _ | exact ih1 _ _ _ _ _ _ _ | exact ih2 _ _ _ _ _ _ | exact ih3 _ _ _ _ _ _ _ _ | exact ih4 _ _ _ _ _ _ _ _ _ _ | exact impl_NeighborsIn.mono _ _ _ | exact LeO.refl _ | exact LeO.none _ | refine LeO.ite ?_ ?_ | refine LeO.bind ?_ (fun _ => ?_)) | exact LeO.none _ | refine LeO.ite ?_ ?_ | refine LeO.bind ?_ (fun _ => ?_)
  ·intro y0 y1 y2 y3 y4 y5
   unfold impl_DistancesTo.l1
   repeat' first | (with_reducible first | exact ih0 _ _ _ _ _ _ | exact ih1 _ _ _ _ _ _ _ | exact ih2 _ _ _ _ _ _ | exact ih3 _ _ _ _ _ _ _ _ | exact ih4 _ _ _ _ _ _ _ _ _ _ | exact impl_NeighborsIn.mono _ _ _ | exact LeO.refl _ | exact LeO.none _ | refine LeO.ite ?_ ?_ | refine LeO.bind ?_ (fun _ => ?_)) | exact LeO.none _ | refine LeO.ite ?_ ?_ | refine LeO.bind ?_ (fun _ => ?_)
  ·intro y0 y1 y2 y3 y4 y5 y6 y7
   unfold impl_DistancesTo.j3
   repeat' first | (with_reducible first | exact ih0 _ _ _ _ _ _ | exact ih1 _ _ _ _ _ _ _ | exact ih2 _ _ _ _ _ _ | exact ih3 _ _ _ _ _ _ _ _ | exact ih4 _ _ _ _ _ _ _ _ _ _ | exact impl_NeighborsIn.mono _ _ _ | exact LeO.refl _ | exact LeO.none _ | refine LeO.ite ?_ ?_ | refine LeO.bind ?_ (fun _ => ?_)) | exact LeO.none _ | refine LeO.ite ?_ ?_ | refine LeO.bind ?_ (fun _ => ?_)
  ·intro y0 y1 y2 y3 y4 y5 y6 y7 y8 y9
   unfold impl_DistancesTo.l2
   repeat' first | (with_reducible first | exact ih0 _ _ _ _ _ _ | exact ih1 _ _ _ _ _ _ _ | exact ih2 _ _ _ _ _ _ | exact ih3 _ _ _ _ _ _ _ _ | exact ih4 _ _ _ _ _ _ _ _ _ _ | exact impl_NeighborsIn.mono _ _ _ | exact LeO.refl _ | exact LeO.none _ | refine LeO.ite ?_ ?_ | refine LeO.bind ?_ (fun _ => ?_)) | exact LeO.none _ | refine LeO.ite ?_ ?_ | refine LeO.bind ?_ (fun _ => ?_)
theorem impl_DistancesTo.mono : ∀ a0 a1 a2 a3 k, LeO (impl_DistancesTo.f k a0 a1 a2 a3) (impl_DistancesTo.f (k + 1) a0 a1 a2 a3) := by
 intro a0 a1 a2 a3 k
 obtain ⟨ih0, ih1, ih2, ih3, ih4⟩ := impl_DistancesTo.mono_l k
 unfold impl_DistancesTo.f
 repeat' first | (with_reducible first | exact ih0 _ _ _ _ _ _ | exact ih1 _ _ _ _ _ _ _ | exact ih2 _ _ _ _ _ _ | exact ih3 _ _ _ _ _ _ _ _ | exact ih4 _ _ _ _ _ _ _ _ _ _ | exact impl_NeighborsIn.mono _ _ _ | exact LeO.refl _ | exact LeO.none _ | refine LeO.ite ?_ ?_ | refine LeO.bind ?_ (fun _ => ?_)) | exact LeO.none _ | refine LeO.ite ?_ ?_ | refine LeO.bind ?_ (fun _ => ?_)
set_option maxHeartbeats 8000000 in
set_option maxRecDepth 100000 in
theorem impl_DistancesTo.calls (k : Nat) (A0 : Option Addr) (c0 : Nat) (l0 : List (S103)) (a1 : Int) (a2 : Int) (a3 : Int) (r : List Int) (w : World) (hr0 : Kd.C k103 w A0 l0.length l0) (hc0 : l0.length ≤ c0) (h : impl_DistancesTo.f k l0 a1 a2 a3 = some r) :
  Calls Try.prog 59 #[.slice A0 l0.length c0, .int .i64 a1, .int .i64 a2, .int .i64 a3] w fun e w' => ∃ v0_ : Value, e = .returned (v0_) ∧ Kd.R (Kd.int .i64) 3 w' w.heap.size (fun _ => True) v0_ r ∧ Below w.heap.size w w' := by
 have HR0 := Aside0.mk hr0
 have HC0 := Aside0.mk hc0
 clear hr0 hc0
 have HB := Aside0.mk (Below.refl w.heap.size w)
 have H := h
 clear h
 unfold impl_DistancesTo.f at H
 replace H : ∃ y_ : List Int, Aside0 (y_ = (([] : List Int))) ∧ ((impl_isNumber.f a1).bind fun t280 => (if t280 = true then ((impl_isIndex.f a3 a1).bind fun t281 => (impl_DistancesTo.j0 k l0 a1 a2 a3 y_ (!t281))) else (impl_DistancesTo.j0 k l0 a1 a2 a3 y_ true))) = some r := ⟨_, ⟨rfl⟩, yh_ H⟩
 obtain ⟨y277, Ny277, H⟩ := H
 have HC5 := Aside0.mk H
 clear H
 go_enter Try.func59, Try.ntmps59
 go_upto_region 2 with (first | ((with_reducible refine gate_dst (N := 14) rfl ?_); refine Kd.R_lit (Kd.int .i64) _ 3 ?hg (N := 14) ?hd (xs := ([] : List Int)) (inner := []) (ok := fun _ => True) (okp := fun _ => True) ?hr ?hp (fun _ hk => hk) trivial (Below.refl _ _) (Nat.le_refl _) (by simp) ?_; (case hd => rfl); (case hg => rfl); (case hr => first | (go_simp; done) | (go_simp; rfl)); (case hp => exact (Reps.none _ _)); intro v278 w6 ho7 hb hg_ hnew_; clear hg_ hnew_; (first | rw [← Ny277.out] at ho7 | (simp only [Int.reduceToNat] at ho7; rw [← Ny277.out] at ho7)); refine sh2_ (Kd.R_lower ho7 (below_size (bl_ HB))) (below_step (bl_ HB) hb) ?_; clear HB hb ho7; intro HO279 HB))
 (try simp only [Act.put, List.setIfInBounds_toArray, List.set_cons_zero, List.set_cons_succ])
 go_cut [23] (fun v23 wc => ∃ (kq : Nat) (x23_4 : Bool), v23 = .bool x23_4 ∧ Aside0 (impl_DistancesTo.j0 kq l0 a1 a2 a3 y277 x23_4 = some r) ∧ Aside0 (kq ≤ k) ∧ Aside0 (Kd.R (Kd.int .i64) 3 wc w.heap.size (fun _ => True) v278 y277) ∧ Aside0 (Below w.heap.size w wc))
 case first =>
  have H := HC5.out
  clear HC5
  replace H := bs_ H
  obtain ⟨t280, A8, H⟩ := H
  by_cases c9 : t280 = true
  ·subst c9
   rw [if_pos rfl] at H
   replace H := bs_ H
   obtain ⟨t281, A10, H⟩ := H
   have H' := Aside0.mk H
   clear H
   go_wp2_with (first | ((with_reducible refine gate_callee (f := 111) rfl ?_); refine gl_ 16 Try.func111 (impl_isNumber.calls a1 true _ A8.out) ?_; rintro e w' ⟨rfl, ⟨nd, rfl⟩⟩; refine ⟨_, rfl, ?_⟩) | (go_at_call 73; (with_reducible refine (impl_isIndex.calls a3 a1 t281 _ A10.out).mono ?_); rintro e w' ⟨rfl, ⟨nd, rfl⟩⟩))
   go_meet
   case rel => exact ⟨_, (!t281), (by first | rfl | (simp; done) | (simp [*]; done)), H', ⟨by first | omega | exact Nat.le_refl _⟩, ⟨ra_ HO279⟩, ⟨bl_ HB⟩⟩
  ·replace c9 := Bool.eq_false_iff.mpr c9
   subst c9
   have H1 : (impl_DistancesTo.j0 k l0 a1 a2 a3 y277 true) = some r := by rw [if_neg (show ¬ (false = true) by decide)] at H; exact H
   clear H
   have H := H1
   clear H1
   have H' := Aside0.mk H
   clear H
   go_wp2_with (first | ((with_reducible refine gate_callee (f := 111) rfl ?_); refine gl_ 16 Try.func111 (impl_isNumber.calls a1 false _ A8.out) ?_; rintro e w' ⟨rfl, ⟨nd, rfl⟩⟩; refine ⟨_, rfl, ?_⟩))
   go_meet
   case rel => exact ⟨_, (true), (by first | rfl | (simp; done) | (simp [*]; done)), H', ⟨by first | omega | exact Nat.le_refl _⟩, ⟨ra_ HO279⟩, ⟨bl_ HB⟩⟩
 case rest =>
  clear HC5
  try clear c1
  try clear p2
  try clear c5
  try clear c9
  obtain ⟨kq, x23_4, rfl, HA, HJ4, HO_9, HB⟩ := hcut
  cases kq with
  | zero => exact absurd HA.out (by simp [impl_DistancesTo.j0])
  | succ kj4 =>
   have H := HA.out
   clear HA
   simp only [impl_DistancesTo.j0] at H
   by_cases c11 : x23_4 = true
   ·subst c11
    rw [if_pos rfl] at H
    obtain rfl := Option.some.inj H
    go_wp2
    go_ret
    exact ⟨_, er_, ra_ HO_9, bl_ HB⟩
   ·replace c11 := Bool.eq_false_iff.mpr c11
    subst c11
    have H1 : (impl_DistancesTo.l0 kj4 l0 a1 a2 a3 y277 a1 0) = some r := by rw [if_neg (show ¬ (false = true) by decide)] at H; exact H
    clear H
    have H := H1
    clear H1
    have H' := Aside0.mk H
    clear H
    go_wp2
    go_loopg [9, 26] kj4 (fun kq v9 v26 w' => ∃ (x9_2 : List Int) (x26_2 : Int), v26 = .int .i64 x26_2 ∧ Aside0 (impl_DistancesTo.l0 kq l0 a1 a2 a3 x9_2 a1 x26_2 = some r) ∧ Aside0 (kq ≤ kj4) ∧ Aside0 (Kd.R (Kd.int .i64) 3 w' w.heap.size (fun _ => True) v9 x9_2) ∧ Aside0 (Below w.heap.size w w'))
    case atStart => exact ⟨(y277), (0), (by first | rfl | (simp; done) | (simp [*]; done)), H', ⟨Nat.le_refl _⟩, ⟨ra_ HO_9⟩, ⟨bl_ HB⟩⟩
    case round =>
     clear H'
     try clear c1
     try clear p2
     try clear c5
     try clear c9
     try clear c11
     try clear p2
     obtain ⟨x9_2, x26_2, rfl, HA, HK2, HO_9, HB⟩ := hrel
     cases gk with
     | zero => exact absurd HA.out (by simp [impl_DistancesTo.l0])
     | succ k2 =>
      have H := HA.out
      clear HA
      simp only [impl_DistancesTo.l0] at H
      by_cases c12 : x26_2 < a1
      ·rw [if_pos c12] at H
       have c12b0 := decide_eq_true c12
       clear c12
       replace H := ifn_ H
       obtain ⟨c13, H⟩ := H
       have LMc13 := Aside0.mk c13
       clear c13
       replace H : ∃ y_ : List Int, Aside0 (y_ = (x9_2 ++ [(-1)])) ∧ (impl_DistancesTo.l0 k2 l0 a1 a2 a3 y_ a1 (wrap64 (x26_2 + 1))) = some r := ⟨_, ⟨rfl⟩, yh_ H⟩
       obtain ⟨y282, Ny282, H⟩ := H
       have H' := Aside0.mk H
       clear H
       go_wp2_with (first | ((with_reducible refine gate_builtin (b := .append) (xs := #[.tmp 28, .tmp 29]) rfl ?_); at_builtin; refine Kd.R_append (Kd.int .i64) (w0 := w) w.heap.size rfl (.tmp 28) (.tmp 29) 24 3 (.int .i64 0) 8 rfl Try.underlying24 info3 rfl (by decide) (by omega) u9 x9_2 (-1) [.int .i64 (-1)] (fun _ => True) (fun _ => False) rfl rfl ?aP (fun _ hk => hk.elim) ?aF ?aO ?aB ?aS ?aL ?_; (case aP => exact rfl); (case aB => exact (bl_ HB)); (case aF => exact (fun _ _ => trivial)); (case aO => exact (ra_ HO_9)); (case aS => exact (below_size (bl_ HB))); (case aL => have := LMc13.out; omega); intro v283 w14 ho hb hg hat; rw [← Ny282.out] at ho; refine sh2_ hb ho ?_; clear HB HO_9 ho hb hg hat; intro HB HO284))
       go_roundg k2
       case measure => have := HJ4.out; have := HK2.out; omega
       case rel => exact ⟨(y282), (wrap64 (x26_2 + 1)), (by first | rfl | (simp; done) | (simp [*]; done)), H', ⟨by have := HJ4.out; have := HK2.out; omega⟩, ⟨ra_ HO284⟩, ⟨bl_ HB⟩⟩
      ·rw [if_neg c12] at H
       have c12b0 := decide_eq_false c12
       clear c12
       replace H := ifn_ H
       obtain ⟨c15, H⟩ := H
       have c15b0 := decide_eq_true c15
       clear c15
       replace H := ifn_ H
       obtain ⟨c16, H⟩ := H
       have c16b0 := decide_eq_true c16
       clear c16
       replace H : ∃ y_ : List Int, Aside0 (y_ = (x9_2.set (a3 : Int).toNat 0)) ∧ (impl_DistancesTo.l1 k2 l0 a1 a2 a3 y_ (([a3] : List Int))) = some r := ⟨_, ⟨rfl⟩, yh_ H⟩
       obtain ⟨y285, Ny285, H⟩ := H
       replace H : ∃ y_ : List Int, Aside0 (y_ = (([a3] : List Int))) ∧ (impl_DistancesTo.l1 k2 l0 a1 a2 a3 y285 y_) = some r := ⟨_, ⟨rfl⟩, yh_ H⟩
       obtain ⟨y286, Ny286, H⟩ := H
       have H' := Aside0.mk H
       clear H
       have p17 : 0 ≤ (a3 : Int) := od_
       have q17 : (a3 : Int) < ((x9_2.length : Int) : Int) := od_
       obtain ⟨go17, co17, eo17, gb17, gl17, cl17, HG17⟩ := Kd.R_form HO_9.out (by omega)
       (first | cases eo17 | (injection eo17 with ea_ en_ ec_; (first | subst ea_ | (injection ea_ with ea_; subst ea_)); subst ec_; clear en_))
       have GB17 := Aside0.mk gb17
       have GG17 := Aside0.mk HG17
       clear gb17 gl17 HG17
       obtain ⟨hx17_0, hf17_0⟩ := Kd.R_celln 0 HO_9.out (a3 : Int) p17 q17
       replace p17 := eq_true p17
       replace q17 := eq_true q17
       have HP18 := Kd.R_putg HO_9.out (a3 : Int) 0
       go_wp2_with (first | ((with_reducible refine gate_store (t := 3) (p := 34) rfl ?_); refine store_event (t := 3) (p := 34) (v := ?vo_w19) (w1 := (wr.setCell ⟨go17, (a3 : Int).toNat, none⟩ (.int .i64 0))) ?hg ?ho ?hn ?hr ?_; (case ho => rfl); (case hg => rfl); (case hn => rfl); (case hr => first | (go_simp; done) | (go_simp; rfl)); intro w19 hw; have hg : wr.grownBy w19 (some go17) := (by rw [hw]; exact HP18.2); have hp_ : Kd.R (Kd.int .i64) 3 w19 w.heap.size (fun _ => True) (.slice (some ⟨go17, 0, none⟩) x9_2.length co17) y285 := (by rw [hw, Ny285.out]; exact HP18.1); clear HP18; refine sh2_ hp_ ((by rw [hw]; exact below_set (HB.out) GB17.out : Below w.heap.size w w19)) ?_; clear HO_9 HB; intro HO_9 HB; clear hg hw hp_) | ((with_reducible refine gate_dst (N := 36) rfl ?_); refine Kd.R_lit (Kd.int .i64) _ 3 ?hg (N := 36) ?hd (xs := ([a3] : List Int)) (inner := [.int .i64 a3]) (ok := fun _ => True) (okp := fun _ => True) ?hr ?hp (fun _ hk => hk) trivial (Below.refl _ _) (Nat.le_refl _) (by simp) ?_; (case hd => rfl); (case hg => rfl); (case hr => first | (go_simp; done) | (go_simp; rfl)); (case hp => exact (Reps.one (show Kd.M (Kd.int .i64) _ _ _ a3 [.int .i64 a3] from rfl) (Reps.none _ _))); intro v287 w20 ho21 hb hg_ hnew_; clear hg_ hnew_; (first | rw [← Ny286.out] at ho21 | (simp only [Int.reduceToNat] at ho21; rw [← Ny286.out] at ho21)); refine sh3_ (Kd.R_elder' (ra_ HO_9) (Kd.R_base ho21) hb) (Kd.R_lower (Kd.R_new' ho21 (Kd.R_lt (ra_ HO_9))) (below_size (bl_ HB))) (below_step (bl_ HB) hb) ?_; clear HO_9 HB hb ho21; intro HO_9 HO288 HB))
       go_loopg [10] k2 (fun kq v10 w' => ∃ (x9_3 : List Int) (x10_3 : List Int), Aside0 (impl_DistancesTo.l1 kq l0 a1 a2 a3 x9_3 x10_3 = some r) ∧ Aside0 (kq ≤ k2) ∧ Aside0 (Kd.R (Kd.int .i64) 3 w' w.heap.size (fun k_ => some k_ ≠ (v10 : Value).ownBlock) (.slice (some ⟨go17, 0, none⟩) x9_2.length co17) x9_3) ∧ Aside0 (Kd.Q (Kd.int .i64) 3 w' w.heap.size (fun k_ => some k_ ≠ ((.slice (some ⟨go17, 0, none⟩) x9_2.length co17) : Value).ownBlock) v10 x10_3) ∧ Aside0 (Below w.heap.size w w'))
       case atStart => exact ⟨(y285), (y286), H', ⟨Nat.le_refl _⟩, ⟨by (with_reducible repeat (first | apply Kd.R_alloc | apply Kd.R_drewN | apply Kd.R_drew)); exact Kd.R_mono HO_9.out (fun _ hk => hk.2)⟩, ⟨Kd.Q_of_R (by (with_reducible repeat (first | apply Kd.R_alloc | apply Kd.R_drewN | apply Kd.R_drew)); exact Kd.R_mono HO288.out (fun _ hk => hk.2))⟩, ⟨bl_ HB⟩⟩
       case round =>
        clear H'
        try clear c1
        try clear p1
        try clear q1
        try clear hx1
        try clear p2
        try clear c5
        try clear p6
        try clear c9
        try clear c11
        try clear c12
        try clear c12b0
        try clear c13
        try clear c15
        try clear c15b0
        try clear c16
        try clear c16b0
        try clear p17
        try clear q17
        try clear hx17
        try clear hf17
        try clear hx17_0
        try clear p17
        try clear p2
        try clear q17
        obtain ⟨x9_3, x10_3, HA, HK3, HO_9, HO_10, HB⟩ := hrel
        have hl9_3 := (Kd.R_reads' HO_9.out).1
        rw [hl9_3] at HO_9
        (try simp only [hl9_3])
        (try simp only [hl9_3] at HO_10)
        cases gk with
        | zero => exact absurd HA.out (by simp [impl_DistancesTo.l1])
        | succ k3 =>
         have H := HA.out
         clear HA
         simp only [impl_DistancesTo.l1] at H
         by_cases c22 : (x10_3.length : Int) > 0
         ·rw [if_pos c22] at H
          have c22b0 : decide (0 < (x10_3.length : Int)) = true := decide_eq_true c22
          have c22b1 : decide (0 < x10_3.length) = true := decide_eq_true (by omega)
          clear c22
          replace H := ifn_ H
          obtain ⟨c23, H⟩ := H
          have c23b0 := decide_eq_true c23
          have c23b1 : decide (0 < x10_3.length) = true := decide_eq_true (by omega)
          clear c23
          have HC24 := Aside0.mk H
          clear H
          obtain ⟨Ao25, co25, eo25, _⟩ := Kd.Q_slice HO_10.out
          subst eo25
          have p289 : 0 ≤ (0 : Int) := (by omega)
          have q289 : 0 < (x10_3.length : Int) := od_
          obtain ⟨ad289, e289, hx289_0⟩ := Kd.at_int (Kd.Q_reads' HO_10.out).2.2 0 p289 q289
          cases e289
          have qi289 : (0 < x10_3.length) = True := eq_true (by omega)
          (try rw [show ((0 : Int)).toNat = 0 from rfl] at hx289_0)
          (try rw [Addr.add_zero'] at hx289_0)
          replace p289 := eq_true p289
          replace q289 := eq_true q289
          go_upto_region 13 with (fail)
          go_cut [52] (fun v52 wc => ∃ (kq : Nat) (x52_23 : Bool), v52 = .bool x52_23 ∧ Aside0 (impl_DistancesTo.j3 kq l0 a1 a2 a3 x9_3 x10_3 (rd x10_3 0) x52_23 = some r) ∧ Aside0 (kq ≤ k3) ∧ Aside0 (Kd.R (Kd.int .i64) 3 wc w.heap.size (fun k_ => some k_ ≠ ((.slice (some ad289) x10_3.length co25) : Value).ownBlock) (.slice (some ⟨go17, 0, none⟩) x9_3.length co17) x9_3) ∧ Aside0 (Kd.Q (Kd.int .i64) 3 wc w.heap.size (fun k_ => some k_ ≠ ((.slice (some ⟨go17, 0, none⟩) x9_3.length co17) : Value).ownBlock) (.slice (some ad289) x10_3.length co25) x10_3) ∧ Aside0 (Below w.heap.size w wc))
          case first =>
           have H := HC24.out
           clear HC24
           by_cases c26 : (rd x10_3 0) = a3
           ·rw [if_pos c26] at H
            obtain ⟨c26b0, c26b1⟩ := bt_ c26
            clear c26
            (first | rw [c26b0] | (simp only [i64_w, i32_w]; rw [c26b0]) | skip)
            have H' := Aside0.mk H
            clear H
            go_wp2
            go_meet
            case rel => exact ⟨_, (false), (by first | rfl | (simp; done) | (simp [*]; done)), H', ⟨by have := HJ4.out; have := HK2.out; have := HK3.out; first | omega | exact Nat.le_refl _⟩, ⟨by (try simp only [hl9_3]); (with_reducible repeat (first | apply Kd.R_alloc | apply Kd.R_drewN | apply Kd.R_drew)); exact HO_9.out⟩, ⟨by (try simp only [hl9_3]); (with_reducible repeat (first | apply Kd.Q_alloc | apply Kd.Q_drewN | apply Kd.Q_drew)); exact HO_10.out⟩, ⟨bl_ HB⟩⟩
           ·rw [if_neg c26] at H
            obtain ⟨c26b0, c26b1⟩ := bn_ c26
            (first | rw [c26b0] | (simp only [i64_w, i32_w]; rw [c26b0]) | skip)
            have H' := Aside0.mk H
            clear H
            go_wp2
            go_meet
            case rel => exact ⟨_, (decide ((rd x10_3 0) ≥ a2)), (by first | rfl | (simp; done) | (simp [*]; done)), H', ⟨by have := HJ4.out; have := HK2.out; have := HK3.out; first | omega | exact Nat.le_refl _⟩, ⟨by (try simp only [hl9_3]); (with_reducible repeat (first | apply Kd.R_alloc | apply Kd.R_drewN | apply Kd.R_drew)); exact HO_9.out⟩, ⟨by (try simp only [hl9_3]); (with_reducible repeat (first | apply Kd.Q_alloc | apply Kd.Q_drewN | apply Kd.Q_drew)); exact HO_10.out⟩, ⟨bl_ HB⟩⟩
          case rest =>
           clear HC24
           try clear c1
           try clear p1
           try clear q1
           try clear hx1
           try clear c2
           try clear p2
           try clear q2
           try clear hx2
           try clear qi2
           try clear c5
           try clear p6
           try clear c9
           try clear c11
           try clear c12
           try clear c12b0
           try clear c13
           try clear c15
           try clear c15b0
           try clear c16
           try clear c16b0
           try clear p17
           try clear q17
           try clear hx17
           try clear hf17
           try clear c22
           try clear c22b0
           try clear c22b1
           try clear c23
           try clear c23b0
           try clear c23b1
           try clear c26
           try clear c26b0
           try clear c26b1
           try clear hx17_0
           try clear hx289_0
           try clear p1
           try clear p17
           try clear p2
           try clear p289
           try clear p6
           try clear q1
           try clear q17
           try clear q289
           obtain ⟨kq, x52_23, rfl, HA, HJ23, HO_9, HO_10, HB⟩ := hcut
           cases kq with
           | zero => exact absurd HA.out (by simp [impl_DistancesTo.j3])
           | succ kj23 =>
            have H := HA.out
            clear HA
            simp only [impl_DistancesTo.j3] at H
            by_cases c27 : x52_23 = true
            ·subst c27
             rw [if_pos rfl] at H
             replace H := ifn_ H
             obtain ⟨c28, H⟩ := H
             have c28b0 := eq_true c28
             have c28b1 := decide_eq_true c28
             clear c28
             replace H : ∃ y_ : List Int, Aside0 (y_ = (x10_3.drop (1 : Int).toNat)) ∧ (impl_DistancesTo.l1 kj23 l0 a1 a2 a3 x9_3 y_) = some r := ⟨_, ⟨rfl⟩, yh_ H⟩
             obtain ⟨y290, Ny290, H⟩ := H
             have H' := Aside0.mk H
             clear H
             have q29 : (1 : Int) ≤ ((x10_3.length : Int) : Int) := od_
             obtain ⟨i029, hi029, _, hsz29, _⟩ := info_parts info3
             have hcut29 := cut_from (P := Try.prog) 24 3 .i64 Try.underlying24 hi029 1 hsz29 (some ad289) x10_3.length co25 1 (by omega) q29
             have hr29 := Kd.Q_drop (k := (1 : Int).toNat) HO_10.out (by omega)
             obtain ⟨A29, hA29⟩ : ∃ A1, A1 = (if co25 = (1 : Int).toNat then (some ad289) else ((some ad289) : Option Addr).map (·.add ((1 : Int).toNat * 1))) := ⟨_, rfl⟩
             obtain ⟨c29, hc29⟩ : ∃ c1, c1 = co25 - (1 : Int).toNat := ⟨_, rfl⟩
             have hy29 : y290.length = x10_3.length - (1 : Int).toNat := (by rw [Ny290.out, List.length_drop])
             rw [← Ny290.out] at hr29
             rw [← hy29, ← hA29, ← hc29] at hcut29
             replace hr29 : Kd.Q (Kd.int .i64) 3 wc w.heap.size (fun k_ => some k_ ≠ (.slice (some ⟨go17, 0, none⟩) x9_3.length co17 : Value).ownBlock) (.slice A29 y290.length c29) y290 := (by rw [hA29, hc29, hy29]; exact hr29)
             have HE29 : Aside0 ((Value.slice A29 y290.length c29).ownBlock = (.slice (some ad289) x10_3.length co25 : Value).ownBlock) := ⟨by rw [hA29]; split <;> (cases ((some ad289) : Option Addr) <;> rfl)⟩
             clear hy29 hi029 hsz29 HO_10 hA29 hc29
             have HO292 := Aside0.mk hr29
             clear hr29
             replace q29 := eq_true q29
             have n_ := Aside0.mk (Kd.R_mono (ok' := fun k_ => some k_ ≠ (.slice A29 y290.length c29 : Value).ownBlock) HO_9.out (fun k_ hk => (by rw [HE29.out]; exact hk)))
             clear HO_9
             have HO_9 := n_
             clear n_
             go_wp2
             (try simp only [← hl9_3])
             go_roundg kj23
             case measure => have := HJ4.out; have := HK2.out; have := HK3.out; have := HJ23.out; omega
             case rel => exact ⟨(x9_3), (y290), H', ⟨by have := HJ4.out; have := HK2.out; have := HK3.out; have := HJ23.out; omega⟩, ⟨by (try simp only [hl9_3]); (with_reducible repeat (first | apply Kd.R_alloc | apply Kd.R_drewN | apply Kd.R_drew)); exact HO_9.out⟩, ⟨by (try simp only [hl9_3]); (with_reducible repeat (first | apply Kd.Q_alloc | apply Kd.Q_drewN | apply Kd.Q_drew)); exact HO292.out⟩, ⟨bl_ HB⟩⟩
            ·replace c27 := Bool.eq_false_iff.mpr c27
             subst c27
             have H1 : ((impl_NeighborsIn.f kj23 l0 (rd x10_3 0)).bind fun t293 => (impl_DistancesTo.l2 kj23 l0 a1 a2 a3 x9_3 x10_3 (rd x10_3 0) t293 (t293.length : Int) 0)) = some r := by rw [if_neg (show ¬ (false = true) by decide)] at H; exact H
             clear H
             have H := H1
             clear H1
             replace H := bs_ H
             obtain ⟨t293, A30, H⟩ := H
             have H' := Aside0.mk H
             clear H
             go_wp2_with (first | ((with_reducible refine gate_callee (f := 57) rfl ?_); refine gl_ 55 Try.func57 (impl_NeighborsIn.calls kj23 _ _ l0 (rd x10_3 0) t293 _ (ck_ HR0 HB) HC0.out A30.out) ?_; rintro e w31 ⟨v294, rfl, ho0, hb⟩; refine ⟨_, rfl, sh4_ (Kd.R_elder' (ra_ HO_9) (Kd.R_base ho0) hb) (Kd.Q_elder' (by (with_reducible repeat (first | apply Kd.Q_alloc | apply Kd.Q_drewN | apply Kd.Q_drew)); exact HO_10.out) (Kd.R_base ho0) hb) (Kd.R_lower (Kd.R_new' (Kd.R_new' ho0 (Kd.R_lt (ra_ HO_9))) (Kd.Q_lt (by (with_reducible repeat (first | apply Kd.Q_alloc | apply Kd.Q_drewN | apply Kd.Q_drew)); exact HO_10.out))) (below_size (bl_ HB))) (below_step (bl_ HB) hb) ?_⟩; clear HO_9 HO_10 HB hb ho0; intro HO_9 HO_10 HO295 HB; obtain ⟨Ao32, co32, eo32⟩ := Kd.R_slice HO295.out; subst eo32))
             go_loopg [10, 57] kj23 (fun kq v10 v57 w' => ∃ (x9_5 : List Int) (x10_5 : List Int) (x57_5 : Int), v57 = .int .i64 x57_5 ∧ Aside0 (impl_DistancesTo.l2 kq l0 a1 a2 a3 x9_5 x10_5 (rd x10_3 0) t293 (t293.length : Int) x57_5 = some r) ∧ Aside0 (kq ≤ kj23) ∧ Aside0 (Kd.R (Kd.int .i64) 3 w' w.heap.size (fun k_ => some k_ ≠ (v10 : Value).ownBlock ∧ some k_ ≠ ((.slice Ao32 t293.length co32) : Value).ownBlock) (.slice (some ⟨go17, 0, none⟩) x9_3.length co17) x9_5) ∧ Aside0 (Kd.Q (Kd.int .i64) 3 w' w.heap.size (fun k_ => some k_ ≠ ((.slice (some ⟨go17, 0, none⟩) x9_3.length co17) : Value).ownBlock ∧ some k_ ≠ ((.slice Ao32 t293.length co32) : Value).ownBlock) v10 x10_5) ∧ Aside0 (Kd.R (Kd.int .i64) 3 w' w.heap.size (fun k_ => some k_ ≠ ((.slice (some ⟨go17, 0, none⟩) x9_3.length co17) : Value).ownBlock ∧ some k_ ≠ (v10 : Value).ownBlock) (.slice Ao32 t293.length co32) t293) ∧ Aside0 (Below w.heap.size w w'))
             case atStart => exact ⟨(x9_3), (x10_3), (0), (by first | rfl | (simp; done) | (simp [*]; done)), H', ⟨Nat.le_refl _⟩, ⟨by (try simp only [hl9_3]); (with_reducible repeat (first | apply Kd.R_alloc | apply Kd.R_drewN | apply Kd.R_drew)); exact HO_9.out⟩, ⟨by (try simp only [hl9_3]); (with_reducible repeat (first | apply Kd.Q_alloc | apply Kd.Q_drewN | apply Kd.Q_drew)); exact HO_10.out⟩, ⟨by (try simp only [hl9_3]); (with_reducible repeat (first | apply Kd.R_alloc | apply Kd.R_drewN | apply Kd.R_drew)); exact Kd.R_mono HO295.out (fun _ hk => ⟨hk.1.2, hk.2⟩)⟩, ⟨bl_ HB⟩⟩
             case round =>
              clear H'
              try clear c1
              try clear p1
              try clear q1
              try clear hx1
              try clear c2
              try clear p2
              try clear q2
              try clear hx2
              try clear qi2
              try clear c5
              try clear p6
              try clear c9
              try clear c11
              try clear c12
              try clear c12b0
              try clear c13
              try clear c15
              try clear c15b0
              try clear c16
              try clear c16b0
              try clear p17
              try clear q17
              try clear hx17
              try clear hf17
              try clear c22
              try clear c22b0
              try clear c22b1
              try clear c23
              try clear c23b0
              try clear c23b1
              try clear c26
              try clear c26b0
              try clear c26b1
              try clear c27
              try clear c28
              try clear c28b0
              try clear c28b1
              try clear p28
              try clear q28
              try clear hx28
              try clear qi28
              try clear c29
              try clear q29
              try clear hx17_0
              try clear hx289_0
              try clear p1
              try clear p17
              try clear p2
              try clear p289
              try clear p6
              try clear q1
              try clear q17
              try clear q2
              try clear q289
              try clear q29
              obtain ⟨x9_5, x10_5, x57_5, rfl, HA, HK5, HO_9, HO_10, HO_55, HB⟩ := hrel
              have hl9_5 := (Kd.R_reads' HO_9.out).1
              rw [hl9_5] at HO_9
              (try simp only [hl9_5])
              (try simp only [hl9_5] at HO_10)
              (try simp only [hl9_5] at HO_55)
              cases gk with
              | zero => exact absurd HA.out (by simp [impl_DistancesTo.l2])
              | succ k5 =>
               have H := HA.out
               clear HA
               simp only [impl_DistancesTo.l2] at H
               by_cases c33 : x57_5 < (t293.length : Int)
               ·rw [if_pos c33] at H
                have c33b0 := decide_eq_true c33
                clear c33
                replace H := ifn_ H
                obtain ⟨c34, H⟩ := H
                have c34b0 := decide_eq_true c34
                clear c34
                replace H := ifn_ H
                obtain ⟨c35, H⟩ := H
                have c35b0 := decide_eq_true c35
                clear c35
                replace H := bs_ H
                obtain ⟨t297, A36, H⟩ := H
                by_cases c37 : t297 = true
                ·subst c37
                 rw [if_pos rfl] at H
                 replace H := ifn_ H
                 obtain ⟨c38, H⟩ := H
                 have c38b0 := decide_eq_true c38
                 clear c38
                 replace H := ifn_ H
                 obtain ⟨c39, H⟩ := H
                 have c39b0 := decide_eq_true c39
                 clear c39
                 by_cases c40 : (rd x9_5 (rd t293 x57_5)) < 0
                 ·rw [if_pos c40] at H
                  have c40b0 := decide_eq_true c40
                  clear c40
                  replace H := ifn_ H
                  obtain ⟨c41, H⟩ := H
                  have c41b0 := decide_eq_true c41
                  clear c41
                  replace H := ifn_ H
                  obtain ⟨c42, H⟩ := H
                  have c42b0 := decide_eq_true c42
                  clear c42
                  replace H : ∃ y_ : List Int, Aside0 (y_ = (x9_5.set ((rd t293 x57_5) : Int).toNat (wrap64 ((rd x9_5 (rd x10_3 0)) + 1)))) ∧ (if x10_5.length < 17592186044416 then (impl_DistancesTo.l2 k5 l0 a1 a2 a3 y_ (x10_5 ++ [rd t293 x57_5]) (rd x10_3 0) t293 (t293.length : Int) (wrap64 (x57_5 + 1))) else (none)) = some r := ⟨_, ⟨rfl⟩, yh_ H⟩
                  obtain ⟨y300, Ny300, H⟩ := H
                  replace H := ifn_ H
                  obtain ⟨c44, H⟩ := H
                  have LMc44 := Aside0.mk c44
                  clear c44
                  replace H : ∃ y_ : List Int, Aside0 (y_ = (x10_5 ++ [rd t293 x57_5])) ∧ (impl_DistancesTo.l2 k5 l0 a1 a2 a3 y300 y_ (rd x10_3 0) t293 (t293.length : Int) (wrap64 (x57_5 + 1))) = some r := ⟨_, ⟨rfl⟩, yh_ H⟩
                  obtain ⟨y301, Ny301, H⟩ := H
                  have H' := Aside0.mk H
                  clear H
                  have p296 : 0 ≤ (x57_5 : Int) := od_
                  have q296 : x57_5 < (t293.length : Int) := od_
                  obtain ⟨ad296, e296, hx296_0⟩ := Kd.at_int (Kd.R_reads' HO_55.out).2.2 x57_5 p296 q296
                  cases e296
                  replace p296 := eq_true p296
                  replace q296 := eq_true q296
                  go_wp2_with (first | ((with_reducible refine gate_callee (f := 73) rfl ?_); refine gl_ 63 Try.func73 (impl_isIndex.calls (rd t293 x57_5) a1 true _ A36.out) ?_; rintro e w' ⟨rfl, ⟨nd, rfl⟩⟩; refine ⟨_, rfl, ?_⟩; (try (rw [drewN_self wr]; generalize hq_ : World.drewN wr _ = wr; have n0_ : Aside0 (Kd.Q (Kd.int .i64) 3 wr w.heap.size (fun k_ => some k_ ≠ (.slice (some ⟨go17, 0, none⟩) x9_5.length co17 : Value).ownBlock ∧ some k_ ≠ (.slice (some ad296) t293.length co32 : Value).ownBlock) u10 x10_5) := ⟨by rw [← hq_]; exact (by (with_reducible repeat (first | apply Kd.Q_alloc | apply Kd.Q_drewN | apply Kd.Q_drew)); exact HO_10.out)⟩; have n1_ : Aside0 (Kd.R (Kd.int .i64) 3 wr w.heap.size (fun k_ => some k_ ≠ (.slice (some ⟨go17, 0, none⟩) x9_5.length co17 : Value).ownBlock ∧ some k_ ≠ (u10 : Value).ownBlock) (.slice (some ad296) t293.length co32) t293) := ⟨by rw [← hq_]; exact (ra_ HO_55)⟩; have n2_ : Aside0 (Kd.R (Kd.int .i64) 3 wr w.heap.size (fun k_ => some k_ ≠ (u10 : Value).ownBlock ∧ some k_ ≠ (.slice (some ad296) t293.length co32 : Value).ownBlock) (.slice (some ⟨go17, 0, none⟩) x9_5.length co17) x9_5) := ⟨by rw [← hq_]; exact (ra_ HO_9)⟩; have n3_ : Aside0 (Below w.heap.size w wr) := ⟨by rw [← hq_]; exact (bl_ HB)⟩; clear HO_10 HO_55 HO_9 HB hq_; have HO_10 := n0_; have HO_55 := n1_; have HO_9 := n2_; have HB := n3_; clear n0_ n1_ n2_ n3_)); have p298 : 0 ≤ ((rd t293 x57_5) : Int) := od_; have q298 : (rd t293 x57_5) < (x9_5.length : Int) := od_; obtain ⟨ad298, e298, hx298_0⟩ := Kd.at_int (Kd.R_reads' HO_9.out).2.2 (rd t293 x57_5) p298 q298; obtain rfl : (⟨go17, 0, none⟩ : Addr) = ad298 := (by injection e298); (first | simp only [add_plain] at hx298_0 | simp only [add_at] at hx298_0 | simp only [Addr.add, Nat.zero_add] at hx298_0 | skip); replace p298 := eq_true p298; replace q298 := eq_true q298; have p299 : 0 ≤ ((rd x10_3 0) : Int) := od_; have q299 : (rd x10_3 0) < (x9_5.length : Int) := od_; obtain ⟨ad299, e299, hx299_0⟩ := Kd.at_int (Kd.R_reads' HO_9.out).2.2 (rd x10_3 0) p299 q299; obtain rfl : (⟨go17, 0, none⟩ : Addr) = ad299 := (by injection e299); (first | simp only [add_plain] at hx299_0 | simp only [add_at] at hx299_0 | simp only [Addr.add, Nat.zero_add] at hx299_0 | skip); replace p299 := eq_true p299; replace q299 := eq_true q299; have p43 : 0 ≤ ((rd t293 x57_5) : Int) := od_; have q43 : ((rd t293 x57_5) : Int) < ((x9_5.length : Int) : Int) := od_; obtain ⟨hx43_0, hf43_0⟩ := Kd.R_celln 0 HO_9.out ((rd t293 x57_5) : Int) p43 q43; replace p43 := eq_true p43; replace q43 := eq_true q43; obtain ⟨hy45_, hz45_⟩ := Kd.R_celln 0 HO_9.out ((rd t293 x57_5) : Int) od_ od_; have HP45 := Kd.R_putg HO_9.out ((rd t293 x57_5) : Int) (wrap64 ((rd x9_5 (rd x10_3 0)) + 1))) | ((with_reducible refine gate_store (t := 3) (p := 78) rfl ?_); refine store_event (t := 3) (p := 78) (v := ?vo_w46) (w1 := (wr.setCell ⟨go17, ((rd t293 x57_5) : Int).toNat, none⟩ (.int .i64 (wrap64 ((rd x9_5 (rd x10_3 0)) + 1))))) ?hg ?ho ?hn ?hr ?_; (case ho => rfl); (case hg => rfl); (case hn => rfl); (case hr => first | (go_simp; done) | (go_simp; rfl)); intro w46 hw; have hg : wr.grownBy w46 (some go17) := (by rw [hw]; exact HP45.2); have hp_ : Kd.R (Kd.int .i64) 3 w46 w.heap.size (fun k_ => some k_ ≠ (u10 : Value).ownBlock ∧ some k_ ≠ (.slice (some ad296) t293.length co32 : Value).ownBlock) (.slice (some ⟨go17, 0, none⟩) x9_5.length co17) y300 := (by rw [hw, Ny300.out]; exact HP45.1); clear HP45; refine sh4_ hp_ (Kd.Q_after (v := (.slice (some ⟨go17, 0, none⟩) x9_5.length co17)) (v1 := (.slice (some ⟨go17, 0, none⟩) x9_5.length co17)) (ok := (fun k_ => some k_ ≠ (.slice (some ad296) t293.length co32 : Value).ownBlock)) (by (with_reducible repeat (first | apply Kd.Q_alloc | apply Kd.Q_drewN | apply Kd.Q_drew)); exact Kd.Q_mono HO_10.out (fun _ hk => ⟨hk.2, hk.1⟩)) hg (.inl rfl)) (Kd.R_after (v := (.slice (some ⟨go17, 0, none⟩) x9_5.length co17)) (v1 := (.slice (some ⟨go17, 0, none⟩) x9_5.length co17)) (ok := (fun k_ => some k_ ≠ (u10 : Value).ownBlock)) (by (with_reducible repeat (first | apply Kd.R_alloc | apply Kd.R_drewN | apply Kd.R_drew)); exact Kd.R_mono HO_55.out (fun _ hk => ⟨hk.2, hk.1⟩)) hg (.inl rfl)) ((by rw [hw]; exact below_set (HB.out) GB17.out : Below w.heap.size w w46)) ?_; clear HO_9 HO_10 HO_55 HB; intro HO_9 HO_10 HO_55 HB; clear hg hw hp_) | ((with_reducible refine gate_builtin (b := .append) (xs := #[.tmp 79, .tmp 81]) rfl ?_); at_builtin; refine Kd.Q_append (Kd.int .i64) (w0 := w) w.heap.size rfl (.tmp 79) (.tmp 81) 24 3 (.int .i64 0) 8 rfl Try.underlying24 info3 rfl (by decide) (by omega) u10 x10_5 (rd t293 x57_5) [.int .i64 (rd t293 x57_5)] (fun k_ => some k_ ≠ (.slice (some ⟨go17, 0, none⟩) x9_5.length co17 : Value).ownBlock ∧ some k_ ≠ (.slice (some ad296) t293.length co32 : Value).ownBlock) (fun _ => False) rfl rfl ?aP (fun _ hk => hk.elim) ?aF ?aO ?aB ?aS ?aL ?_; (case aP => exact rfl); (case aB => exact (bl_ HB)); (case aF => exact (fun k_ hk => ⟨Kd.fresh' (Kd.R_lt (ra_ HO_9)) k_ hk, Kd.fresh' (Kd.R_lt (ra_ HO_55)) k_ hk⟩)); (case aO => exact (by (with_reducible repeat (first | apply Kd.Q_alloc | apply Kd.Q_drewN | apply Kd.Q_drew)); exact Kd.Q_mono HO_10.out (fun _ hk => ⟨hk.2, hk.1⟩))); (case aS => exact (below_size (bl_ HB))); (case aL => have := LMc44.out; omega); intro v302 w47 ho hb hg hat; rw [← Ny301.out] at ho; refine sh4_ (Kd.R_after (ok := (fun k_ => some k_ ≠ (.slice (some ad296) t293.length co32 : Value).ownBlock)) (by (with_reducible repeat (first | apply Kd.R_alloc | apply Kd.R_drewN | apply Kd.R_drew)); exact Kd.R_mono HO_9.out (fun _ hk => ⟨hk.2, hk.1⟩)) hg hat) (Kd.R_after (ok := (fun k_ => some k_ ≠ (.slice (some ⟨go17, 0, none⟩) x9_5.length co17 : Value).ownBlock)) (by (with_reducible repeat (first | apply Kd.R_alloc | apply Kd.R_drewN | apply Kd.R_drew)); exact Kd.R_mono HO_55.out (fun _ hk => ⟨hk.2, hk.1⟩)) hg hat) hb ho ?_; clear HO_9 HO_55 HB HO_10 ho hb hg hat; intro HO_9 HO_55 HB HO303))
                  (try simp only [← hl9_5])
                  go_roundg k5
                  case measure => have := HJ4.out; have := HK2.out; have := HK3.out; have := HJ23.out; have := HK5.out; omega
                  case rel => exact ⟨(y300), (y301), (wrap64 (x57_5 + 1)), (by first | rfl | (simp; done) | (simp [*]; done)), H', ⟨by have := HJ4.out; have := HK2.out; have := HK3.out; have := HJ23.out; have := HK5.out; omega⟩, ⟨by (try simp only [hl9_3]); (try simp only [hl9_5]); (with_reducible repeat (first | apply Kd.R_alloc | apply Kd.R_drewN | apply Kd.R_drew)); exact Kd.R_mono HO_9.out (fun _ hk => ⟨hk.2, hk.1⟩)⟩, ⟨by (try simp only [hl9_3]); (try simp only [hl9_5]); (with_reducible repeat (first | apply Kd.Q_alloc | apply Kd.Q_drewN | apply Kd.Q_drew)); exact HO303.out⟩, ⟨by (try simp only [hl9_3]); (try simp only [hl9_5]); (with_reducible repeat (first | apply Kd.R_alloc | apply Kd.R_drewN | apply Kd.R_drew)); exact HO_55.out⟩, ⟨bl_ HB⟩⟩
                 ·rw [if_neg c40] at H
                  have c40b0 := decide_eq_false c40
                  clear c40
                  have H' := Aside0.mk H
                  clear H
                  have p296 : 0 ≤ (x57_5 : Int) := od_
                  have q296 : x57_5 < (t293.length : Int) := od_
                  obtain ⟨ad296, e296, hx296_0⟩ := Kd.at_int (Kd.R_reads' HO_55.out).2.2 x57_5 p296 q296
                  cases e296
                  replace p296 := eq_true p296
                  replace q296 := eq_true q296
                  go_wp2_with (first | ((with_reducible refine gate_callee (f := 73) rfl ?_); refine gl_ 63 Try.func73 (impl_isIndex.calls (rd t293 x57_5) a1 true _ A36.out) ?_; rintro e w' ⟨rfl, ⟨nd, rfl⟩⟩; refine ⟨_, rfl, ?_⟩; have p298 : 0 ≤ ((rd t293 x57_5) : Int) := od_; have q298 : (rd t293 x57_5) < (x9_5.length : Int) := od_; obtain ⟨ad298, e298, hx298_0⟩ := Kd.at_int (Kd.R_reads' HO_9.out).2.2 (rd t293 x57_5) p298 q298; obtain rfl : (⟨go17, 0, none⟩ : Addr) = ad298 := (by injection e298); (first | simp only [add_plain] at hx298_0 | simp only [add_at] at hx298_0 | simp only [Addr.add, Nat.zero_add] at hx298_0 | skip); replace p298 := eq_true p298; replace q298 := eq_true q298))
                  (try simp only [← hl9_5])
                  go_roundg k5
                  case measure => have := HJ4.out; have := HK2.out; have := HK3.out; have := HJ23.out; have := HK5.out; omega
                  case rel => exact ⟨(x9_5), (x10_5), (wrap64 (x57_5 + 1)), (by first | rfl | (simp; done) | (simp [*]; done)), H', ⟨by have := HJ4.out; have := HK2.out; have := HK3.out; have := HJ23.out; have := HK5.out; omega⟩, ⟨by (try simp only [hl9_3]); (try simp only [hl9_5]); (with_reducible repeat (first | apply Kd.R_alloc | apply Kd.R_drewN | apply Kd.R_drew)); exact HO_9.out⟩, ⟨by (try simp only [hl9_3]); (try simp only [hl9_5]); (with_reducible repeat (first | apply Kd.Q_alloc | apply Kd.Q_drewN | apply Kd.Q_drew)); exact HO_10.out⟩, ⟨by (try simp only [hl9_3]); (try simp only [hl9_5]); (with_reducible repeat (first | apply Kd.R_alloc | apply Kd.R_drewN | apply Kd.R_drew)); exact HO_55.out⟩, ⟨bl_ HB⟩⟩
                ·replace c37 := Bool.eq_false_iff.mpr c37
                 subst c37
                 have H1 : (impl_DistancesTo.l2 k5 l0 a1 a2 a3 x9_5 x10_5 (rd x10_3 0) t293 (t293.length : Int) (wrap64 (x57_5 + 1))) = some r := by rw [if_neg (show ¬ (false = true) by decide)] at H; exact H
                 clear H
                 have H := H1
                 clear H1
                 have H' := Aside0.mk H
                 clear H
                 have p296 : 0 ≤ (x57_5 : Int) := od_
                 have q296 : x57_5 < (t293.length : Int) := od_
                 obtain ⟨ad296, e296, hx296_0⟩ := Kd.at_int (Kd.R_reads' HO_55.out).2.2 x57_5 p296 q296
                 cases e296
                 replace p296 := eq_true p296
                 replace q296 := eq_true q296
                 go_wp2_with (first | ((with_reducible refine gate_callee (f := 73) rfl ?_); refine gl_ 63 Try.func73 (impl_isIndex.calls (rd t293 x57_5) a1 false _ A36.out) ?_; rintro e w' ⟨rfl, ⟨nd, rfl⟩⟩; refine ⟨_, rfl, ?_⟩))
                 (try simp only [← hl9_5])
                 go_roundg k5
                 case measure => have := HJ4.out; have := HK2.out; have := HK3.out; have := HJ23.out; have := HK5.out; omega
                 case rel => exact ⟨(x9_5), (x10_5), (wrap64 (x57_5 + 1)), (by first | rfl | (simp; done) | (simp [*]; done)), H', ⟨by have := HJ4.out; have := HK2.out; have := HK3.out; have := HJ23.out; have := HK5.out; omega⟩, ⟨by (try simp only [hl9_3]); (try simp only [hl9_5]); (with_reducible repeat (first | apply Kd.R_alloc | apply Kd.R_drewN | apply Kd.R_drew)); exact HO_9.out⟩, ⟨by (try simp only [hl9_3]); (try simp only [hl9_5]); (with_reducible repeat (first | apply Kd.Q_alloc | apply Kd.Q_drewN | apply Kd.Q_drew)); exact HO_10.out⟩, ⟨by (try simp only [hl9_3]); (try simp only [hl9_5]); (with_reducible repeat (first | apply Kd.R_alloc | apply Kd.R_drewN | apply Kd.R_drew)); exact HO_55.out⟩, ⟨bl_ HB⟩⟩
               ·rw [if_neg c33] at H
                have c33b0 : decide (x57_5 < (t293.length : Int)) = false := decide_eq_false c33
                clear c33
                replace H := ifn_ H
                obtain ⟨c48, H⟩ := H
                have c48b0 := eq_true c48
                have c48b1 := decide_eq_true c48
                clear c48
                replace H : ∃ y_ : List Int, Aside0 (y_ = (x10_5.drop (1 : Int).toNat)) ∧ (impl_DistancesTo.l1 k5 l0 a1 a2 a3 x9_5 y_) = some r := ⟨_, ⟨rfl⟩, yh_ H⟩
                obtain ⟨y304, Ny304, H⟩ := H
                have H' := Aside0.mk H
                clear H
                obtain ⟨Ao49, co49, eo49, _⟩ := Kd.Q_slice HO_10.out
                subst eo49
                have q50 : (1 : Int) ≤ ((x10_5.length : Int) : Int) := od_
                obtain ⟨i050, hi050, _, hsz50, _⟩ := info_parts info3
                have hcut50 := cut_from (P := Try.prog) 24 3 .i64 Try.underlying24 hi050 1 hsz50 Ao49 x10_5.length co49 1 (by omega) q50
                have hr50 := Kd.Q_drop (k := (1 : Int).toNat) HO_10.out (by omega)
                obtain ⟨A50, hA50⟩ : ∃ A1, A1 = (if co49 = (1 : Int).toNat then Ao49 else (Ao49 : Option Addr).map (·.add ((1 : Int).toNat * 1))) := ⟨_, rfl⟩
                obtain ⟨c50, hc50⟩ : ∃ c1, c1 = co49 - (1 : Int).toNat := ⟨_, rfl⟩
                have hy50 : y304.length = x10_5.length - (1 : Int).toNat := (by rw [Ny304.out, List.length_drop])
                rw [← Ny304.out] at hr50
                rw [← hy50, ← hA50, ← hc50] at hcut50
                replace hr50 : Kd.Q (Kd.int .i64) 3 wr w.heap.size (fun k_ => some k_ ≠ (.slice (some ⟨go17, 0, none⟩) x9_5.length co17 : Value).ownBlock ∧ some k_ ≠ (.slice Ao32 t293.length co32 : Value).ownBlock) (.slice A50 y304.length c50) y304 := (by rw [hA50, hc50, hy50]; exact hr50)
                have HE50 : Aside0 ((Value.slice A50 y304.length c50).ownBlock = (.slice Ao49 x10_5.length co49 : Value).ownBlock) := ⟨by rw [hA50]; split <;> (cases (Ao49 : Option Addr) <;> rfl)⟩
                clear hy50 hi050 hsz50 HO_10 hA50 hc50
                have HO306 := Aside0.mk hr50
                clear hr50
                replace q50 := eq_true q50
                have n_ := Aside0.mk (Kd.R_mono (ok' := fun k_ => (some k_ ≠ (.slice A50 y304.length c50 : Value).ownBlock ∧ some k_ ≠ (.slice Ao32 t293.length co32 : Value).ownBlock)) HO_9.out (fun k_ hk => ⟨(by rw [HE50.out]; exact hk.1), hk.2⟩))
                clear HO_9
                have HO_9 := n_
                clear n_
                have n_ := Aside0.mk (Kd.R_mono (ok' := fun k_ => (some k_ ≠ (.slice (some ⟨go17, 0, none⟩) x9_5.length co17 : Value).ownBlock ∧ some k_ ≠ (.slice A50 y304.length c50 : Value).ownBlock)) HO_55.out (fun k_ hk => ⟨hk.1, (by rw [HE50.out]; exact hk.2)⟩))
                clear HO_55
                have HO_55 := n_
                clear n_
                go_wp2
                (try simp only [← hl9_3, ← hl9_5])
                go_roundg k5
                case measure => have := HJ4.out; have := HK2.out; have := HK3.out; have := HJ23.out; have := HK5.out; omega
                case rel => exact ⟨(x9_5), (y304), H', ⟨by have := HJ4.out; have := HK2.out; have := HK3.out; have := HJ23.out; have := HK5.out; omega⟩, ⟨by (try simp only [hl9_3]); (try simp only [hl9_5]); (with_reducible repeat (first | apply Kd.R_alloc | apply Kd.R_drewN | apply Kd.R_drew)); exact Kd.R_mono HO_9.out (fun _ hk => hk.1)⟩, ⟨by (try simp only [hl9_3]); (try simp only [hl9_5]); (with_reducible repeat (first | apply Kd.Q_alloc | apply Kd.Q_drewN | apply Kd.Q_drew)); exact Kd.Q_mono HO306.out (fun _ hk => hk.1)⟩, ⟨bl_ HB⟩⟩
         ·rw [if_neg c22] at H
          have c22b0 : decide (0 < (x10_3.length : Int)) = false := decide_eq_false c22
          have c22b1 : decide (0 < x10_3.length) = false := decide_eq_false (by omega)
          clear c22
          obtain rfl := Option.some.inj H
          obtain ⟨Ao51, co51, eo51, _⟩ := Kd.Q_slice HO_10.out
          subst eo51
          go_wp2
          go_ret
          exact ⟨_, er_, by (with_reducible repeat (first | apply Kd.R_alloc | apply Kd.R_drewN | apply Kd.R_drew)); exact Kd.R_mono HO_9.out (fun _ hk => trivial), bl_ HB⟩

end Go.Proofs.Ytlljhblilicnfaa.PFnExactTableOf
