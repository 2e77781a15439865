-- Written by a program of this session for this claim (the kit's printer with changes).
import Derived.Shelf.Spec.SlicesGrow
import Derived.Test.YtpjhdehbikohmaaGreatQFnExactPlanOfx0
import Derived.Test.YtpjhdehbikohmaaGreatQFnExactPlanOfx13
import Derived.Test.YtpjhdehbikohmaaGreatQFnExactPlanOfx14
import Derived.Test.YtpjhdehbikohmaaGreatQFnExactPlanOfx16
namespace Go.Proofs.YtpjhdehbikohmaaGreat.PFnExactPlanOf
open Go.RowKit Go.Proofs.YtpjhdehbikohmaaGreatW.PrintWords Go.Proofs.YtpjhdehbikohmaaGreatW.PrintLast Go.Proofs.YtpjhdehbikohmaaGreatW.PrintMore
attribute [local go_sem] max2_int min2_int max_two min_two max_three min_three max_four min_four   -- for this text's walks alone
set_option linter.unusedVariables false
set_option maxHeartbeats 8000000
set_option maxRecDepth 100000
set_option linter.unusedSimpArgs false

/-! ### impl_IsSure: function 74 -/
def impl_IsSure.f (k : Nat) (j : Int) (E : List S68) (G : List S70) (l m s u x : Int) (I : List S76) (y z B D : Int) : Option (Bool) := (impl_SightAt.f k j E G l m s u x I y z B D).bind fun J => (some (J == 2))
theorem impl_IsSure.calls (k : Nat) (u : Int) (G : Option Addr) (T : Nat) (j : List S68) (I : Option Addr) (U : Nat) (l : List S70) (x y z B D : Int) (J : Option Addr) (X : Nat) (m : List S76) (E L M O : Int) (r : Bool) (w : World) (a5 : Kd.C k68 w G j.length j) (Z : j.length ≤ T) (a6 : Kd.C k70 w I l.length l) (a0 : l.length ≤ U) (a7 : Kd.C k76 w J m.length m) (a4 : m.length ≤ X) (h : impl_IsSure.f k u j l x y z B D m E L M O = some r) :
  Calls Tryz.prog 74 #[.agg #[iv_ u, .slice G j.length T, .slice I l.length U, iv_ x, iv_ y, iv_ z, iv_ B, iv_ D, .slice J m.length X, iv_ E], iv_ L, iv_ M, iv_ O] w fun e w' => e = .returned (.bool r) ∧ Below w.heap.size w w' := by
 have b8 := Tryz.underlying34
 have b2 := Aside0.mk a5
 have a9 := Aside0.mk Z
 clear a5 Z
 have b3 := Aside0.mk a6
 have b0 := Aside0.mk a0
 clear a6 a0
 have b4 := Aside0.mk a7
 have b1 := Aside0.mk a4
 clear a7 a4
 have HB := Aside0.mk (Below.refl w.heap.size w)
 have H := h
 clear h
 unfold impl_IsSure.f at H
 replace H := bs_ H
 obtain ⟨b5, A5, H⟩ := H
 obtain rfl := Option.some.inj H
 go_enter Tryz.func74, Tryz.ntmps74
 go_wp2_with (first | ((with_reducible refine gd_ 4 ?_); refine bx_ 4 34 #[iv_ u, .slice G j.length T, .slice I l.length U, iv_ x, iv_ y, iv_ z, iv_ B, iv_ D, .slice J m.length X, iv_ E] ?_; intro b6 hg w6 hbox hb; refine sh3_ (below_step (bl_ HB) hb) hbox (ge_ hg (bl_ HB)) ?_; clear HB hb hbox hg; intro HB s Y; have b7 := cf10_ s) | ((with_reducible refine gate_callee (f := 84) rfl ?_); refine gl_ 13 Tryz.func84 (impl_SightAt.calls k u _ _ j _ _ l x y z B D _ _ m E L M O b5 _ (ck_ b2 HB) a9.out (ck_ b3 HB) b0.out (ck_ b4 HB) b1.out A5.out) ?_; rintro e w8 ⟨rfl, hb⟩; refine ⟨_, rfl, sh2_ (blk_below (bk_ s) hb) (below_step (bl1_ HB Y) hb) ?_⟩; clear s HB hb; intro s HB))
 go_ret
 exact ⟨er_, bl1_ HB Y⟩

/-! ### impl_SureWindows_1: function 73 -/
def impl_SureWindows_1.f (k : Nat) (j l : Int) (E : List S68) (G : List S70) (m s u x y : Int) (I : List S76) (z B D : Int) : Option (Bool) := (impl_IsSure.f k l E G m s u x y I z B D j).bind fun J => (some J)
theorem impl_SureWindows_1.calls (k : Nat) (X x : Int) (L : Option Addr) (Y : Nat) (m : List S68) (M : Option Addr) (Z : Nat) (s : List S70) (y z B D E : Int) (O : Option Addr) (a1 : Nat) (u : List S76) (G I J : Int) (r : Bool) (w : World) (j : Nat) (l : w.heap[j]? = some (.cells #[iv_ x, .slice L m.length Y, .slice M s.length Z, iv_ y, iv_ z, iv_ B, iv_ D, iv_ E, .slice O u.length a1, iv_ G] 34 (0, 0))) (T : Nat) (b7 : w.heap[T]? = some (.cells #[iv_ I] 3 (0, 0))) (U : Nat) (b8 : w.heap[U]? = some (.cells #[iv_ J] 3 (0, 0))) (a7 : Kd.C k68 w L m.length m) (a4 : m.length ≤ Y) (a8 : Kd.C k70 w M s.length s) (a5 : s.length ≤ Z) (a9 : Kd.C k76 w O u.length u) (a6 : u.length ≤ a1) (h : impl_SureWindows_1.f k X x m s y z B D E u G I J = some r) :
  Calls Tryz.prog 73 #[iv_ X, .pointer (some ⟨j, 0, none⟩), .pointer (some ⟨T, 0, none⟩), .pointer (some ⟨U, 0, none⟩)] w fun e w' => e = .returned (.bool r) ∧ Below w.heap.size w w' := by
 have c0 : w.cell? ⟨j, 0, none⟩ = some (iv_ x) := (blk_cell l 0).trans rfl
 have c1 : w.cell? ⟨j, 1, none⟩ = some (.slice L m.length Y) := (blk_cell l 1).trans rfl
 have d0 : w.cell? ⟨j, 2, none⟩ = some (.slice M s.length Z) := (blk_cell l 2).trans rfl
 have d1 : w.cell? ⟨j, 3, none⟩ = some (iv_ y) := (blk_cell l 3).trans rfl
 have d2 : w.cell? ⟨j, 4, none⟩ = some (iv_ z) := (blk_cell l 4).trans rfl
 have d3 : w.cell? ⟨j, 5, none⟩ = some (iv_ B) := (blk_cell l 5).trans rfl
 have d4 : w.cell? ⟨j, 6, none⟩ = some (iv_ D) := (blk_cell l 6).trans rfl
 have d5 : w.cell? ⟨j, 7, none⟩ = some (iv_ E) := (blk_cell l 7).trans rfl
 have d6 : w.cell? ⟨j, 8, none⟩ = some (.slice O u.length a1) := (blk_cell l 8).trans rfl
 have d7 : w.cell? ⟨j, 9, none⟩ = some (iv_ G) := (blk_cell l 9).trans rfl
 have d8 : w.cell? ⟨T, 0, none⟩ = some (iv_ I) := (blk_cell b7 0).trans rfl
 have d9 : w.cell? ⟨U, 0, none⟩ = some (iv_ J) := (blk_cell b8 0).trans rfl
 have b4 := Aside0.mk a7
 have b1 := Aside0.mk a4
 clear a7 a4
 have b5 := Aside0.mk a8
 have b2 := Aside0.mk a5
 clear a8 a5
 have b6 := Aside0.mk a9
 have b3 := Aside0.mk a6
 clear a9 a6
 have HB := Aside0.mk (Below.refl w.heap.size w)
 have H := h
 clear h
 unfold impl_SureWindows_1.f at H
 replace H := bs_ H
 obtain ⟨b9, A5, H⟩ := H
 obtain rfl := Option.some.inj H
 go_enter Tryz.func73, Tryz.ntmps73
 go_wp2_with (first | ((with_reducible refine gate_callee (f := 74) rfl ?_); refine gl_ 10 Tryz.func74 (impl_IsSure.calls k x _ _ m _ _ s y z B D E _ _ u G I J X b9 _ (cq_ b4) b1.out (cq_ b5) b2.out (cq_ b6) b3.out A5.out) ?_; rintro e w6 ⟨rfl, hb⟩; refine ⟨_, rfl, sh1_ (below_step (bl_ HB) hb) ?_⟩; clear HB hb; intro HB))
 go_ret
 exact ⟨er_, bl_ HB⟩


def where_impl_SureWindows_1.f (k : Nat) (I J j : Int) (D : List S68) (E : List S70) (l m s u x : Int) (G : List S76) (y z B : Int) : Option (List S52) := sw.f (fun k' t' => impl_SureWindows_1.f k' t' j D E l m s u x G y z B) k I J
theorem where_impl_SureWindows_1.calls (k : Nat) (Z y1 s : Int) (I : Option Addr) (U : Nat) (j : List S68) (J : Option Addr) (X : Nat) (l : List S70) (u x y z B : Int) (L : Option Addr) (Y : Nat) (m : List S76) (D E G : Int) (r : List S52) (w : World) (M : Nat) (a4 : w.heap[M]? = some (.cells #[iv_ s, .slice I j.length U, .slice J l.length X, iv_ u, iv_ x, iv_ y, iv_ z, iv_ B, .slice L m.length Y, iv_ D] 34 (0, 0))) (O : Nat) (a6 : w.heap[O]? = some (.cells #[iv_ E] 3 (0, 0))) (T : Nat) (a8 : w.heap[T]? = some (.cells #[iv_ G] 3 (0, 0))) (b3 : Kd.C k68 w I j.length j) (b0 : j.length ≤ U) (b4 : Kd.C k70 w J l.length l) (b1 : l.length ≤ X) (b5 : Kd.C k76 w L m.length m) (b2 : m.length ≤ Y) (h : where_impl_SureWindows_1.f k Z y1 s j l u x y z B m D E G = some r) :
  Calls Tryz.prog 70 #[iv_ Z, iv_ y1, .func (.func 73) #[] #[.pointer (some ⟨M, 0, none⟩), .pointer (some ⟨O, 0, none⟩), .pointer (some ⟨T, 0, none⟩)]] w fun e w' => ∃ a1 : Value, e = .returned (a1) ∧ Kd.R k52 52 w' w.heap.size (fun _ => True) a1 r ∧ Below w.heap.size w w' := by
 refine sw.calls (fun k' t' => impl_SureWindows_1.f k' t' s j l u x y z B m D E G) k Z y1 r w 73 _ (fun args w => enters_ Tryz.func73 (by kernel_rfl) rfl args w) (fun k' t b W hq hb => ?_) h
 have a5 := blk_below a4 hb
 have a7 := blk_below a6 hb
 have a9 := blk_below a8 hb
 have hh := impl_SureWindows_1.calls k' t s I U j J X l u x y z B L Y m D E G b W M a5 O a7 T a9 (Kd.C_below b3 hb) b0 (Kd.C_below b4 hb) b1 (Kd.C_below b5 hb) b2 hq
 exact hh.mono (fun e w' hx => ⟨hx.1, hx.2⟩)

/-! ### impl_SureWindows: function 56 -/
def impl_SureWindows.f (k : Nat) (j : Int) (G : List S68) (I : List S70) (l m s u x : Int) (J : List S76) (y z B D E : Int) : Option (List S52) := (where_impl_SureWindows_1.f k D E j G I l m s u x J y z B).bind fun L => (some L)
theorem impl_SureWindows.calls (k : Nat) (z : Int) (O : Option Addr) (Z : Nat) (l : List S68) (T : Option Addr) (a0 : Nat) (m : List S70) (B D E G I : Int) (U : Option Addr) (a5 : Nat) (s : List S76) (J L M X Y : Int) (r : List S52) (w : World) (b1 : Kd.C k68 w O l.length l) (a7 : l.length ≤ Z) (b2 : Kd.C k70 w T m.length m) (a8 : m.length ≤ a0) (b3 : Kd.C k76 w U s.length s) (a9 : s.length ≤ a5) (h : impl_SureWindows.f k z l m B D E G I s J L M X Y = some r) :
  Calls Tryz.prog 56 #[.agg #[iv_ z, .slice O l.length Z, .slice T m.length a0, iv_ B, iv_ D, iv_ E, iv_ G, iv_ I, .slice U s.length a5, iv_ J], iv_ L, iv_ M, iv_ X, iv_ Y] w fun e w' => ∃ b4 : Value, e = .returned (b4) ∧ Kd.R k52 52 w' w.heap.size (fun _ => True) b4 r ∧ Below w.heap.size w w' := by
 have c1 := Aside0.mk b1
 have b7 := Aside0.mk a7
 clear b1 a7
 have d0 := Aside0.mk b2
 have b8 := Aside0.mk a8
 clear b2 a8
 have d1 := Aside0.mk b3
 have b9 := Aside0.mk a9
 clear b3 a9
 have HB := Aside0.mk (Below.refl w.heap.size w)
 have H := h
 clear h
 unfold impl_SureWindows.f at H
 replace H := bs_ H
 obtain ⟨d5, A6, H⟩ := H
 obtain rfl := Option.some.inj H
 go_enter Tryz.func56, Tryz.ntmps56
 go_wp2_with (first | ((with_reducible refine gd_ 5 ?_); refine bx_ 5 34 #[iv_ z, .slice O l.length Z, .slice T m.length a0, iv_ B, iv_ D, iv_ E, iv_ G, iv_ I, .slice U s.length a5, iv_ J] ?_; intro d2 hg d8 hbox hb; refine sh1_ (below_step HB.out hb) ?_; clear HB; intro HB; have j := Aside0.mk hbox; clear hb hg hbox) | ((with_reducible refine gd_ 6 ?_); refine bx_ 6 3 #[iv_ L] ?_; intro d3 hg d9 hbox hb; have x := Aside0.mk (below_step HB.out hb); have u := Aside0.mk (blk_below j.out hb); clear j; have j := u; clear u; clear HB; have HB := x; clear x; have y := Aside0.mk hbox; clear hb hg hbox) | ((with_reducible refine gd_ 7 ?_); refine bx_ 7 3 #[iv_ M] ?_; intro d4 hg e0 hbox hb; have x := Aside0.mk (below_step HB.out hb); have u := Aside0.mk (blk_below j.out hb); clear j; have j := u; clear u; have a6 := Aside0.mk (blk_below y.out hb); clear y; have y := a6; clear a6; clear HB; have HB := x; clear x; have b6 := Aside0.mk hbox; clear hb hg hbox) | ((with_reducible refine gate_callee (f := 70) rfl ?_); refine gl_ 14 Tryz.func70 (where_impl_SureWindows_1.calls k X Y z _ _ l _ _ m B D E G I _ _ s J L M d5 _ d2 j.out d3 y.out d4 b6.out (ck_ c1 HB) b7.out (ck_ d0 HB) b8.out (ck_ d1 HB) b9.out A6.out) ?_; rintro e w7 ⟨d6, rfl, b0, hb⟩; refine ⟨_, rfl, sh2_ (Kd.R_lower b0 (below_size (bl_ HB))) (below_step (bl_ HB) hb) ?_⟩; clear HB hb b0; intro c0 HB))
 go_ret
 exact ⟨_, er_, ra_ c0, bl_ HB⟩

-- NOT PRINTED: function 75 (impl_Span_75)

/-! ### grow75: slices.Grow(nil, n), by the kit's contract -/
def grow75.f (n : Int) : Option (List S52) := if 0 ≤ n ∧ n * 16 ≤ 140737488355328 then some [] else none
open Go.Shelf in
def growL75_ren : Go.Shelf.Ren := ⟨fun | 4 => 75 | n => n, fun | 22 => 47 | 25 => 52 | 3 => 3 | 4 => 4 | 9 => 9 | 20 => 20 | 0 => 0 | 2 => 3 | n => n, fun | n => n⟩
theorem growL75 : Go.Proofs.Lays8.n4 Tryz.prog growL75_ren := {
 mixed := by kernel_rfl
 f4 := ⟨Tryz.f75.name, by decide, Tryz.func75.trans (congrArg some (by kernel_rfl))⟩
 t0 := Tryz.underlying0
 a0 := Tryz.isAgg0
 z0 := Tryz.sizeOf0
 v0 := Tryz.zeroValue0
 t3 := Tryz.underlying3
 a3 := Tryz.isAgg3
 z3 := Tryz.sizeOf3
 v3 := Tryz.zeroValue3
 t4 := Tryz.underlying4
 a4 := Tryz.isAgg4
 z4 := Tryz.sizeOf4
 v4 := Tryz.zeroValue4
 t9 := Tryz.underlying9
 a9 := Tryz.isAgg9
 z9 := Tryz.sizeOf9
 v9 := Tryz.zeroValue9
 t20 := Tryz.underlying20
 a20 := Tryz.isAgg20
 z20 := Tryz.sizeOf20
 v20 := Tryz.zeroValue20
 t22 := Tryz.underlying47
 a22 := Tryz.isAgg47
 z22 := Tryz.sizeOf47
 v22 := Tryz.zeroValue47 }
theorem grow75.calls (n : Int) (r : List S52) (w : World) (h : grow75.f n = some r) :
  Calls Tryz.prog 75 #[.slice none 0 0, iv_ n] w fun e w' => ∃ u : Value, e = .returned (u) ∧ Kd.R k52 52 w' w.heap.size (fun _ => True) u r ∧ Below w.heap.size w w' := by
 unfold grow75.f at h
 by_cases c : 0 ≤ n ∧ n * 16 ≤ 140737488355328
 ·rw [if_pos c] at h
  obtain rfl := Option.some.inj h
  obtain ⟨m, rfl⟩ := Int.eq_ofNat_of_zero_le c.1
  by_cases hm : m = 0
  ·subst hm
   refine (Any8.slices_Grow_room growL75 none 0 0 0 w (by omega) (by omega) (by omega) (by omega)).mono ?_
   rintro e w' ⟨rfl, rfl⟩
   exact ⟨_, rfl, Kd.R_nil _ _ _ _ _, Below.refl _ _⟩
  ·have hinfo : (Tryz.prog.info? 52).map (fun i => (i.zero, i.size, i.bytes)) = some (some (.agg #[(iv_ 0), (iv_ 0)]), 2, 16) := by kernel_rfl
   obtain ⟨z, x, j⟩ := Option.map_eq_some_iff.1 hinfo
   have s := congrArg Prod.fst j
   have y := congrArg (fun p => p.2.1) j
   have l := congrArg (fun p => p.2.2) j
   dsimp only at s y l
   refine (Any8.slices_Grow_grow growL75 z _ x s (by omega) none 0 0 m [] w (by omega) (by omega) (by rw [l]; omega) (by omega) (by simp) (fun _ => rfl) (fun a ha => by cases ha)).mono ?_
   rintro e w' ⟨rfl, rfl⟩
   have hle : grownCap w (0 + m) 0 52 ≤ maxLen := grownCap_le_maxLen w (0 + m) 0 52 (by unfold maxLen; omega)
   have hge : 0 + m ≤ grownCap w (0 + m) 0 52 := grownCap_ge w _ _ _
   refine ⟨_, rfl, ⟨fun _ _ => trivial, [], ?_, Reps.none _ _⟩, ?_⟩
   ·refine World.ownsRow_made (base := w.heap.size) (e := 52) (size := 2) w.drew _ _ (Nat.le_refl _) hle ?_
    have hzs : (.agg #[(iv_ 0), (iv_ 0)] : Value).cells.size = 2 := rfl
    rw [Array.size_append, Array.size_append, size_zeroCells, size_zeroCells, hzs]
    simp only [List.size_toArray, List.length_nil]
    show 0 + (0 + m - 0) * 2 + (grownCap w (0 + m) 0 52 - (0 + m)) * 2 = grownCap w (0 + m) 0 52 * 2
    omega
   ·exact below_alloc (below_drew1 (Below.refl _ _)) _
 ·rw [if_neg c] at h
  exact absurd h (by simp)

/-! ### impl_Span_57: function 57 -/
mutual
def impl_Span_57.l0 : Nat → List (List S52) → Int → List (List S52) → Int → Int → Option (List S52)
 | 0, _, _, _, _, _ => none
 | k + 1, u, x, s, z, j => if j < z then (if 0 ≤ j then (if j < (s.length : Int) then (if (wrap64 (x + ((rd_L12 s j).length : Int))) < 0 then (none) else (impl_Span_57.l0 k u (wrap64 (x + ((rd_L12 s j).length : Int))) s z (wrap64 (j + 1)))) else (none)) else (none)) else ((grow75.f x).bind fun D => (impl_Span_57.l1 k D u (u.length : Int) 0))
def impl_Span_57.l1 : Nat → List S52 → List (List S52) → Int → Int → Option (List S52)
 | 0, _, _, _, _ => none
 | k + 1, y, m, B, l => if l < B then (if 0 ≤ l then (if l < (m.length : Int) then (if y.length + (rd_L12 m l).length < 8796093022208 then (impl_Span_57.l1 k (y ++ (rd_L12 m l)) m B (wrap64 (l + 1))) else (none)) else (none)) else (none)) else (some y)
end
def impl_Span_57.f (k : Nat) (j : List (List S52)) : Option (List S52) := impl_Span_57.l0 k j 0 j (j.length : Int) 0
theorem impl_Span_57.calls (k : Nat) (I : Option Addr) (M : Nat) (j : List (List S52)) (r : List S52) (w : World) (a1 : Kd.C (Kd.slice 52 k52) w I j.length j) (T : j.length ≤ M) (h : impl_Span_57.f k j = some r) :
  Calls Tryz.prog 57 #[.slice I j.length M] w fun e w' => ∃ a6 : Value, e = .returned (a6) ∧ Kd.R k52 52 w' w.heap.size (fun _ => True) a6 r ∧ Below w.heap.size w w' := by
 have L := Aside0.mk a1
 have d3 := Aside0.mk T
 clear a1 T
 have HB := Aside0.mk (Below.refl w.heap.size w)
 have H := h
 clear h
 unfold impl_Span_57.f at H
 have H' := Aside0.mk H
 clear H
 go_enter Tryz.func57, Tryz.ntmps57
 go_wp2
 go_loopg [3, 11] k (fun kq v3 b7 w' => ∃ (s : Int) (m : Int), v3 = iv_ s ∧ b7 = iv_ m ∧ Aside0 (impl_Span_57.l0 kq j s j (j.length : Int) m = some r) ∧ Aside0 (kq ≤ k) ∧ Aside0 (Below w.heap.size w w'))
 case atStart => exact ⟨(0), (0), (by first | rfl | (simp; done) | (simp [*]; done)), (by first | rfl | (simp; done) | (simp [*]; done)), H', ⟨Nat.le_refl _⟩, ⟨bl_ HB⟩⟩
 case round =>
  clear H'
  obtain ⟨s, m, rfl, rfl, HA, x, HB⟩ := hrel
  cases gk with
  | zero => exact absurd HA.out (by simp [impl_Span_57.l0])
  | succ z =>
   have H := HA.out
   clear HA
   simp only [impl_Span_57.l0] at H
   by_cases c2 : m < (j.length : Int)
   ·rw [if_pos c2] at H
    have b3 := decide_eq_true c2
    clear c2
    replace H := ifn_ H
    obtain ⟨c3, H⟩ := H
    have e0 := decide_eq_true c3
    clear c3
    replace H := ifn_ H
    obtain ⟨c4, H⟩ := H
    have e1 := decide_eq_true c4
    clear c4
    by_cases c5 : (wrap64 (s + ((rd_L12 j m).length : Int))) < 0
    ·rw [if_pos c5] at H
     exact absurd H (by simp)
    ·rw [if_neg c5] at H
     have e2 := decide_eq_false c5
     clear c5
     have H' := Aside0.mk H
     clear H
     have B : 0 ≤ (m : Int) := od_
     have E : m < (j.length : Int) := od_
     obtain ⟨d7, d1, e3, b5, a2, Y, U⟩ := at_L12 L.out m B E
     cases b5
     replace a2 := hbc_ HB a2
     have d6 := Aside0.mk U
     have d4 := Aside0.mk Y
     clear U Y
     replace B := eq_true B
     replace E := eq_true E
     go_wp2
     go_roundg z
     case measure => have := x.out; omega
     case rel => exact ⟨(wrap64 (s + ((rd_L12 j m).length : Int))), (wrap64 (m + 1)), (by first | rfl | (simp; done) | (simp [*]; done)), (by first | rfl | (simp; done) | (simp [*]; done)), H', ⟨by have := x.out; omega⟩, ⟨bl_ HB⟩⟩
   ·rw [if_neg c2] at H
    have b3 := decide_eq_false c2
    clear c2
    replace H := bs_ H
    obtain ⟨a5, A6, H⟩ := H
    have H' := Aside0.mk H
    clear H
    go_wp2_with (first | ((with_reducible refine gate_callee (f := 75) rfl ?_); refine gl_ 24 Tryz.func75 (grow75.calls s a5 _ A6.out) ?_; rintro e w7 ⟨e6, rfl, a0, hb⟩; refine ⟨_, rfl, sh2_ (Kd.R_lower a0 (below_size (bl_ HB))) (below_step (bl_ HB) hb) ?_⟩; clear HB hb a0; intro a8 HB))
    go_loopg [6, 27] z (fun kq v6 b8 w' => ∃ (u : List S52) (l : Int), b8 = iv_ l ∧ Aside0 (impl_Span_57.l1 kq u j (j.length : Int) l = some r) ∧ Aside0 (kq ≤ z) ∧ Aside0 (Kd.R k52 52 w' w.heap.size (fun _ => True) v6 u) ∧ Aside0 (Below w.heap.size w w'))
    case atStart => exact ⟨(a5), (0), (by first | rfl | (simp; done) | (simp [*]; done)), H', ⟨Nat.le_refl _⟩, ⟨ra_ a8⟩, ⟨bl_ HB⟩⟩
    case round =>
     clear H'
     obtain ⟨u, l, rfl, HA, J, y, HB⟩ := hrel
     cases gk with
     | zero => exact absurd HA.out (by simp [impl_Span_57.l1])
     | succ k2 =>
      have H := HA.out
      clear HA
      simp only [impl_Span_57.l1] at H
      by_cases c8 : l < (j.length : Int)
      ·rw [if_pos c8] at H
       have b4 := decide_eq_true c8
       clear c8
       replace H := ifn_ H
       obtain ⟨c9, H⟩ := H
       have e5 := decide_eq_true c9
       clear c9
       replace H := ifn_ H
       obtain ⟨c10, H⟩ := H
       have d9 := decide_eq_true c10
       clear c10
       replace H := ifn_ H
       obtain ⟨O, H⟩ := H
       have b1 := Aside0.mk O
       clear O
       replace H : ∃ y_ : List S52, Aside0 (y_ = (u ++ (rd_L12 j l))) ∧ (impl_Span_57.l1 k2 y_ j (j.length : Int) (wrap64 (l + 1))) = some r := ⟨_, ⟨rfl⟩, yh_ H⟩
       obtain ⟨d0, b2, H⟩ := H
       have H' := Aside0.mk H
       clear H
       have D : 0 ≤ (l : Int) := od_
       have G : l < (j.length : Int) := od_
       obtain ⟨d8, d2, e4, b6, a3, Z, X⟩ := at_L12 L.out l D G
       cases b6
       replace a3 := hbc_ HB a3
       have b0 := Aside0.mk X
       have d5 := Aside0.mk Z
       clear X Z
       replace D := eq_true D
       replace G := eq_true G
       go_wp2_with (first | ((with_reducible refine gate_builtin (b := .append) (xs := #[.tmp 31, .tmp 32]) rfl ?_); at_builtin; refine Kd.R_append_rows k52 (w0 := w) w.heap.size rfl (.tmp 31) (.tmp 32) 47 52 (.agg #[(iv_ 0), (iv_ 0)]) 16 rfl Tryz.underlying47 info52 rfl (by decide) (by omega) u6 u (rd_L12 j l) _ _ _ (fun _ => True) (fun _ => False) rfl rfl ?aO ?aR (fun _ _ h => h) (fun _ h => h.elim) ?aF ?aB ?aS ?aL ?_; (case aR => exact ck_ b0 HB); (case aB => exact (bl_ HB)); (case aF => exact (fun _ _ => trivial)); (case aO => exact (ra_ y)); (case aS => exact (below_size (bl_ HB))); (case aL => have := b1.out; omega); intro e7 e8 ho hb hg hat; rw [← b2.out] at ho; refine sh2_ hb ho ?_; clear HB y ho hb hg hat; intro HB a9))
       go_roundg k2
       case measure => have := x.out; have := J.out; omega
       case rel => exact ⟨(d0), (wrap64 (l + 1)), (by first | rfl | (simp; done) | (simp [*]; done)), H', ⟨by have := x.out; have := J.out; omega⟩, ⟨ra_ a9⟩, ⟨bl_ HB⟩⟩
      ·rw [if_neg c8] at H
       have b4 := decide_eq_false c8
       clear c8
       obtain rfl := Option.some.inj H
       go_wp2
       go_ret
       exact ⟨_, er_, ra_ y, bl_ HB⟩

/-! ### impl_InArc: function 101 -/
def impl_InArc.f (j l m : Int) : Option (Bool) := (impl_AngleOf.f m).bind fun s => ((impl_AngleOf.f j).bind fun u => ((impl_AngleOf.f (wrap64 (s - u))).bind fun x => (some (decide (x ≤ l)))))
theorem impl_InArc.calls (j l s : Int) (r : Bool) (w : World) (h : impl_InArc.f j l s = some r) :
  Calls Tryz.prog 101 #[.agg #[iv_ j, iv_ l], iv_ s] w fun e w' => e = .returned (.bool r) ∧ Below w.heap.size w w' := by
 have M := Tryz.underlying74
 have HB := Aside0.mk (Below.refl w.heap.size w)
 have H := h
 clear h
 unfold impl_InArc.f at H
 replace H := bs_ H
 obtain ⟨u, z, H⟩ := H
 replace H := bs_ H
 obtain ⟨x, B, H⟩ := H
 obtain ⟨ji5, hji5⟩ : ∃ j_ : Int, (wrap64 (u - x)) = j_ := ⟨_, rfl⟩
 replace H : ((impl_AngleOf.f (ji5)).bind fun y => (some (decide (y ≤ l)))) = some r := by first | (rw [hji5] at H; exact H) | (simp only [hji5] at H ⊢; exact H)
 (try rw [hji5] at z)
 (try rw [hji5] at B)
 have L : (IntKind.i64.wrap (u - x)) = ji5 := (i64_w _).trans hji5
 replace H := bs_ H
 obtain ⟨y, D, H⟩ := H
 obtain rfl := Option.some.inj H
 go_enter Tryz.func101, Tryz.ntmps101
 go_wp2_with (first | ((with_reducible refine gd_ 2 ?_); refine bx_ 2 74 #[iv_ j, iv_ l] ?_; intro G hg J hbox hb; refine sh3_ (below_step (bl_ HB) hb) hbox (ge_ hg (bl_ HB)) ?_; clear HB hb hbox hg; intro HB m E) | (go_at_call 109; (with_reducible refine (impl_AngleOf.calls s u _ z.out).mono ?_); rintro e w' ⟨rfl, ⟨nd, rfl⟩⟩; (try exact dd_); have I := cf2_ m) | (go_at_call 109; (with_reducible refine (impl_AngleOf.calls j x _ B.out).mono ?_); rintro e w' ⟨rfl, ⟨nd, rfl⟩⟩; (try exact dd_)) | (go_at_call 109; (with_reducible refine (impl_AngleOf.calls ji5 y _ D.out).mono ?_); rintro e w' ⟨rfl, ⟨nd, rfl⟩⟩; (try exact dd_)))
 repeat (go_quiet (first | ((with_reducible refine gd_ 2 ?_); refine bx_ 2 74 #[iv_ j, iv_ l] ?_; intro G hg J hbox hb; refine sh3_ (below_step (bl_ HB) hb) hbox (ge_ hg (bl_ HB)) ?_; clear HB hb hbox hg; intro HB m E) | (go_at_call 109; (with_reducible refine (impl_AngleOf.calls s u _ z.out).mono ?_); rintro e w' ⟨rfl, ⟨nd, rfl⟩⟩; (try exact dd_); have I := cf2_ m) | (go_at_call 109; (with_reducible refine (impl_AngleOf.calls j x _ B.out).mono ?_); rintro e w' ⟨rfl, ⟨nd, rfl⟩⟩; (try exact dd_)) | (go_at_call 109; (with_reducible refine (impl_AngleOf.calls ji5 y _ D.out).mono ?_); rintro e w' ⟨rfl, ⟨nd, rfl⟩⟩; (try exact dd_))); try go_wp2_with (first | ((with_reducible refine gd_ 2 ?_); refine bx_ 2 74 #[iv_ j, iv_ l] ?_; intro G hg J hbox hb; refine sh3_ (below_step (bl_ HB) hb) hbox (ge_ hg (bl_ HB)) ?_; clear HB hb hbox hg; intro HB m E) | (go_at_call 109; (with_reducible refine (impl_AngleOf.calls s u _ z.out).mono ?_); rintro e w' ⟨rfl, ⟨nd, rfl⟩⟩; (try exact dd_); have I := cf2_ m) | (go_at_call 109; (with_reducible refine (impl_AngleOf.calls j x _ B.out).mono ?_); rintro e w' ⟨rfl, ⟨nd, rfl⟩⟩; (try exact dd_)) | (go_at_call 109; (with_reducible refine (impl_AngleOf.calls ji5 y _ D.out).mono ?_); rintro e w' ⟨rfl, ⟨nd, rfl⟩⟩; (try exact dd_))))
 go_ret
 exact ⟨by first | rfl | (simp [errW_none, errW_some] <;> rfl) | (simp only [← hji5]; first | rfl | (simp [errW_none, errW_some] <;> rfl)) | (simp [*, errW_none, errW_some] <;> rfl), bl1_ HB E⟩

/-! ### impl_ArcsMeet: function 87 -/
def impl_ArcsMeet.l0 : Nat → Int → Int → Int → Int → Int → Option (Bool)
 | 0, _, _, _, _, _ => none
 | k + 1, j, l, m, s, u => if j < 360 then ((impl_InArc.f l m j).bind fun x => (if x = true then ((impl_InArc.f s u j).bind fun y => (if y = true then (some true) else (impl_ArcsMeet.l0 k (wrap64 (j + 1)) l m s u))) else (impl_ArcsMeet.l0 k (wrap64 (j + 1)) l m s u))) else (some false)
def impl_ArcsMeet.f (k : Nat) (j l m s : Int) : Option (Bool) := impl_ArcsMeet.l0 k 0 j l m s
theorem impl_ArcsMeet.calls (k : Nat) (x y z B : Int) (r : Bool) (w : World) (h : impl_ArcsMeet.f k x y z B = some r) :
  Calls Tryz.prog 87 #[.agg #[iv_ x, iv_ y], .agg #[iv_ z, iv_ B]] w fun e w' => e = .returned (.bool r) ∧ Below w.heap.size w w' := by
 have b1 := Tryz.underlying74
 have HB := Aside0.mk (Below.refl w.heap.size w)
 have H := h
 clear h
 unfold impl_ArcsMeet.f at H
 have H' := Aside0.mk H
 clear H
 go_enter Tryz.func87, Tryz.ntmps87
 go_wp2_with (first | ((with_reducible refine gd_ 2 ?_); refine bx_ 2 74 #[iv_ x, iv_ y] ?_; intro T hg w3 hbox hb; refine sh3_ (below_step (bl_ HB) hb) hbox (ge_ hg (bl_ HB)) ?_; clear HB hb hbox hg; intro HB j s) | ((with_reducible refine gd_ 3 ?_); refine bx_ 3 74 #[iv_ z, iv_ B] ?_; intro U hg w4 hbox hb; refine sh6_ (blk_below (bk_ j) hb) (below_step (bl1_ HB s) hb) hbox (ge_ hg (bl1_ HB s)) (nl_ hg (bk_ j)) (ng_ hg (bk_ j)) ?_; clear j HB hb hbox hg; intro j HB l u J L))
 go_loopg [6] k (fun kq Z w' => ∃ (m : Int), Z = iv_ m ∧ Aside0 (impl_ArcsMeet.l0 kq m x y z B = some r) ∧ Aside0 (kq ≤ k) ∧ Aside0 (w'.heap[T]? = some (.cells #[iv_ x, iv_ y] 74 (0, 0))) ∧ Aside0 (w'.heap[U]? = some (.cells #[iv_ z, iv_ B] 74 (0, 0))) ∧ Aside0 (Below w.heap.size w w'))
 case atStart => exact ⟨(0), (by first | rfl | (simp; done) | (simp [*]; done)), H', ⟨Nat.le_refl _⟩, ⟨by (with_reducible repeat (first | refine blk_drewN ?_ _ | refine blk_drew ?_ | refine blk_alloc ?_ _)); exact j.out⟩, ⟨by (with_reducible repeat (first | refine blk_drewN ?_ _ | refine blk_drew ?_ | refine blk_alloc ?_ _)); exact l.out⟩, ⟨bl2_ HB s u⟩⟩
 case round =>
  clear H'
  obtain ⟨m, rfl, HA, E, j, l, HB⟩ := hrel
  cases gk with
  | zero => exact absurd HA.out (by simp [impl_ArcsMeet.l0])
  | succ G =>
   have H := HA.out
   clear HA
   simp only [impl_ArcsMeet.l0] at H
   by_cases c5 : m < 360
   ·rw [if_pos c5] at H
    have O := decide_eq_true c5
    clear c5
    replace H := bs_ H
    obtain ⟨X, I, H⟩ := H
    by_cases c7 : X = true
    ·subst c7
     rw [if_pos rfl] at H
     replace H := bs_ H
     obtain ⟨Y, M, H⟩ := H
     by_cases c9 : Y = true
     ·subst c9
      rw [if_pos rfl] at H
      obtain rfl := Option.some.inj H
      have a5 := J.out
      have a8 := L.out
      have a0 := cf2_ j
      go_wp2_with (first | ((with_reducible refine gate_callee (f := 101) rfl ?_); refine gl_ 11 Tryz.func101 (impl_InArc.calls x y m true _ I.out) ?_; rintro e b2 ⟨rfl, hb⟩; refine ⟨_, rfl, sh3_ (blk_below (bk_ j) hb) (blk_below (bk_ l) hb) (below_step (bl2_ HB s u) hb) ?_⟩; clear j l HB hb; intro j l HB; have a1 := cf2_ l) | (go_at_call 101; (with_reducible refine (impl_InArc.calls z B m true _ M.out).mono ?_); rintro e b3 ⟨rfl, hb⟩; refine sh3_ (blk_below (bk_ j) hb) (blk_below (bk_ l) hb) (below_step (bl2_ HB s u) hb) ?_; clear j l HB hb; intro j l HB))
      go_ret
      exact ⟨er_, bl2_ HB s u⟩
     ·replace c9 := Bool.eq_false_iff.mpr c9
      subst c9
      have D : (impl_ArcsMeet.l0 G (wrap64 (m + 1)) x y z B) = some r := by rw [if_neg (show ¬ (false = true) by decide)] at H; exact H
      clear H
      have H := D
      clear D
      have H' := Aside0.mk H
      clear H
      have a6 := J.out
      have a9 := L.out
      have a2 := cf2_ j
      go_wp2_with (first | ((with_reducible refine gate_callee (f := 101) rfl ?_); refine gl_ 11 Tryz.func101 (impl_InArc.calls x y m true _ I.out) ?_; rintro e b4 ⟨rfl, hb⟩; refine ⟨_, rfl, sh3_ (blk_below (bk_ j) hb) (blk_below (bk_ l) hb) (below_step (bl2_ HB s u) hb) ?_⟩; clear j l HB hb; intro j l HB; have a3 := cf2_ l) | (go_at_call 101; (with_reducible refine (impl_InArc.calls z B m false _ M.out).mono ?_); rintro e b5 ⟨rfl, hb⟩; refine sh3_ (blk_below (bk_ j) hb) (blk_below (bk_ l) hb) (below_step (bl2_ HB s u) hb) ?_; clear j l HB hb; intro j l HB))
      go_roundg G
      case measure => have := E.out; omega
      case rel => exact ⟨(wrap64 (m + 1)), (by first | rfl | (simp; done) | (simp [*]; done)), H', ⟨by have := E.out; omega⟩, ⟨by (with_reducible repeat (first | refine blk_drewN ?_ _ | refine blk_drew ?_ | refine blk_alloc ?_ _)); exact j.out⟩, ⟨by (with_reducible repeat (first | refine blk_drewN ?_ _ | refine blk_drew ?_ | refine blk_alloc ?_ _)); exact l.out⟩, ⟨bl2_ HB s u⟩⟩
    ·replace c7 := Bool.eq_false_iff.mpr c7
     subst c7
     have D : (impl_ArcsMeet.l0 G (wrap64 (m + 1)) x y z B) = some r := by rw [if_neg (show ¬ (false = true) by decide)] at H; exact H
     clear H
     have H := D
     clear D
     have H' := Aside0.mk H
     clear H
     have a7 := J.out
     have b0 := L.out
     have a4 := cf2_ j
     go_wp2_with (first | ((with_reducible refine gate_callee (f := 101) rfl ?_); refine gl_ 11 Tryz.func101 (impl_InArc.calls x y m false _ I.out) ?_; rintro e b6 ⟨rfl, hb⟩; refine ⟨_, rfl, sh3_ (blk_below (bk_ j) hb) (blk_below (bk_ l) hb) (below_step (bl2_ HB s u) hb) ?_⟩; clear j l HB hb; intro j l HB))
     go_roundg G
     case measure => have := E.out; omega
     case rel => exact ⟨(wrap64 (m + 1)), (by first | rfl | (simp; done) | (simp [*]; done)), H', ⟨by have := E.out; omega⟩, ⟨by (with_reducible repeat (first | refine blk_drewN ?_ _ | refine blk_drew ?_ | refine blk_alloc ?_ _)); exact j.out⟩, ⟨by (with_reducible repeat (first | refine blk_drewN ?_ _ | refine blk_drew ?_ | refine blk_alloc ?_ _)); exact l.out⟩, ⟨bl2_ HB s u⟩⟩
   ·rw [if_neg c5] at H
    have O : decide (m < 360) = false := decide_eq_false c5
    clear c5
    obtain rfl := Option.some.inj H
    go_wp2
    go_ret
    exact ⟨er_, bl2_ HB s u⟩

/-! ### impl_MayDisturb: function 77 -/
def impl_MayDisturb.l0 : Nat → Int → List S76 → Int → Int → Int → List S68 → List S70 → Int → Int → Int → Int → Int → List S76 → Int → Int → Int → Option (Bool)
 | 0, _, _, _, _, _, _, _, _, _, _, _, _, _, _, _, _ => none
 | k + 1, m, l, u, j, z, s, B, D, E, G, I, J, L, M, x, y => if j < u then (if 0 ≤ j then (if j < (l.length : Int) then (if 0 ≤ m then (if m < (s.length : Int) then (if ((rd_T76 l j).f0) = ((rd_T68 s m).f0) then ((impl_ArcsMeet.f k x y ((rd_T76 l j).f1.f0) ((rd_T76 l j).f1.f1)).bind fun O => (if O = true then (some true) else (impl_MayDisturb.l0 k m l u (wrap64 (j + 1)) z s B D E G I J L M x y))) else (impl_MayDisturb.l0 k m l u (wrap64 (j + 1)) z s B D E G I J L M x y)) else (none)) else (none)) else (none)) else (none)) else (some false)
def impl_MayDisturb.f (k : Nat) (l : Int) (D : List S68) (E : List S70) (m s u x y : Int) (j : List S76) (z B I : Int) : Option (Bool) := (impl_isSatellite.f l D E m s u x y j z B).bind fun J => (if J = true then ((impl_NodeAt.f l D E m s u x y j z B I).bind fun G => (impl_MayDisturb.l0 k B j (j.length : Int) 0 l D E m s u x y j z G.1 G.2)) else (some false))
def impl_MayDisturb.T7 : Bool × List (List Nat × List Nat) := (true, [([], []), ([0], [0]), ([], []), ([2], [2]), ([], []), ([3, 4], [3, 4]), ([5], [5]), ([6], [6]), ([1, 7], [1, 7]), ([8], [8]), ([9], [9]), ([9], [9]), ([11, 9], [9, 11]), ([10, 12, 9, 9], [9, 10, 12]), ([9, 13], [9, 13])])
def impl_MayDisturb.B7 : List Nat := [0, 1, 0, 4, 0, 28, 60, 124, 255, 511, 1023, 1023, 3071, 8191, 16383]
theorem impl_MayDisturb.tab7 : rtab .any (opsOf Tryz.f77 7) = impl_MayDisturb.T7 := by kernel_rfl
theorem impl_MayDisturb.bits7 : waitsOk impl_MayDisturb.T7.2 impl_MayDisturb.B7 = true := by kernel_rfl
theorem impl_MayDisturb.calls (k : Nat) (I : Int) (d2 : Option Addr) (b1 : Nat) (z : List S68) (b0 : Option Addr) (b2 : Nat) (E : List S70) (J L M O T : Int) (e2 : Option Addr) (b3 : Nat) (l : List S76) (U x a2 : Int) (r : Bool) (w : World) (h4 : Kd.C k68 w d2 z.length z) (h1 : z.length ≤ b1) (h5 : Kd.C k70 w b0 E.length E) (h2 : E.length ≤ b2) (h6 : Kd.C k76 w e2 l.length l) (h3 : l.length ≤ b3) (h : impl_MayDisturb.f k I z E J L M O T l U x a2 = some r) :
  Calls Tryz.prog 77 #[.agg #[iv_ I, .slice d2 z.length b1, .slice b0 E.length b2, iv_ J, iv_ L, iv_ M, iv_ O, iv_ T, .slice e2 l.length b3, iv_ U], iv_ x, iv_ a2] w fun e w' => e = .returned (.bool r) ∧ Below w.heap.size w w' := by
 have l6 := Tryz.underlying34
 have l7 := Tryz.underlying74
 have l8 := Tryz.underlying76
 have d8 := Aside0.mk h4
 have f9 := Aside0.mk h1
 clear h4 h1
 have g2 := Aside0.mk h5
 have g0 := Aside0.mk h2
 clear h5 h2
 have d9 := Aside0.mk h6
 have g1 := Aside0.mk h3
 clear h6 h3
 have HB := Aside0.mk (Below.refl w.heap.size w)
 have H := h
 clear h
 unfold impl_MayDisturb.f at H
 replace H := bs_ H
 obtain ⟨i2, A4, H⟩ := H
 by_cases c5 : i2 = true
 ·subst c5
  rw [if_pos rfl] at H
  replace H := bs_ H
  obtain ⟨⟨a9, d0⟩, A6, H⟩ := H
  dsimp only at H
  have H' := Aside0.mk H
  clear H
  go_enter Tryz.func77, Tryz.ntmps77
  go_wp2_with (first | ((with_reducible refine gd_ 3 ?_); refine bx_ 3 34 #[iv_ I, .slice d2 z.length b1, .slice b0 E.length b2, iv_ J, iv_ L, iv_ M, iv_ O, iv_ T, .slice e2 l.length b3, iv_ U] ?_; intro d4 hg w7 hbox hb; refine sh3_ (below_step (bl_ HB) hb) hbox (ge_ hg (bl_ HB)) ?_; clear HB hb hbox hg; intro HB j D; have j9 := cf10_ j) | ((with_reducible refine gate_callee (f := 85) rfl ?_); refine gl_ 12 Tryz.func85 (impl_isSatellite.calls I _ _ z _ _ E J L M O T _ _ l U x true _ (ck_ d8 HB) f9.out (ck_ g2 HB) g0.out (ck_ d9 HB) g1.out A4.out) ?_; rintro e w9 ⟨rfl, hb⟩; refine ⟨_, rfl, sh2_ (blk_below (bk_ j) hb) (below_step (bl1_ HB D) hb) ?_⟩; clear j HB hb; intro j HB; have j2 := cf10_ j) | ((with_reducible refine gate_callee (f := 86) rfl ?_); refine gl_ 17 Tryz.func86 (impl_NodeAt.calls I _ _ z _ _ E J L M O T _ _ l U x a2 a9 d0 _ (ck_ d8 HB) f9.out (ck_ g2 HB) g0.out (ck_ d9 HB) g1.out A6.out) ?_; rintro e l9 ⟨rfl, hb⟩; refine ⟨_, rfl, sh2_ (blk_below (bk_ j) hb) (below_step (bl1_ HB D) hb) ?_⟩; clear j HB hb; intro j HB) | ((with_reducible refine gd_ 7 ?_); refine bx_ 7 74 #[iv_ 0, iv_ 0] ?_; intro e1 hg m0 hbox hb; refine sh6_ (blk_below (bk_ j) hb) (below_step (bl1_ HB D) hb) hbox (ge_ hg (bl1_ HB D)) (nl_ hg (bk_ j)) (ng_ hg (bk_ j)) ?_; clear j HB hb hbox hg; intro j HB s G g3 h8; have k0 := h8.out; have k8 := g3.out; have j3 := cf2_ s; have j4 := cf10_ j))
  go_loopg [21] k (fun kq i4 w' => ∃ (m : Int), i4 = iv_ m ∧ Aside0 (impl_MayDisturb.l0 kq x l (l.length : Int) m I z E J L M O T l U a9 d0 = some r) ∧ Aside0 (kq ≤ k) ∧ Aside0 (w'.heap[d4]? = some (.cells #[iv_ I, (.slice d2 z.length b1), (.slice b0 E.length b2), iv_ J, iv_ L, iv_ M, iv_ O, iv_ T, (.slice e2 l.length b3), iv_ U] 34 (0, 0))) ∧ Aside0 (w'.heap[e1]? = some (.cells #[iv_ a9, iv_ d0] 74 (0, 0))) ∧ Aside0 (Below w.heap.size w w'))
  case atStart => exact ⟨(0), (by first | rfl | (simp; done) | (simp [*]; done)), H', ⟨Nat.le_refl _⟩, ⟨by (with_reducible repeat (first | refine blk_drewN ?_ _ | refine blk_drew ?_ | refine blk_alloc ?_ _)); refine blk_far ?_ g3.out _; (with_reducible repeat (first | refine blk_drewN ?_ _ | refine blk_drew ?_ | refine blk_alloc ?_ _)); refine blk_far ?_ g3.out _; (with_reducible repeat (first | refine blk_drewN ?_ _ | refine blk_drew ?_ | refine blk_alloc ?_ _)); exact j.out⟩, ⟨by (with_reducible repeat (first | refine blk_drewN ?_ _ | refine blk_drew ?_ | refine blk_alloc ?_ _)); refine blk_put (cs := #[iv_ a9, iv_ 0]) ?_ 1 _ rfl; (with_reducible repeat (first | refine blk_drewN ?_ _ | refine blk_drew ?_ | refine blk_alloc ?_ _)); refine blk_put (cs := #[iv_ 0, iv_ 0]) ?_ 0 _ rfl; (with_reducible repeat (first | refine blk_drewN ?_ _ | refine blk_drew ?_ | refine blk_alloc ?_ _)); exact s.out⟩, ⟨bl2_ HB D G⟩⟩
  case round =>
   clear H'
   obtain ⟨m, rfl, HA, f7, j, s, HB⟩ := hrel
   cases gk with
   | zero => exact absurd HA.out (by simp [impl_MayDisturb.l0])
   | succ k1 =>
    have H := HA.out
    clear HA
    simp only [impl_MayDisturb.l0] at H
    by_cases e0 : m < (l.length : Int)
    ·rw [if_pos e0] at H
     have h9 := decide_eq_true e0
     clear e0
     replace H := ifn_ H
     obtain ⟨g7, H⟩ := H
     have i8 := decide_eq_true g7
     clear g7
     replace H := ifn_ H
     obtain ⟨g8, H⟩ := H
     have i9 := decide_eq_true g8
     clear g8
     replace H := ifn_ H
     obtain ⟨g9, H⟩ := H
     have j0 := decide_eq_true g9
     clear g9
     replace H := ifn_ H
     obtain ⟨h0, H⟩ := H
     have j1 := decide_eq_true h0
     clear h0
     by_cases e6 : ((rd_T76 l m).f0) = ((rd_T68 z x).f0)
     ·rw [if_pos e6] at H
      obtain ⟨i0, i1⟩ := bt_ e6
      clear e6
      replace H := bs_ H
      obtain ⟨i3, g5, H⟩ := H
      by_cases f8 : i3 = true
      ·subst f8
       rw [if_pos rfl] at H
       obtain rfl := Option.some.inj H
       have b8 : 0 ≤ (m : Int) := od_
       have c0 : m < (l.length : Int) := od_
       obtain ⟨d3, e7, d5, d6, d7⟩ := at_T76 d9.out m b8 c0
       cases e7
       replace d5 := hbc_ HB d5
       replace d6 := hbc_ HB d6
       replace d7 := hbc_ HB d7
       replace b8 := eq_true b8
       replace c0 := eq_true c0
       try go_wp2_with (first | ((with_reducible refine gd_ 9 ?_); refine bx_ 9 76 #[iv_ 0, iv_ 0, iv_ 0] ?_; intro u hg f4 hbox hb; refine sh9_ (blk_below (bk_ j) hb) (blk_below (bk_ s) hb) (below_step (bl2_ HB D G) hb) hbox (ge_ hg (bl2_ HB D G)) (nl_ hg (bk_ j)) (ng_ hg (bk_ j)) (nl_ hg (bk_ s)) (ng_ hg (bk_ s)) ?_; clear j s HB hb hbox hg; intro j s HB y d1 X e4 Y e5; have k2 := e4.out; have k9 := X.out; have k3 := e5.out; have l1 := Y.out; have j5 := cf3_ y))
       have b4 : Aside0 ((((f4.setCell ⟨u, 0, none⟩ (iv_ ((rd_T76 l m).f0))).setCell ⟨u, 1, none⟩ (iv_ ((rd_T76 l m).f1.f0))).setCell ⟨u, 2, none⟩ (iv_ ((rd_T76 l m).f1.f1))).heap[d4]? = some (.cells #[iv_ I, .slice d2 z.length b1, .slice b0 E.length b2, iv_ J, iv_ L, iv_ M, iv_ O, iv_ T, .slice (some d3) l.length b3, iv_ U] 34 (0, 0))) := ⟨by (with_reducible repeat (first | refine blk_drewN ?_ _ | refine blk_drew ?_ | refine blk_alloc ?_ _)); refine blk_far ?_ X.out _; (with_reducible repeat (first | refine blk_drewN ?_ _ | refine blk_drew ?_ | refine blk_alloc ?_ _)); refine blk_far ?_ X.out _; (with_reducible repeat (first | refine blk_drewN ?_ _ | refine blk_drew ?_ | refine blk_alloc ?_ _)); refine blk_far ?_ X.out _; (with_reducible repeat (first | refine blk_drewN ?_ _ | refine blk_drew ?_ | refine blk_alloc ?_ _)); exact j.out⟩
       have b5 : Aside0 ((((f4.setCell ⟨u, 0, none⟩ (iv_ ((rd_T76 l m).f0))).setCell ⟨u, 1, none⟩ (iv_ ((rd_T76 l m).f1.f0))).setCell ⟨u, 2, none⟩ (iv_ ((rd_T76 l m).f1.f1))).heap[e1]? = some (.cells #[iv_ a9, iv_ d0] 74 (0, 0))) := ⟨by (with_reducible repeat (first | refine blk_drewN ?_ _ | refine blk_drew ?_ | refine blk_alloc ?_ _)); refine blk_far ?_ Y.out _; (with_reducible repeat (first | refine blk_drewN ?_ _ | refine blk_drew ?_ | refine blk_alloc ?_ _)); refine blk_far ?_ Y.out _; (with_reducible repeat (first | refine blk_drewN ?_ _ | refine blk_drew ?_ | refine blk_alloc ?_ _)); refine blk_far ?_ Y.out _; (with_reducible repeat (first | refine blk_drewN ?_ _ | refine blk_drew ?_ | refine blk_alloc ?_ _)); exact s.out⟩
       have b6 : Aside0 ((((f4.setCell ⟨u, 0, none⟩ (iv_ ((rd_T76 l m).f0))).setCell ⟨u, 1, none⟩ (iv_ ((rd_T76 l m).f1.f0))).setCell ⟨u, 2, none⟩ (iv_ ((rd_T76 l m).f1.f1))).heap[u]? = some (.cells #[iv_ ((rd_T76 l m).f0), iv_ ((rd_T76 l m).f1.f0), iv_ ((rd_T76 l m).f1.f1)] 76 (0, 0))) := ⟨by (with_reducible repeat (first | refine blk_drewN ?_ _ | refine blk_drew ?_ | refine blk_alloc ?_ _)); refine blk_put (cs := #[iv_ ((rd_T76 l m).f0), iv_ ((rd_T76 l m).f1.f0), iv_ 0]) ?_ 2 _ rfl; (with_reducible repeat (first | refine blk_drewN ?_ _ | refine blk_drew ?_ | refine blk_alloc ?_ _)); refine blk_put (cs := #[iv_ ((rd_T76 l m).f0), iv_ 0, iv_ 0]) ?_ 1 _ rfl; (with_reducible repeat (first | refine blk_drewN ?_ _ | refine blk_drew ?_ | refine blk_alloc ?_ _)); refine blk_put (cs := #[iv_ 0, iv_ 0, iv_ 0]) ?_ 0 _ rfl; (with_reducible repeat (first | refine blk_drewN ?_ _ | refine blk_drew ?_ | refine blk_alloc ?_ _)); exact y.out⟩
       have b7 : Aside0 (Below w.heap.size w (((f4.setCell ⟨u, 0, none⟩ (iv_ ((rd_T76 l m).f0))).setCell ⟨u, 1, none⟩ (iv_ ((rd_T76 l m).f1.f0))).setCell ⟨u, 2, none⟩ (iv_ ((rd_T76 l m).f1.f1)))) := ⟨bl3_ HB D G d1⟩
       (try clear j)
       (try clear s)
       (try clear y)
       (try clear HB)
       generalize (((f4.setCell ⟨u, 0, none⟩ (iv_ ((rd_T76 l m).f0))).setCell ⟨u, 1, none⟩ (iv_ ((rd_T76 l m).f1.f0))).setCell ⟨u, 2, none⟩ (iv_ ((rd_T76 l m).f1.f1))) = i5 at b4 b5 b6 b7 ⊢
       have j := b4
       have s := b5
       have y := b6
       have HB := b7
       clear b4 b5 b6 b7
       refine sh4_ (blk_drew j.out) (blk_drew s.out) (blk_drew y.out) (below_drew1 HB.out) ?_
       clear j s y HB
       intro j s y HB
       have b9 : 0 ≤ (x : Int) := od_
       have c1 : x < (z.length : Int) := od_
       obtain ⟨B, e8, Z, a0, a3, a4⟩ := at_T68 d8.out x b9 c1
       have a8 := a4
       have a7 := a3
       have a6 := a0
       have a5 := Z
       cases e8
       replace Z := hbc_ HB Z
       replace a0 := hbc_ HB a0
       replace a3 := hbc_ HB a3
       replace a4 := hbc_ HB a4
       replace b9 := eq_true b9
       replace c1 := eq_true c1
       refine start_ (n := 15) (S := fun w' => Ck3 w' u (iv_ ((rd_T76 l m).f0)) (iv_ ((rd_T76 l m).f1.f0)) (iv_ ((rd_T76 l m).f1.f1)) (Ck10 w' d4 (iv_ I) (.slice (some B) z.length b1) (.slice b0 E.length b2) (iv_ J) (iv_ L) (iv_ M) (iv_ O) (iv_ T) (.slice (some d3) l.length b3) (iv_ U) (Ck2 w' e1 (iv_ a9) (iv_ d0) (w'.cell? (B.add ((x).toNat * 4)) = some (iv_ ((rd_T68 z x).f0)) ∧ w'.cell? ⟨(B.add ((x).toNat * 4)).block, (B.add ((x).toNat * 4)).off + 1, none⟩ = some (iv_ ((rd_T68 z x).f1)) ∧ w'.cell? ⟨(B.add ((x).toNat * 4)).block, (B.add ((x).toNat * 4)).off + 2, none⟩ = some (iv_ ((rd_T68 z x).f2)) ∧ w'.cell? ⟨(B.add ((x).toNat * 4)).block, (B.add ((x).toNat * 4)).off + 3, none⟩ = some (iv_ ((rd_T68 z x).f3)))))) (ds := []) (bo_ 15 0) (by kernel_rfl) rfl rfl ⟨(bc_ y 0 rfl), (bc_ y 1 rfl), (bc_ y 2 rfl), (bc_ j 0 rfl), (bc_ j 1 rfl), (bc_ j 2 rfl), (bc_ j 3 rfl), (bc_ j 4 rfl), (bc_ j 5 rfl), (bc_ j 6 rfl), (bc_ j 7 rfl), (bc_ j 8 rfl), (bc_ j 9 rfl), (bc_ s 0 rfl), (bc_ s 1 rfl), ((HB.out.cell (World.block_lt_of_cell? w _ a5)).trans a5), ((HB.out.cell (World.block_lt_of_cell? w _ a6)).trans a6), ((HB.out.cell (World.block_lt_of_cell? w _ a7)).trans a7), ((HB.out.cell (World.block_lt_of_cell? w _ a8)).trans a8)⟩ (fun hHeld => ?_); refine with_tabW impl_MayDisturb.tab7 impl_MayDisturb.bits7 (fun HT_ HW_ => ?_)
       generalize i5.drew = m1 at j s y HB Z a0 a3 a4 hHeld ⊢
       refine pur_ 0 (bo_ 15 1) (some 25) HT_ ?_
       refine pur_ 2 (bo_ 15 5) (some 27) HT_ ?_
       refine pur_ 4 (bo_ 15 21) (some 29) HT_ ?_
       refine tak_ 1 (bo_ 15 23) (some 26) HT_ HW_ hHeld ?_
       refine tak_ 3 (bo_ 15 31) (some 28) HT_ HW_ hHeld ?_
       refine pur_ 5 (bo_ 15 63) (some 30) HT_ ?_
       refine pur_ 6 (bo_ 15 127) (some 31) HT_ ?_
       refine tak_ 7 (bo_ 15 255) (some 32) HT_ HW_ hHeld ?_
       refine pur_ 8 (bo_ 15 511) (some 33) HT_ ?_
       refine pur_ 9 (bo_ 15 1023) (some 34) HT_ ?_
       refine pur_ 11 (bo_ 15 3071) (some 36) HT_ ?_
       refine tak_ 10 (bo_ 15 4095) (some 35) HT_ HW_ hHeld ?_
       refine tak_ 12 (bo_ 15 8191) (some 37) HT_ HW_ hHeld ?_
       refine onc_ 13 (bo_ 15 16383) (some 38) HT_ Tryz.func87 (impl_ArcsMeet.calls k1 a9 d0 ((rd_T76 l m).f1.f0) ((rd_T76 l m).f1.f1) true _ g5.out) ?_
       rintro e m2 ⟨rfl, hb⟩
       refine sh4_ (blk_below (bk_ j) hb) (blk_below (bk_ s) hb) (blk_below (bk_ y) hb) (below_step (bl3_ HB D G d1) hb) ?_
       clear j s y HB hb
       intro j s y HB
       refine ⟨_, _, rfl, ⟨(bc_ y 0 rfl), (bc_ y 1 rfl), (bc_ y 2 rfl), (bc_ j 0 rfl), (bc_ j 1 rfl), (bc_ j 2 rfl), (bc_ j 3 rfl), (bc_ j 4 rfl), (bc_ j 5 rfl), (bc_ j 6 rfl), (bc_ j 7 rfl), (bc_ j 8 rfl), (bc_ j 9 rfl), (bc_ s 0 rfl), (bc_ s 1 rfl), ((HB.out.cell (World.block_lt_of_cell? w _ a5)).trans a5), ((HB.out.cell (World.block_lt_of_cell? w _ a6)).trans a6), ((HB.out.cell (World.block_lt_of_cell? w _ a7)).trans a7), ((HB.out.cell (World.block_lt_of_cell? w _ a8)).trans a8)⟩, pt_, fun hHeld => ?_⟩
       refine pur_ 14 (bo_ 15 32767) (some 39) HT_ ?_
       refine done_ (done_of HT_.out (by kernel_rfl)) ?_
       try go_wp2
       go_ret
       exact ⟨er_, bl3_ HB D G d1⟩
      ·replace f8 := Bool.eq_false_iff.mpr f8
       subst f8
       have H1 : (impl_MayDisturb.l0 k1 x l (l.length : Int) (wrap64 (m + 1)) I z E J L M O T l U a9 d0) = some r := by rw [if_neg (show ¬ (false = true) by decide)] at H; exact H
       clear H
       have H := H1
       clear H1
       have H' := Aside0.mk H
       clear H
       have b8 : 0 ≤ (m : Int) := od_
       have c0 : m < (l.length : Int) := od_
       obtain ⟨d3, e7, d5, d6, d7⟩ := at_T76 d9.out m b8 c0
       cases e7
       replace d5 := hbc_ HB d5
       replace d6 := hbc_ HB d6
       replace d7 := hbc_ HB d7
       replace b8 := eq_true b8
       replace c0 := eq_true c0
       try go_wp2_with (first | ((with_reducible refine gd_ 9 ?_); refine bx_ 9 76 #[iv_ 0, iv_ 0, iv_ 0] ?_; intro u hg f5 hbox hb; refine sh9_ (blk_below (bk_ j) hb) (blk_below (bk_ s) hb) (below_step (bl2_ HB D G) hb) hbox (ge_ hg (bl2_ HB D G)) (nl_ hg (bk_ j)) (ng_ hg (bk_ j)) (nl_ hg (bk_ s)) (ng_ hg (bk_ s)) ?_; clear j s HB hb hbox hg; intro j s HB y d1 X e4 Y e5; have k4 := e4.out; have l2 := X.out; have k5 := e5.out; have l3 := Y.out; have j6 := cf3_ y))
       have b4 : Aside0 ((((f5.setCell ⟨u, 0, none⟩ (iv_ ((rd_T76 l m).f0))).setCell ⟨u, 1, none⟩ (iv_ ((rd_T76 l m).f1.f0))).setCell ⟨u, 2, none⟩ (iv_ ((rd_T76 l m).f1.f1))).heap[d4]? = some (.cells #[iv_ I, .slice d2 z.length b1, .slice b0 E.length b2, iv_ J, iv_ L, iv_ M, iv_ O, iv_ T, .slice (some d3) l.length b3, iv_ U] 34 (0, 0))) := ⟨by (with_reducible repeat (first | refine blk_drewN ?_ _ | refine blk_drew ?_ | refine blk_alloc ?_ _)); refine blk_far ?_ X.out _; (with_reducible repeat (first | refine blk_drewN ?_ _ | refine blk_drew ?_ | refine blk_alloc ?_ _)); refine blk_far ?_ X.out _; (with_reducible repeat (first | refine blk_drewN ?_ _ | refine blk_drew ?_ | refine blk_alloc ?_ _)); refine blk_far ?_ X.out _; (with_reducible repeat (first | refine blk_drewN ?_ _ | refine blk_drew ?_ | refine blk_alloc ?_ _)); exact j.out⟩
       have b5 : Aside0 ((((f5.setCell ⟨u, 0, none⟩ (iv_ ((rd_T76 l m).f0))).setCell ⟨u, 1, none⟩ (iv_ ((rd_T76 l m).f1.f0))).setCell ⟨u, 2, none⟩ (iv_ ((rd_T76 l m).f1.f1))).heap[e1]? = some (.cells #[iv_ a9, iv_ d0] 74 (0, 0))) := ⟨by (with_reducible repeat (first | refine blk_drewN ?_ _ | refine blk_drew ?_ | refine blk_alloc ?_ _)); refine blk_far ?_ Y.out _; (with_reducible repeat (first | refine blk_drewN ?_ _ | refine blk_drew ?_ | refine blk_alloc ?_ _)); refine blk_far ?_ Y.out _; (with_reducible repeat (first | refine blk_drewN ?_ _ | refine blk_drew ?_ | refine blk_alloc ?_ _)); refine blk_far ?_ Y.out _; (with_reducible repeat (first | refine blk_drewN ?_ _ | refine blk_drew ?_ | refine blk_alloc ?_ _)); exact s.out⟩
       have b6 : Aside0 ((((f5.setCell ⟨u, 0, none⟩ (iv_ ((rd_T76 l m).f0))).setCell ⟨u, 1, none⟩ (iv_ ((rd_T76 l m).f1.f0))).setCell ⟨u, 2, none⟩ (iv_ ((rd_T76 l m).f1.f1))).heap[u]? = some (.cells #[iv_ ((rd_T76 l m).f0), iv_ ((rd_T76 l m).f1.f0), iv_ ((rd_T76 l m).f1.f1)] 76 (0, 0))) := ⟨by (with_reducible repeat (first | refine blk_drewN ?_ _ | refine blk_drew ?_ | refine blk_alloc ?_ _)); refine blk_put (cs := #[iv_ ((rd_T76 l m).f0), iv_ ((rd_T76 l m).f1.f0), iv_ 0]) ?_ 2 _ rfl; (with_reducible repeat (first | refine blk_drewN ?_ _ | refine blk_drew ?_ | refine blk_alloc ?_ _)); refine blk_put (cs := #[iv_ ((rd_T76 l m).f0), iv_ 0, iv_ 0]) ?_ 1 _ rfl; (with_reducible repeat (first | refine blk_drewN ?_ _ | refine blk_drew ?_ | refine blk_alloc ?_ _)); refine blk_put (cs := #[iv_ 0, iv_ 0, iv_ 0]) ?_ 0 _ rfl; (with_reducible repeat (first | refine blk_drewN ?_ _ | refine blk_drew ?_ | refine blk_alloc ?_ _)); exact y.out⟩
       have b7 : Aside0 (Below w.heap.size w (((f5.setCell ⟨u, 0, none⟩ (iv_ ((rd_T76 l m).f0))).setCell ⟨u, 1, none⟩ (iv_ ((rd_T76 l m).f1.f0))).setCell ⟨u, 2, none⟩ (iv_ ((rd_T76 l m).f1.f1)))) := ⟨bl3_ HB D G d1⟩
       (try clear j)
       (try clear s)
       (try clear y)
       (try clear HB)
       generalize (((f5.setCell ⟨u, 0, none⟩ (iv_ ((rd_T76 l m).f0))).setCell ⟨u, 1, none⟩ (iv_ ((rd_T76 l m).f1.f0))).setCell ⟨u, 2, none⟩ (iv_ ((rd_T76 l m).f1.f1))) = i6 at b4 b5 b6 b7 ⊢
       have j := b4
       have s := b5
       have y := b6
       have HB := b7
       clear b4 b5 b6 b7
       refine sh4_ (blk_drew j.out) (blk_drew s.out) (blk_drew y.out) (below_drew1 HB.out) ?_
       clear j s y HB
       intro j s y HB
       have b9 : 0 ≤ (x : Int) := od_
       have c1 : x < (z.length : Int) := od_
       obtain ⟨B, e8, Z, a0, a3, a4⟩ := at_T68 d8.out x b9 c1
       have a8 := a4
       have a7 := a3
       have a6 := a0
       have a5 := Z
       cases e8
       replace Z := hbc_ HB Z
       replace a0 := hbc_ HB a0
       replace a3 := hbc_ HB a3
       replace a4 := hbc_ HB a4
       replace b9 := eq_true b9
       replace c1 := eq_true c1
       refine start_ (n := 15) (S := fun w' => Ck3 w' u (iv_ ((rd_T76 l m).f0)) (iv_ ((rd_T76 l m).f1.f0)) (iv_ ((rd_T76 l m).f1.f1)) (Ck10 w' d4 (iv_ I) (.slice (some B) z.length b1) (.slice b0 E.length b2) (iv_ J) (iv_ L) (iv_ M) (iv_ O) (iv_ T) (.slice (some d3) l.length b3) (iv_ U) (Ck2 w' e1 (iv_ a9) (iv_ d0) (w'.cell? (B.add ((x).toNat * 4)) = some (iv_ ((rd_T68 z x).f0)) ∧ w'.cell? ⟨(B.add ((x).toNat * 4)).block, (B.add ((x).toNat * 4)).off + 1, none⟩ = some (iv_ ((rd_T68 z x).f1)) ∧ w'.cell? ⟨(B.add ((x).toNat * 4)).block, (B.add ((x).toNat * 4)).off + 2, none⟩ = some (iv_ ((rd_T68 z x).f2)) ∧ w'.cell? ⟨(B.add ((x).toNat * 4)).block, (B.add ((x).toNat * 4)).off + 3, none⟩ = some (iv_ ((rd_T68 z x).f3)))))) (ds := []) (bo_ 15 0) (by kernel_rfl) rfl rfl ⟨(bc_ y 0 rfl), (bc_ y 1 rfl), (bc_ y 2 rfl), (bc_ j 0 rfl), (bc_ j 1 rfl), (bc_ j 2 rfl), (bc_ j 3 rfl), (bc_ j 4 rfl), (bc_ j 5 rfl), (bc_ j 6 rfl), (bc_ j 7 rfl), (bc_ j 8 rfl), (bc_ j 9 rfl), (bc_ s 0 rfl), (bc_ s 1 rfl), ((HB.out.cell (World.block_lt_of_cell? w _ a5)).trans a5), ((HB.out.cell (World.block_lt_of_cell? w _ a6)).trans a6), ((HB.out.cell (World.block_lt_of_cell? w _ a7)).trans a7), ((HB.out.cell (World.block_lt_of_cell? w _ a8)).trans a8)⟩ (fun hHeld => ?_); refine with_tabW impl_MayDisturb.tab7 impl_MayDisturb.bits7 (fun HT_ HW_ => ?_)
       generalize i6.drew = m3 at j s y HB Z a0 a3 a4 hHeld ⊢
       refine pur_ 0 (bo_ 15 1) (some 25) HT_ ?_
       refine pur_ 2 (bo_ 15 5) (some 27) HT_ ?_
       refine pur_ 4 (bo_ 15 21) (some 29) HT_ ?_
       refine tak_ 1 (bo_ 15 23) (some 26) HT_ HW_ hHeld ?_
       refine tak_ 3 (bo_ 15 31) (some 28) HT_ HW_ hHeld ?_
       refine pur_ 5 (bo_ 15 63) (some 30) HT_ ?_
       refine pur_ 6 (bo_ 15 127) (some 31) HT_ ?_
       refine tak_ 7 (bo_ 15 255) (some 32) HT_ HW_ hHeld ?_
       refine pur_ 8 (bo_ 15 511) (some 33) HT_ ?_
       refine pur_ 9 (bo_ 15 1023) (some 34) HT_ ?_
       refine pur_ 11 (bo_ 15 3071) (some 36) HT_ ?_
       refine tak_ 10 (bo_ 15 4095) (some 35) HT_ HW_ hHeld ?_
       refine tak_ 12 (bo_ 15 8191) (some 37) HT_ HW_ hHeld ?_
       refine onc_ 13 (bo_ 15 16383) (some 38) HT_ Tryz.func87 (impl_ArcsMeet.calls k1 a9 d0 ((rd_T76 l m).f1.f0) ((rd_T76 l m).f1.f1) false _ g5.out) ?_
       rintro e m4 ⟨rfl, hb⟩
       refine sh4_ (blk_below (bk_ j) hb) (blk_below (bk_ s) hb) (blk_below (bk_ y) hb) (below_step (bl3_ HB D G d1) hb) ?_
       clear j s y HB hb
       intro j s y HB
       refine ⟨_, _, rfl, ⟨(bc_ y 0 rfl), (bc_ y 1 rfl), (bc_ y 2 rfl), (bc_ j 0 rfl), (bc_ j 1 rfl), (bc_ j 2 rfl), (bc_ j 3 rfl), (bc_ j 4 rfl), (bc_ j 5 rfl), (bc_ j 6 rfl), (bc_ j 7 rfl), (bc_ j 8 rfl), (bc_ j 9 rfl), (bc_ s 0 rfl), (bc_ s 1 rfl), ((HB.out.cell (World.block_lt_of_cell? w _ a5)).trans a5), ((HB.out.cell (World.block_lt_of_cell? w _ a6)).trans a6), ((HB.out.cell (World.block_lt_of_cell? w _ a7)).trans a7), ((HB.out.cell (World.block_lt_of_cell? w _ a8)).trans a8)⟩, pt_, fun hHeld => ?_⟩
       refine pur_ 14 (bo_ 15 32767) (some 39) HT_ ?_
       refine done_ (done_of HT_.out (by kernel_rfl)) ?_
       try go_wp2
       go_roundg k1
       case measure => have := f7.out; omega
       case rel => exact ⟨(wrap64 (m + 1)), (by first | rfl | (simp; done) | (simp [*]; done)), H', ⟨by have := f7.out; omega⟩, ⟨by (with_reducible repeat (first | refine blk_drewN ?_ _ | refine blk_drew ?_ | refine blk_alloc ?_ _)); exact j.out⟩, ⟨by (with_reducible repeat (first | refine blk_drewN ?_ _ | refine blk_drew ?_ | refine blk_alloc ?_ _)); exact s.out⟩, ⟨bl3_ HB D G d1⟩⟩
     ·rw [if_neg e6] at H
      obtain ⟨i0, i1⟩ := bn_ e6
      have H' := Aside0.mk H
      clear H
      have b8 : 0 ≤ (m : Int) := od_
      have c0 : m < (l.length : Int) := od_
      obtain ⟨d3, e7, d5, d6, d7⟩ := at_T76 d9.out m b8 c0
      cases e7
      replace d5 := hbc_ HB d5
      replace d6 := hbc_ HB d6
      replace d7 := hbc_ HB d7
      replace b8 := eq_true b8
      replace c0 := eq_true c0
      try go_wp2_with (first | ((with_reducible refine gd_ 9 ?_); refine bx_ 9 76 #[iv_ 0, iv_ 0, iv_ 0] ?_; intro u hg f6 hbox hb; refine sh9_ (blk_below (bk_ j) hb) (blk_below (bk_ s) hb) (below_step (bl2_ HB D G) hb) hbox (ge_ hg (bl2_ HB D G)) (nl_ hg (bk_ j)) (ng_ hg (bk_ j)) (nl_ hg (bk_ s)) (ng_ hg (bk_ s)) ?_; clear j s HB hb hbox hg; intro j s HB y d1 X e4 Y e5; have k6 := e4.out; have l4 := X.out; have k7 := e5.out; have l5 := Y.out; have j7 := cf3_ y))
      have b4 : Aside0 ((((f6.setCell ⟨u, 0, none⟩ (iv_ ((rd_T76 l m).f0))).setCell ⟨u, 1, none⟩ (iv_ ((rd_T76 l m).f1.f0))).setCell ⟨u, 2, none⟩ (iv_ ((rd_T76 l m).f1.f1))).heap[d4]? = some (.cells #[iv_ I, .slice d2 z.length b1, .slice b0 E.length b2, iv_ J, iv_ L, iv_ M, iv_ O, iv_ T, .slice (some d3) l.length b3, iv_ U] 34 (0, 0))) := ⟨by (with_reducible repeat (first | refine blk_drewN ?_ _ | refine blk_drew ?_ | refine blk_alloc ?_ _)); refine blk_far ?_ X.out _; (with_reducible repeat (first | refine blk_drewN ?_ _ | refine blk_drew ?_ | refine blk_alloc ?_ _)); refine blk_far ?_ X.out _; (with_reducible repeat (first | refine blk_drewN ?_ _ | refine blk_drew ?_ | refine blk_alloc ?_ _)); refine blk_far ?_ X.out _; (with_reducible repeat (first | refine blk_drewN ?_ _ | refine blk_drew ?_ | refine blk_alloc ?_ _)); exact j.out⟩
      have b5 : Aside0 ((((f6.setCell ⟨u, 0, none⟩ (iv_ ((rd_T76 l m).f0))).setCell ⟨u, 1, none⟩ (iv_ ((rd_T76 l m).f1.f0))).setCell ⟨u, 2, none⟩ (iv_ ((rd_T76 l m).f1.f1))).heap[e1]? = some (.cells #[iv_ a9, iv_ d0] 74 (0, 0))) := ⟨by (with_reducible repeat (first | refine blk_drewN ?_ _ | refine blk_drew ?_ | refine blk_alloc ?_ _)); refine blk_far ?_ Y.out _; (with_reducible repeat (first | refine blk_drewN ?_ _ | refine blk_drew ?_ | refine blk_alloc ?_ _)); refine blk_far ?_ Y.out _; (with_reducible repeat (first | refine blk_drewN ?_ _ | refine blk_drew ?_ | refine blk_alloc ?_ _)); refine blk_far ?_ Y.out _; (with_reducible repeat (first | refine blk_drewN ?_ _ | refine blk_drew ?_ | refine blk_alloc ?_ _)); exact s.out⟩
      have b6 : Aside0 ((((f6.setCell ⟨u, 0, none⟩ (iv_ ((rd_T76 l m).f0))).setCell ⟨u, 1, none⟩ (iv_ ((rd_T76 l m).f1.f0))).setCell ⟨u, 2, none⟩ (iv_ ((rd_T76 l m).f1.f1))).heap[u]? = some (.cells #[iv_ ((rd_T76 l m).f0), iv_ ((rd_T76 l m).f1.f0), iv_ ((rd_T76 l m).f1.f1)] 76 (0, 0))) := ⟨by (with_reducible repeat (first | refine blk_drewN ?_ _ | refine blk_drew ?_ | refine blk_alloc ?_ _)); refine blk_put (cs := #[iv_ ((rd_T76 l m).f0), iv_ ((rd_T76 l m).f1.f0), iv_ 0]) ?_ 2 _ rfl; (with_reducible repeat (first | refine blk_drewN ?_ _ | refine blk_drew ?_ | refine blk_alloc ?_ _)); refine blk_put (cs := #[iv_ ((rd_T76 l m).f0), iv_ 0, iv_ 0]) ?_ 1 _ rfl; (with_reducible repeat (first | refine blk_drewN ?_ _ | refine blk_drew ?_ | refine blk_alloc ?_ _)); refine blk_put (cs := #[iv_ 0, iv_ 0, iv_ 0]) ?_ 0 _ rfl; (with_reducible repeat (first | refine blk_drewN ?_ _ | refine blk_drew ?_ | refine blk_alloc ?_ _)); exact y.out⟩
      have b7 : Aside0 (Below w.heap.size w (((f6.setCell ⟨u, 0, none⟩ (iv_ ((rd_T76 l m).f0))).setCell ⟨u, 1, none⟩ (iv_ ((rd_T76 l m).f1.f0))).setCell ⟨u, 2, none⟩ (iv_ ((rd_T76 l m).f1.f1)))) := ⟨bl3_ HB D G d1⟩
      (try clear j)
      (try clear s)
      (try clear y)
      (try clear HB)
      generalize (((f6.setCell ⟨u, 0, none⟩ (iv_ ((rd_T76 l m).f0))).setCell ⟨u, 1, none⟩ (iv_ ((rd_T76 l m).f1.f0))).setCell ⟨u, 2, none⟩ (iv_ ((rd_T76 l m).f1.f1))) = i7 at b4 b5 b6 b7 ⊢
      have j := b4
      have s := b5
      have y := b6
      have HB := b7
      clear b4 b5 b6 b7
      refine sh4_ (blk_drew j.out) (blk_drew s.out) (blk_drew y.out) (below_drew1 HB.out) ?_
      clear j s y HB
      intro j s y HB
      have b9 : 0 ≤ (x : Int) := od_
      have c1 : x < (z.length : Int) := od_
      obtain ⟨B, e8, Z, a0, a3, a4⟩ := at_T68 d8.out x b9 c1
      have a8 := a4
      have a7 := a3
      have a6 := a0
      have a5 := Z
      cases e8
      replace Z := hbc_ HB Z
      replace a0 := hbc_ HB a0
      replace a3 := hbc_ HB a3
      replace a4 := hbc_ HB a4
      replace b9 := eq_true b9
      replace c1 := eq_true c1
      refine start_ (n := 15) (S := fun w' => Ck3 w' u (iv_ ((rd_T76 l m).f0)) (iv_ ((rd_T76 l m).f1.f0)) (iv_ ((rd_T76 l m).f1.f1)) (Ck10 w' d4 (iv_ I) (.slice (some B) z.length b1) (.slice b0 E.length b2) (iv_ J) (iv_ L) (iv_ M) (iv_ O) (iv_ T) (.slice (some d3) l.length b3) (iv_ U) (w'.cell? (B.add ((x).toNat * 4)) = some (iv_ ((rd_T68 z x).f0)) ∧ w'.cell? ⟨(B.add ((x).toNat * 4)).block, (B.add ((x).toNat * 4)).off + 1, none⟩ = some (iv_ ((rd_T68 z x).f1)) ∧ w'.cell? ⟨(B.add ((x).toNat * 4)).block, (B.add ((x).toNat * 4)).off + 2, none⟩ = some (iv_ ((rd_T68 z x).f2)) ∧ w'.cell? ⟨(B.add ((x).toNat * 4)).block, (B.add ((x).toNat * 4)).off + 3, none⟩ = some (iv_ ((rd_T68 z x).f3))))) (ds := []) (bo_ 15 0) (by kernel_rfl) rfl rfl ⟨(bc_ y 0 rfl), (bc_ y 1 rfl), (bc_ y 2 rfl), (bc_ j 0 rfl), (bc_ j 1 rfl), (bc_ j 2 rfl), (bc_ j 3 rfl), (bc_ j 4 rfl), (bc_ j 5 rfl), (bc_ j 6 rfl), (bc_ j 7 rfl), (bc_ j 8 rfl), (bc_ j 9 rfl), ((HB.out.cell (World.block_lt_of_cell? w _ a5)).trans a5), ((HB.out.cell (World.block_lt_of_cell? w _ a6)).trans a6), ((HB.out.cell (World.block_lt_of_cell? w _ a7)).trans a7), ((HB.out.cell (World.block_lt_of_cell? w _ a8)).trans a8)⟩ (fun hHeld => ?_); refine with_tabW impl_MayDisturb.tab7 impl_MayDisturb.bits7 (fun HT_ HW_ => ?_)
      generalize i7.drew = m5 at j s y HB Z a0 a3 a4 hHeld ⊢
      refine pur_ 0 (bo_ 15 1) (some 25) HT_ ?_
      refine pur_ 2 (bo_ 15 5) (some 27) HT_ ?_
      refine pur_ 4 (bo_ 15 21) (some 29) HT_ ?_
      refine tak_ 1 (bo_ 15 23) (some 26) HT_ HW_ hHeld ?_
      refine tak_ 3 (bo_ 15 31) (some 28) HT_ HW_ hHeld ?_
      refine pur_ 5 (bo_ 15 63) (some 30) HT_ ?_
      refine pur_ 6 (bo_ 15 127) (some 31) HT_ ?_
      refine tak_ 7 (bo_ 15 255) (some 32) HT_ HW_ hHeld ?_
      refine pur_ 8 (bo_ 15 511) (some 33) HT_ ?_
      refine pur_ 9 (bo_ 15 1023) (some 34) HT_ ?_
      refine pure_ (i := 10) (N := some 35) (v := undef) (a' := ?_) (bo_ 15 2047) rfl rfl (any_of HT_.out (by kernel_rfl)) (fun _ _ _ h => h) (Or.inr ⟨by rfl, rfl⟩) ?_ ?_
      rotate_left
      ·simp only [Act.put, List.setIfInBounds_toArray, List.set_cons_zero, List.set_cons_succ, i64_w, i32_w]
       rfl
      refine pure_ (i := 11) (N := some 36) (v := undef) (a' := ?_) (bo_ 15 4095) rfl rfl (any_of HT_.out (by kernel_rfl)) (fun _ _ _ h => h) (Or.inr ⟨by rfl, rfl⟩) ?_ ?_
      rotate_left
      ·simp only [Act.put, List.setIfInBounds_toArray, List.set_cons_zero, List.set_cons_succ, i64_w, i32_w]
       rfl
      refine pure_ (i := 12) (N := some 37) (v := undef) (a' := ?_) (bo_ 15 8191) rfl rfl (any_of HT_.out (by kernel_rfl)) (fun _ _ _ h => h) (Or.inr ⟨by rfl, rfl⟩) ?_ ?_
      rotate_left
      ·simp only [Act.put, List.setIfInBounds_toArray, List.set_cons_zero, List.set_cons_succ, i64_w, i32_w]
       rfl
      refine pure_ (i := 13) (N := some 38) (v := undef) (a' := ?_) (bo_ 15 16383) rfl rfl (any_of HT_.out (by kernel_rfl)) (fun _ _ _ h => h) (Or.inr ⟨by rfl, rfl⟩) ?_ ?_
      rotate_left
      ·simp only [Act.put, List.setIfInBounds_toArray, List.set_cons_zero, List.set_cons_succ, i64_w, i32_w]
       rfl
      refine pur_ 14 (bo_ 15 32767) (some 39) HT_ ?_
      refine done_ (done_of HT_.out (by kernel_rfl)) ?_
      try go_wp2
      go_roundg k1
      case measure => have := f7.out; omega
      case rel => exact ⟨(wrap64 (m + 1)), (by first | rfl | (simp; done) | (simp [*]; done)), H', ⟨by have := f7.out; omega⟩, ⟨by (with_reducible repeat (first | refine blk_drewN ?_ _ | refine blk_drew ?_ | refine blk_alloc ?_ _)); exact j.out⟩, ⟨by (with_reducible repeat (first | refine blk_drewN ?_ _ | refine blk_drew ?_ | refine blk_alloc ?_ _)); exact s.out⟩, ⟨bl3_ HB D G d1⟩⟩
    ·rw [if_neg e0] at H
     have h9 : decide (m < (l.length : Int)) = false := decide_eq_false e0
     clear e0
     obtain rfl := Option.some.inj H
     go_wp2
     go_ret
     exact ⟨er_, bl2_ HB D G⟩
 ·replace c5 := Bool.eq_false_iff.mpr c5
  subst c5
  have H1 : (some false) = some r := by rw [if_neg (show ¬ (false = true) by decide)] at H; exact H
  clear H
  have H := H1
  clear H1
  obtain rfl := Option.some.inj H
  go_enter Tryz.func77, Tryz.ntmps77
  go_wp2_with (first | ((with_reducible refine gd_ 3 ?_); refine bx_ 3 34 #[iv_ I, .slice d2 z.length b1, .slice b0 E.length b2, iv_ J, iv_ L, iv_ M, iv_ O, iv_ T, .slice e2 l.length b3, iv_ U] ?_; intro d4 hg m6 hbox hb; refine sh3_ (below_step (bl_ HB) hb) hbox (ge_ hg (bl_ HB)) ?_; clear HB hb hbox hg; intro HB j D; have j8 := cf10_ j) | ((with_reducible refine gate_callee (f := 85) rfl ?_); refine gl_ 12 Tryz.func85 (impl_isSatellite.calls I _ _ z _ _ E J L M O T _ _ l U x false _ (ck_ d8 HB) f9.out (ck_ g2 HB) g0.out (ck_ d9 HB) g1.out A4.out) ?_; rintro e m7 ⟨rfl, hb⟩; refine ⟨_, rfl, sh2_ (blk_below (bk_ j) hb) (below_step (bl1_ HB D) hb) ?_⟩; clear j HB hb; intro j HB))
  go_ret
  exact ⟨er_, bl1_ HB D⟩

/-! ### impl_QuietSpans_1: function 76 -/
def impl_QuietSpans_1.f (k : Nat) (j l : Int) (D : List S68) (E : List S70) (m s u x y : Int) (G : List S76) (z B : Int) : Option (Bool) := (impl_MayDisturb.f k l D E m s u x y G z B j).bind fun I => (some I)
theorem impl_QuietSpans_1.calls (k : Nat) (T x : Int) (J : Option Addr) (U : Nat) (m : List S68) (L : Option Addr) (X : Nat) (s : List S70) (y z B D E : Int) (M : Option Addr) (Y : Nat) (u : List S76) (G I : Int) (r : Bool) (w : World) (j : Nat) (l : w.heap[j]? = some (.cells #[iv_ x, .slice J m.length U, .slice L s.length X, iv_ y, iv_ z, iv_ B, iv_ D, iv_ E, .slice M u.length Y, iv_ G] 34 (0, 0))) (O : Nat) (b4 : w.heap[O]? = some (.cells #[iv_ I] 3 (0, 0))) (a4 : Kd.C k68 w J m.length m) (Z : m.length ≤ U) (a5 : Kd.C k70 w L s.length s) (a1 : s.length ≤ X) (a6 : Kd.C k76 w M u.length u) (a3 : u.length ≤ Y) (h : impl_QuietSpans_1.f k T x m s y z B D E u G I = some r) :
  Calls Tryz.prog 76 #[iv_ T, .pointer (some ⟨j, 0, none⟩), .pointer (some ⟨O, 0, none⟩)] w fun e w' => e = .returned (.bool r) ∧ Below w.heap.size w w' := by
 have b6 : w.cell? ⟨j, 0, none⟩ = some (iv_ x) := (blk_cell l 0).trans rfl
 have b7 : w.cell? ⟨j, 1, none⟩ = some (.slice J m.length U) := (blk_cell l 1).trans rfl
 have b8 : w.cell? ⟨j, 2, none⟩ = some (.slice L s.length X) := (blk_cell l 2).trans rfl
 have b9 : w.cell? ⟨j, 3, none⟩ = some (iv_ y) := (blk_cell l 3).trans rfl
 have c0 : w.cell? ⟨j, 4, none⟩ = some (iv_ z) := (blk_cell l 4).trans rfl
 have c1 : w.cell? ⟨j, 5, none⟩ = some (iv_ B) := (blk_cell l 5).trans rfl
 have d0 : w.cell? ⟨j, 6, none⟩ = some (iv_ D) := (blk_cell l 6).trans rfl
 have d1 : w.cell? ⟨j, 7, none⟩ = some (iv_ E) := (blk_cell l 7).trans rfl
 have d2 : w.cell? ⟨j, 8, none⟩ = some (.slice M u.length Y) := (blk_cell l 8).trans rfl
 have d3 : w.cell? ⟨j, 9, none⟩ = some (iv_ G) := (blk_cell l 9).trans rfl
 have d4 : w.cell? ⟨O, 0, none⟩ = some (iv_ I) := (blk_cell b4 0).trans rfl
 have b1 := Aside0.mk a4
 have a8 := Aside0.mk Z
 clear a4 Z
 have b2 := Aside0.mk a5
 have a9 := Aside0.mk a1
 clear a5 a1
 have b3 := Aside0.mk a6
 have b0 := Aside0.mk a3
 clear a6 a3
 have HB := Aside0.mk (Below.refl w.heap.size w)
 have H := h
 clear h
 unfold impl_QuietSpans_1.f at H
 replace H := bs_ H
 obtain ⟨b5, A4, H⟩ := H
 obtain rfl := Option.some.inj H
 go_enter Tryz.func76, Tryz.ntmps76
 go_wp2_with (first | ((with_reducible refine gate_callee (f := 77) rfl ?_); refine gl_ 8 Tryz.func77 (impl_MayDisturb.calls k x _ _ m _ _ s y z B D E _ _ u G I T b5 _ (cq_ b1) a8.out (cq_ b2) a9.out (cq_ b3) b0.out A4.out) ?_; rintro e w5 ⟨rfl, hb⟩; refine ⟨_, rfl, sh1_ (below_step (bl_ HB) hb) ?_⟩; clear HB hb; intro HB))
 go_ret
 exact ⟨er_, bl_ HB⟩


def where_impl_QuietSpans_1.f (k : Nat) (G I j : Int) (B : List S68) (D : List S70) (l m s u x : Int) (E : List S76) (y z : Int) : Option (List S52) := sw.f (fun k' t' => impl_QuietSpans_1.f k' t' j B D l m s u x E y z) k G I
theorem where_impl_QuietSpans_1.calls (k : Nat) (X Y s : Int) (G : Option Addr) (O : Nat) (j : List S68) (I : Option Addr) (T : Nat) (l : List S70) (u x y z B : Int) (J : Option Addr) (U : Nat) (m : List S76) (D E : Int) (r : List S52) (w : World) (L : Nat) (a0 : w.heap[L]? = some (.cells #[iv_ s, .slice G j.length O, .slice I l.length T, iv_ u, iv_ x, iv_ y, iv_ z, iv_ B, .slice J m.length U, iv_ D] 34 (0, 0))) (M : Nat) (a3 : w.heap[M]? = some (.cells #[iv_ E] 3 (0, 0))) (a8 : Kd.C k68 w G j.length j) (a5 : j.length ≤ O) (a9 : Kd.C k70 w I l.length l) (a6 : l.length ≤ T) (b0 : Kd.C k76 w J m.length m) (a7 : m.length ≤ U) (h : where_impl_QuietSpans_1.f k X Y s j l u x y z B m D E = some r) :
  Calls Tryz.prog 70 #[iv_ X, iv_ Y, .func (.func 76) #[] #[.pointer (some ⟨L, 0, none⟩), .pointer (some ⟨M, 0, none⟩)]] w fun e w' => ∃ Z : Value, e = .returned (Z) ∧ Kd.R k52 52 w' w.heap.size (fun _ => True) Z r ∧ Below w.heap.size w w' := by
 refine sw.calls (fun k' t' => impl_QuietSpans_1.f k' t' s j l u x y z B m D E) k X Y r w 76 _ (fun args w => enters_ Tryz.func76 (by kernel_rfl) rfl args w) (fun k' t b W hq hb => ?_) h
 have a1 := blk_below a0 hb
 have a4 := blk_below a3 hb
 have hh := impl_QuietSpans_1.calls k' t s G O j I T l u x y z B J U m D E b W L a1 M a4 (Kd.C_below a8 hb) a5 (Kd.C_below a9 hb) a6 (Kd.C_below b0 hb) a7 hq
 exact hh.mono (fun e w' hx => ⟨hx.1, hx.2⟩)

/-! ### impl_QuietSpans: function 58 -/
def impl_QuietSpans.f (k : Nat) (j : Int) (E : List S68) (G : List S70) (l m s u x : Int) (I : List S76) (y z B D : Int) : Option (List S52) := (where_impl_QuietSpans_1.f k B D j E G l m s u x I y z).bind fun J => (some J)
theorem impl_QuietSpans.calls (k : Nat) (u : Int) (I : Option Addr) (T : Nat) (j : List S68) (J : Option Addr) (U : Nat) (l : List S70) (x y z B D : Int) (L : Option Addr) (X : Nat) (m : List S76) (E G M O : Int) (r : List S52) (w : World) (a6 : Kd.C k68 w I j.length j) (Z : j.length ≤ T) (a7 : Kd.C k70 w J l.length l) (a0 : l.length ≤ U) (a8 : Kd.C k76 w L m.length m) (a4 : m.length ≤ X) (h : impl_QuietSpans.f k u j l x y z B D m E G M O = some r) :
  Calls Tryz.prog 58 #[.agg #[iv_ u, .slice I j.length T, .slice J l.length U, iv_ x, iv_ y, iv_ z, iv_ B, iv_ D, .slice L m.length X, iv_ E], iv_ G, iv_ M, iv_ O] w fun e w' => ∃ b0 : Value, e = .returned (b0) ∧ Kd.R k52 52 w' w.heap.size (fun _ => True) b0 r ∧ Below w.heap.size w w' := by
 have b7 := Aside0.mk a6
 have b3 := Aside0.mk Z
 clear a6 Z
 have b8 := Aside0.mk a7
 have b4 := Aside0.mk a0
 clear a7 a0
 have b9 := Aside0.mk a8
 have b5 := Aside0.mk a4
 clear a8 a4
 have HB := Aside0.mk (Below.refl w.heap.size w)
 have H := h
 clear h
 unfold impl_QuietSpans.f at H
 replace H := bs_ H
 obtain ⟨d0, A5, H⟩ := H
 obtain rfl := Option.some.inj H
 go_enter Tryz.func58, Tryz.ntmps58
 go_wp2_with (first | ((with_reducible refine gd_ 4 ?_); refine bx_ 4 34 #[iv_ u, .slice I j.length T, .slice J l.length U, iv_ x, iv_ y, iv_ z, iv_ B, iv_ D, .slice L m.length X, iv_ E] ?_; intro c0 hg d3 hbox hb; refine sh1_ (below_step HB.out hb) ?_; clear HB; intro HB; have s := Aside0.mk hbox; clear hb hg hbox) | ((with_reducible refine gd_ 5 ?_); refine bx_ 5 3 #[iv_ G] ?_; intro c1 hg d4 hbox hb; have a9 := Aside0.mk (below_step HB.out hb); have Y := Aside0.mk (blk_below s.out hb); clear s; have s := Y; clear Y; clear HB; have HB := a9; clear a9; have b2 := Aside0.mk hbox; clear hb hg hbox) | ((with_reducible refine gate_callee (f := 70) rfl ?_); refine gl_ 12 Tryz.func70 (where_impl_QuietSpans_1.calls k M O u _ _ j _ _ l x y z B D _ _ m E G d0 _ c0 s.out c1 b2.out (ck_ b7 HB) b3.out (ck_ b8 HB) b4.out (ck_ b9 HB) b5.out A5.out) ?_; rintro e w6 ⟨d1, rfl, a5, hb⟩; refine ⟨_, rfl, sh2_ (Kd.R_lower a5 (below_size (bl_ HB))) (below_step (bl_ HB) hb) ?_⟩; clear HB hb a5; intro b6 HB))
 go_ret
 exact ⟨_, er_, ra_ b6, bl_ HB⟩

end Go.Proofs.YtpjhdehbikohmaaGreat.PFnExactPlanOf
