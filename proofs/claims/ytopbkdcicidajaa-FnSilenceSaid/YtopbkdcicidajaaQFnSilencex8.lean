-- Written by a program of this session for this claim (the kit's printer with changes).
import Derived.Shelf.Spec.SlicesGrow
import Derived.Test.YtopbkdcicidajaaQFnSilencex0
import Derived.Test.YtopbkdcicidajaaQFnSilencex6
import Derived.Test.YtopbkdcicidajaaQFnSilencex7
namespace Go.Proofs.Ytopbkdcicidajaa.PFnSilence
open Go.RowKit Go.Proofs.YtopbkdcicidajaaW.PrintWords Go.Proofs.YtopbkdcicidajaaW.PrintLast Go.Proofs.YtopbkdcicidajaaW.PrintMore
attribute [local go_sem] max2_int min2_int max_two min_two max_three min_three max_four min_four   -- for this text's walks alone
set_option linter.unusedVariables false
set_option maxHeartbeats 8000000
set_option maxRecDepth 100000
set_option linter.unusedSimpArgs false

/-! ### impl_CutSpans: function 69 -/
def impl_CutSpans.f (k : Nat) (j l : List S82) : Option (List S82) := (impl_ticks.f k j).bind fun m => ((impl_ticks.f k l).bind fun s => ((where_impl_CutSpans_1.f k 0 1000 m s).bind fun u => (some u)))
theorem impl_CutSpans.calls (k : Nat) (U : Option Addr) (Z : Nat) (u : List S82) (X : Option Addr) (c1 : Nat) (x r : List S82) (w : World) (a3 : Kd.C k82 w U u.length u) (a1 : u.length ≤ Z) (a4 : Kd.C k82 w X x.length x) (a2 : x.length ≤ c1) (h : impl_CutSpans.f k u x = some r) :
  Calls Try.prog 69 #[.slice U u.length Z, .slice X x.length c1] w fun e w' => ∃ a6 : Value, e = .returned (a6) ∧ Kd.R k82 82 w' w.heap.size (fun _ => True) a6 r ∧ Below w.heap.size w w' := by
 have b7 := Aside0.mk a3
 have b4 := Aside0.mk a1
 clear a3 a1
 have b8 := Aside0.mk a4
 have b5 := Aside0.mk a2
 clear a4 a2
 have HB := Aside0.mk (Below.refl w.heap.size w)
 have H := h
 clear h
 unfold impl_CutSpans.f at H
 replace H := bs_ H
 obtain ⟨B, A3, H⟩ := H
 replace H := bs_ H
 obtain ⟨D, A4, H⟩ := H
 replace H := bs_ H
 obtain ⟨d1, A5, H⟩ := H
 obtain rfl := Option.some.inj H
 go_enter Try.func69, Try.ntmps69
 go_wp2_with (first | ((with_reducible refine gate_callee (f := 100) rfl ?_); refine gl_ 8 Try.func100 (impl_ticks.calls k _ _ u B _ (cq_ b7) b4.out A3.out) ?_; rintro e w6 ⟨e0, rfl, m, hb⟩; refine ⟨_, rfl, sh2_ (Kd.R_lower m (below_size (bl_ HB))) (below_step (bl_ HB) hb) ?_⟩; clear HB hb m; intro s HB) | ((with_reducible refine gate_callee (f := 100) rfl ?_); refine gl_ 10 Try.func100 (impl_ticks.calls k _ _ x D _ (ck_ b8 HB) b5.out A4.out) ?_; rintro e w7 ⟨e1, rfl, m, hb⟩; refine ⟨_, rfl, sh3_ (Kd.R_elder' (ra_ s) (Kd.R_base m) hb) (Kd.R_lower (Kd.R_new' m (Kd.R_lt (ra_ s))) (below_size (bl_ HB))) (below_step (bl_ HB) hb) ?_⟩; clear s HB hb m; intro s J HB; obtain ⟨E, M, b9⟩ := Kd.R_slice s.out; subst b9; obtain ⟨G, O, d0⟩ := Kd.R_slice J.out; subst d0) | ((with_reducible refine gd_ 5 ?_); refine bx_ 5 109 #[.slice none 0 0] ?_; intro y hg e3 hbox hb; have hHBy_ := Aside0.mk hb; have b2 := Aside0.mk ((by rw [hg]; exact Nat.le_refl _ : w7.heap.size ≤ y)); have HBx_ := hHBy_; clear hHBy_; have l := Aside0.mk hbox; clear hb hg hbox; have d2 := bc_ l 0 rfl; have d5 := bf_ l 0) | ((with_reducible refine gd_ 6 ?_); refine bx_ 6 109 #[.slice none 0 0] ?_; intro z hg e4 hbox hb; have hHBy_ := Aside0.mk (below_step (HBx_.out) hb); have b3 := Aside0.mk ((by rw [hg]; exact below_size (HBx_.out) : w7.heap.size ≤ z)); have L := Aside0.mk ((by rw [hg]; exact Nat.ne_of_lt (blk_lt (l.out)) : y ≠ z)); have b1 := Aside0.mk (blk_below (l.out) hb); clear l; have l := b1; clear HBx_; have HBx_ := hHBy_; clear hHBy_; have I := Aside0.mk hbox; clear hb hg hbox; have d3 := bc_ I 0 rfl; have d6 := bf_ I 0; have Y := Aside0.mk (L.out.symm); have d8 := L.out; have d9 := Y.out; have d4 := bc_ l 0 rfl; have d7 := bf_ l 0) | ((with_reducible refine gate_callee (f := 61) rfl ?_); refine goesL_ (some 12) rfl rfl Try.func61 (by kernel_rfl) rfl #[iv_ 0, iv_ 1000, .func (.func 102) #[] #[.pointer (some ⟨y, 0, none⟩), .pointer (some ⟨z, 0, none⟩)]] rfl (by (try simp only [List.map_toArray, List.map_cons, List.map_nil]); first | done | rfl) ?_; have HBz_ := below_set (j := 0) (v := .slice G D.length O) (below_set (j := 0) (v := .slice E B.length M) (HBx_.out) b2.out) b3.out; (refine (where_impl_CutSpans_1.calls k 0 1000 E M B G O D d1 _ y (blk_far (blk_put (cs := #[.slice none 0 0]) (l.out) 0 (.slice E B.length M) rfl) L.out _) z (blk_put (cs := #[.slice none 0 0]) (blk_far (I.out) Y.out _) 0 (.slice G D.length O) rfl) (Kd.C_below (Kd.R_reads' s.out).2.2 HBz_) (Kd.R_reads' s.out).2.1 (Kd.C_below (Kd.R_reads' J.out).2.2 HBz_) (Kd.R_reads' J.out).2.1 A5.out).mono ?_); rintro e wz ⟨vz, rfl, m, hb⟩; refine ⟨_, rfl, ?_⟩; have T := Aside0.mk (below_then HB.out (below_size HB.out) HBz_); have b6 := Aside0.mk (Kd.R_lower m (below_size T.out)); have a5 := Aside0.mk (below_step T.out hb); clear HB; have HB := a5; clear T a5 hb m))
 go_ret
 exact ⟨_, by first | (rw [hRT_.out]; rfl) | exact er_, ra_ b6, bl_ HB⟩

-- NOT PRINTED: function 103 (impl_Span_103)

/-! ### grow103: slices.Grow(nil, n), by the kit's contract -/
def grow103.f (n : Int) : Option (List S82) := if 0 ≤ n ∧ n * 16 ≤ 140737488355328 then some [] else none
open Go.Shelf in
def growL103_ren : Go.Shelf.Ren := ⟨fun | 4 => 103 | n => n, fun | 22 => 40 | 25 => 82 | 3 => 3 | 4 => 4 | 9 => 9 | 20 => 20 | 0 => 0 | 2 => 3 | n => n, fun | n => n⟩
theorem growL103 : Go.Proofs.Lays8.n4 Try.prog growL103_ren := {
 mixed := by kernel_rfl
 f4 := ⟨Try.f103.name, by decide, Try.func103.trans (congrArg some (by kernel_rfl))⟩
 t0 := Try.underlying0
 a0 := Try.isAgg0
 z0 := Try.sizeOf0
 v0 := Try.zeroValue0
 t3 := Try.underlying3
 a3 := Try.isAgg3
 z3 := Try.sizeOf3
 v3 := Try.zeroValue3
 t4 := Try.underlying4
 a4 := Try.isAgg4
 z4 := Try.sizeOf4
 v4 := Try.zeroValue4
 t9 := Try.underlying9
 a9 := Try.isAgg9
 z9 := Try.sizeOf9
 v9 := Try.zeroValue9
 t20 := Try.underlying20
 a20 := Try.isAgg20
 z20 := Try.sizeOf20
 v20 := Try.zeroValue20
 t22 := Try.underlying40
 a22 := Try.isAgg40
 z22 := Try.sizeOf40
 v22 := Try.zeroValue40 }
theorem grow103.calls (n : Int) (r : List S82) (w : World) (h : grow103.f n = some r) :
  Calls Try.prog 103 #[.slice none 0 0, iv_ n] w fun e w' => ∃ u : Value, e = .returned (u) ∧ Kd.R k82 82 w' w.heap.size (fun _ => True) u r ∧ Below w.heap.size w w' := by
 unfold grow103.f at h
 by_cases c : 0 ≤ n ∧ n * 16 ≤ 140737488355328
 ·rw [if_pos c] at h
  obtain rfl := Option.some.inj h
  obtain ⟨m, rfl⟩ := Int.eq_ofNat_of_zero_le c.1
  by_cases hm : m = 0
  ·subst hm
   refine (Any8.slices_Grow_room growL103 none 0 0 0 w (by omega) (by omega) (by omega) (by omega)).mono ?_
   rintro e w' ⟨rfl, rfl⟩
   exact ⟨_, rfl, Kd.R_nil _ _ _ _ _, Below.refl _ _⟩
  ·have hinfo : (Try.prog.info? 82).map (fun i => (i.zero, i.size, i.bytes)) = some (some (.agg #[(iv_ 0), (iv_ 0)]), 2, 16) := by kernel_rfl
   obtain ⟨z, x, j⟩ := Option.map_eq_some_iff.1 hinfo
   have s := congrArg Prod.fst j
   have y := congrArg (fun p => p.2.1) j
   have l := congrArg (fun p => p.2.2) j
   dsimp only at s y l
   refine (Any8.slices_Grow_grow growL103 z _ x s (by omega) none 0 0 m [] w (by omega) (by omega) (by rw [l]; omega) (by omega) (by simp) (fun _ => rfl) (fun a ha => by cases ha)).mono ?_
   rintro e w' ⟨rfl, rfl⟩
   have hle : grownCap w (0 + m) 0 82 ≤ maxLen := grownCap_le_maxLen w (0 + m) 0 82 (by unfold maxLen; omega)
   have hge : 0 + m ≤ grownCap w (0 + m) 0 82 := grownCap_ge w _ _ _
   refine ⟨_, rfl, ⟨fun _ _ => trivial, [], ?_, Reps.none _ _⟩, ?_⟩
   ·refine World.ownsRow_made (base := w.heap.size) (e := 82) (size := 2) w.drew _ _ (Nat.le_refl _) hle ?_
    have hzs : (.agg #[(iv_ 0), (iv_ 0)] : Value).cells.size = 2 := rfl
    rw [Array.size_append, Array.size_append, size_zeroCells, size_zeroCells, hzs]
    simp only [List.size_toArray, List.length_nil]
    show 0 + (0 + m - 0) * 2 + (grownCap w (0 + m) 0 82 - (0 + m)) * 2 = grownCap w (0 + m) 0 82 * 2
    omega
   ·exact below_alloc (below_drew1 (Below.refl _ _)) _
 ·rw [if_neg c] at h
  exact absurd h (by simp)

/-! ### impl_Span_70: function 70 -/
mutual
def impl_Span_70.l0 : Nat → List (List S82) → Int → List (List S82) → Int → Int → Option (List S82)
 | 0, _, _, _, _, _ => none
 | k + 1, u, x, s, z, j => if j < z then (if 0 ≤ j then (if j < (s.length : Int) then (if (wrap64 (x + ((rd_L8 s j).length : Int))) < 0 then (none) else (impl_Span_70.l0 k u (wrap64 (x + ((rd_L8 s j).length : Int))) s z (wrap64 (j + 1)))) else (none)) else (none)) else ((grow103.f x).bind fun D => (impl_Span_70.l1 k D u (u.length : Int) 0))
def impl_Span_70.l1 : Nat → List S82 → List (List S82) → Int → Int → Option (List S82)
 | 0, _, _, _, _ => none
 | k + 1, y, m, B, l => if l < B then (if 0 ≤ l then (if l < (m.length : Int) then (if y.length + (rd_L8 m l).length < 8796093022208 then (impl_Span_70.l1 k (y ++ (rd_L8 m l)) m B (wrap64 (l + 1))) else (none)) else (none)) else (none)) else (some y)
end
def impl_Span_70.f (k : Nat) (j : List (List S82)) : Option (List S82) := impl_Span_70.l0 k j 0 j (j.length : Int) 0
theorem impl_Span_70.calls (k : Nat) (I : Option Addr) (M : Nat) (j : List (List S82)) (r : List S82) (w : World) (a1 : Kd.C (Kd.slice 82 k82) w I j.length j) (T : j.length ≤ M) (h : impl_Span_70.f k j = some r) :
  Calls Try.prog 70 #[.slice I j.length M] w fun e w' => ∃ a6 : Value, e = .returned (a6) ∧ Kd.R k82 82 w' w.heap.size (fun _ => True) a6 r ∧ Below w.heap.size w w' := by
 have L := Aside0.mk a1
 have d3 := Aside0.mk T
 clear a1 T
 have HB := Aside0.mk (Below.refl w.heap.size w)
 have H := h
 clear h
 unfold impl_Span_70.f at H
 have H' := Aside0.mk H
 clear H
 go_enter Try.func70, Try.ntmps70
 go_wp2
 go_loopg [3, 11] k (fun kq v3 b7 w' => ∃ (s : Int) (m : Int), v3 = iv_ s ∧ b7 = iv_ m ∧ Aside0 (impl_Span_70.l0 kq j s j (j.length : Int) m = some r) ∧ Aside0 (kq ≤ k) ∧ Aside0 (Below w.heap.size w w'))
 case atStart => exact ⟨(0), (0), (by first | rfl | (simp; done) | (simp [*]; done)), (by first | rfl | (simp; done) | (simp [*]; done)), H', ⟨Nat.le_refl _⟩, ⟨bl_ HB⟩⟩
 case round =>
  clear H'
  obtain ⟨s, m, rfl, rfl, HA, x, HB⟩ := hrel
  cases gk with
  | zero => exact absurd HA.out (by simp [impl_Span_70.l0])
  | succ z =>
   have H := HA.out
   clear HA
   simp only [impl_Span_70.l0] at H
   by_cases c2 : m < (j.length : Int)
   ·rw [if_pos c2] at H
    have b3 := decide_eq_true c2
    clear c2
    replace H := ifn_ H
    obtain ⟨c3, H⟩ := H
    have e0 := decide_eq_true c3
    clear c3
    replace H := ifn_ H
    obtain ⟨c4, H⟩ := H
    have e3 := decide_eq_true c4
    clear c4
    by_cases c5 : (wrap64 (s + ((rd_L8 j m).length : Int))) < 0
    ·rw [if_pos c5] at H
     exact absurd H (by simp)
    ·rw [if_neg c5] at H
     have e4 := decide_eq_false c5
     clear c5
     have H' := Aside0.mk H
     clear H
     have B : 0 ≤ (m : Int) := od_
     have E : m < (j.length : Int) := od_
     obtain ⟨d7, d1, e1, b5, a2, Y, U⟩ := at_L8 L.out m B E
     cases b5
     replace a2 := hbc_ HB a2
     have d6 := Aside0.mk U
     have d4 := Aside0.mk Y
     clear U Y
     replace B := eq_true B
     replace E := eq_true E
     go_wp2
     go_roundg z
     case measure => have := x.out; omega
     case rel => exact ⟨(wrap64 (s + ((rd_L8 j m).length : Int))), (wrap64 (m + 1)), (by first | rfl | (simp; done) | (simp [*]; done)), (by first | rfl | (simp; done) | (simp [*]; done)), H', ⟨by have := x.out; omega⟩, ⟨bl_ HB⟩⟩
   ·rw [if_neg c2] at H
    have b3 := decide_eq_false c2
    clear c2
    replace H := bs_ H
    obtain ⟨a5, A6, H⟩ := H
    have H' := Aside0.mk H
    clear H
    go_wp2_with (first | ((with_reducible refine gate_callee (f := 103) rfl ?_); refine gl_ 24 Try.func103 (grow103.calls s a5 _ A6.out) ?_; rintro e w7 ⟨e6, rfl, a0, hb⟩; refine ⟨_, rfl, sh2_ (Kd.R_lower a0 (below_size (bl_ HB))) (below_step (bl_ HB) hb) ?_⟩; clear HB hb a0; intro a8 HB))
    go_loopg [6, 27] z (fun kq v6 b8 w' => ∃ (u : List S82) (l : Int), b8 = iv_ l ∧ Aside0 (impl_Span_70.l1 kq u j (j.length : Int) l = some r) ∧ Aside0 (kq ≤ z) ∧ Aside0 (Kd.R k82 82 w' w.heap.size (fun _ => True) v6 u) ∧ Aside0 (Below w.heap.size w w'))
    case atStart => exact ⟨(a5), (0), (by first | rfl | (simp; done) | (simp [*]; done)), H', ⟨Nat.le_refl _⟩, ⟨ra_ a8⟩, ⟨bl_ HB⟩⟩
    case round =>
     clear H'
     obtain ⟨u, l, rfl, HA, J, y, HB⟩ := hrel
     cases gk with
     | zero => exact absurd HA.out (by simp [impl_Span_70.l1])
     | succ k2 =>
      have H := HA.out
      clear HA
      simp only [impl_Span_70.l1] at H
      by_cases c8 : l < (j.length : Int)
      ·rw [if_pos c8] at H
       have b4 := decide_eq_true c8
       clear c8
       replace H := ifn_ H
       obtain ⟨c9, H⟩ := H
       have e5 := decide_eq_true c9
       clear c9
       replace H := ifn_ H
       obtain ⟨c10, H⟩ := H
       have d9 := decide_eq_true c10
       clear c10
       replace H := ifn_ H
       obtain ⟨O, H⟩ := H
       have b1 := Aside0.mk O
       clear O
       replace H : ∃ y_ : List S82, Aside0 (y_ = (u ++ (rd_L8 j l))) ∧ (impl_Span_70.l1 k2 y_ j (j.length : Int) (wrap64 (l + 1))) = some r := ⟨_, ⟨rfl⟩, yh_ H⟩
       obtain ⟨d0, b2, H⟩ := H
       have H' := Aside0.mk H
       clear H
       have D : 0 ≤ (l : Int) := od_
       have G : l < (j.length : Int) := od_
       obtain ⟨d8, d2, e2, b6, a3, Z, X⟩ := at_L8 L.out l D G
       cases b6
       replace a3 := hbc_ HB a3
       have b0 := Aside0.mk X
       have d5 := Aside0.mk Z
       clear X Z
       replace D := eq_true D
       replace G := eq_true G
       go_wp2_with (first | ((with_reducible refine gate_builtin (b := .append) (xs := #[.tmp 31, .tmp 32]) rfl ?_); at_builtin; refine Kd.R_append_rows k82 (w0 := w) w.heap.size rfl (.tmp 31) (.tmp 32) 40 82 (.agg #[(iv_ 0), (iv_ 0)]) 16 rfl Try.underlying40 info82 rfl (by decide) (by omega) u6 u (rd_L8 j l) _ _ _ (fun _ => True) (fun _ => False) rfl rfl ?aO ?aR (fun _ _ h => h) (fun _ h => h.elim) ?aF ?aB ?aS ?aL ?_; (case aR => exact ck_ b0 HB); (case aB => exact (bl_ HB)); (case aF => exact (fun _ _ => trivial)); (case aO => exact (ra_ y)); (case aS => exact (below_size (bl_ HB))); (case aL => have := b1.out; omega); intro e7 e8 ho hb hg hat; rw [← b2.out] at ho; refine sh2_ hb ho ?_; clear HB y ho hb hg hat; intro HB a9))
       go_roundg k2
       case measure => have := x.out; have := J.out; omega
       case rel => exact ⟨(d0), (wrap64 (l + 1)), (by first | rfl | (simp; done) | (simp [*]; done)), H', ⟨by have := x.out; have := J.out; omega⟩, ⟨ra_ a9⟩, ⟨bl_ HB⟩⟩
      ·rw [if_neg c8] at H
       have b4 := decide_eq_false c8
       clear c8
       obtain rfl := Option.some.inj H
       go_wp2
       go_ret
       exact ⟨_, by first | (rw [hRT_.out]; rfl) | exact er_, ra_ y, bl_ HB⟩

/-! ### impl_SpeakingSpans: function 27 -/
def impl_SpeakingSpans.f (k : Nat) (j : Int) (D : List S72) (E : List S74) (l m s u x : Int) (G : List S88) (y I J z B : Int) : Option (List S82) := (impl_SureWindows.f k j D E l m s u x G y I J z B).bind fun L => ((impl_QuietSpans.f k j D E l m s u x G y I z B).bind fun M => ((impl_QuietSpans.f k j D E l m s u x G y J z B).bind fun O => ((impl_Span_70.f k (([M, O] : List (List S82)))).bind fun T => ((impl_CutSpans.f k L T).bind fun U => (some U)))))
def impl_SpeakingSpans.T1 : Bool × List (List Nat × List Nat) := (true, [([], []), ([], []), ([], []), ([], []), ([], []), ([0, 1, 2, 3, 4], [0, 1, 2, 3, 4]), ([], []), ([], []), ([], []), ([], []), ([6, 7, 8, 9, 5], [6, 7, 8, 9]), ([], []), ([], []), ([], []), ([], []), ([11, 12, 13, 14, 10], [11, 12, 13, 14]), ([10, 15], [10, 15]), ([16, 15], [16]), ([5, 17, 17], [5, 17]), ([18, 18, 0, 1, 2, 3, 4, 5, 6, 7, 8, 9, 10, 11, 12, 13, 14, 15, 16, 17, 18], [18])])
def impl_SpeakingSpans.B1 : List Nat := [0, 0, 0, 0, 0, 31, 0, 0, 0, 0, 1023, 0, 0, 0, 0, 32767, 65535, 131071, 262143, 524287]
theorem impl_SpeakingSpans.tab1 : rtab .any (opsOf Try.f27 1) = impl_SpeakingSpans.T1 := by kernel_rfl
theorem impl_SpeakingSpans.bits1 : waitsOk impl_SpeakingSpans.T1.2 impl_SpeakingSpans.B1 = true := by kernel_rfl
theorem impl_SpeakingSpans.calls (k : Nat) (I : Int) (a5 : Option Addr) (b0 : Nat) (u : List S72) (a6 : Option Addr) (b1 : Nat) (x : List S74) (J L M O T : Int) (a7 : Option Addr) (b2 : Nat) (y : List S88) (U a1 a2 a3 a4 : Int) (r : List S82) (w : World) (e7 : Kd.C k72 w a5 u.length u) (e4 : u.length ≤ b0) (e8 : Kd.C k74 w a6 x.length x) (e5 : x.length ≤ b1) (e9 : Kd.C k88 w a7 y.length y) (e6 : y.length ≤ b2) (h : impl_SpeakingSpans.f k I u x J L M O T y U a1 a2 a3 a4 = some r) :
  Calls Try.prog 27 #[.agg #[iv_ I, .slice a5 u.length b0, .slice a6 x.length b1, iv_ J, iv_ L, iv_ M, iv_ O, iv_ T, .slice a7 y.length b2, iv_ U], iv_ a1, iv_ a2, iv_ a3, iv_ a4] w fun e w' => ∃ f0 : Value, e = .returned (f0) ∧ Kd.R k82 82 w' w.heap.size (fun _ => True) f0 r ∧ Below w.heap.size w w' := by
 have g6 := Try.underlying28
 have c1 := Aside0.mk e7
 have b8 := Aside0.mk e4
 clear e7 e4
 have d0 := Aside0.mk e8
 have b9 := Aside0.mk e5
 clear e8 e5
 have d1 := Aside0.mk e9
 have c0 := Aside0.mk e6
 clear e9 e6
 have HB := Aside0.mk (Below.refl w.heap.size w)
 have H := h
 clear h
 unfold impl_SpeakingSpans.f at H
 replace H := bs_ H
 obtain ⟨d2, A6, H⟩ := H
 replace H := bs_ H
 obtain ⟨Z, A7, H⟩ := H
 replace H := bs_ H
 obtain ⟨a0, A8, H⟩ := H
 replace H : ∃ y_ : List (List S82), Aside0 (y_ = (([Z, a0] : List (List S82)))) ∧ ((impl_Span_70.f k y_).bind fun b7 => ((impl_CutSpans.f k d2 b7).bind fun d3 => (some d3))) = some r := ⟨_, ⟨rfl⟩, yh_ H⟩
 obtain ⟨f1, d6, H⟩ := H
 replace H := bs_ H
 obtain ⟨b7, A9, H⟩ := H
 replace H := bs_ H
 obtain ⟨d3, f2, H⟩ := H
 obtain rfl := Option.some.inj H
 go_enter Try.func27, Try.ntmps27
 try go_wp2_with (first | ((with_reducible refine gd_ 5 ?_); refine bx_ 5 28 #[iv_ I, .slice a5 u.length b0, .slice a6 x.length b1, iv_ J, iv_ L, iv_ M, iv_ O, iv_ T, .slice a7 y.length b2, iv_ U] ?_; intro E hg g0 hbox hb; refine sh3_ (below_step (bl_ HB) hb) hbox (ge_ hg (bl_ HB)) ?_; clear HB hb hbox hg; intro HB j s))
 refine sh2_ (blk_drew j.out) (below_drew1 HB.out) ?_
 clear j HB
 intro j HB
 refine start_ (n := 20) (S := fun w' => Cz10 w' E (iv_ I) (.slice a5 u.length b0) (.slice a6 x.length b1) (iv_ J) (iv_ L) (iv_ M) (iv_ O) (iv_ T) (.slice a7 y.length b2) (iv_ U)) (ds := []) (bo_ 20 0) (by kernel_rfl) rfl rfl (cz10_ j) (fun hHeld => ?_); refine with_tabW impl_SpeakingSpans.tab1 impl_SpeakingSpans.bits1 (fun HT_ HW_ => ?_)
 generalize g0.drew = h2 at j HB hHeld ⊢
 refine pur_ 1 (bo_ 20 2) (some 12) HT_ ?_
 refine pur_ 2 (bo_ 20 6) (some 13) HT_ ?_
 refine pur_ 3 (bo_ 20 14) (some 14) HT_ ?_
 refine pur_ 4 (bo_ 20 30) (some 15) HT_ ?_
 refine pur_ 7 (bo_ 20 158) (some 18) HT_ ?_
 refine pur_ 8 (bo_ 20 414) (some 19) HT_ ?_
 refine pur_ 9 (bo_ 20 926) (some 20) HT_ ?_
 refine pur_ 12 (bo_ 20 5022) (some 23) HT_ ?_
 refine pur_ 13 (bo_ 20 13214) (some 24) HT_ ?_
 refine pur_ 14 (bo_ 20 29598) (some 25) HT_ ?_
 refine tak_ 0 (bo_ 20 29599) (some 11) HT_ HW_ hHeld ?_
 refine tak_ 6 (bo_ 20 29663) (some 17) HT_ HW_ hHeld ?_
 refine tak_ 11 (bo_ 20 31711) (some 22) HT_ HW_ hHeld ?_
 refine onc_ 5 (bo_ 20 31743) (some 16) HT_ Try.func16 (impl_SureWindows.calls k I _ _ u _ _ x J L M O T _ _ y U a1 a2 a3 a4 d2 _ (ck_ c1 HB) b8.out (ck_ d0 HB) b9.out (ck_ d1 HB) c0.out A6.out) ?_
 rintro e h3 ⟨Y, rfl, m, hb⟩
 refine sh3_ (Kd.R_lower m (below_size (bl1_ HB s))) (blk_below (bk_ j) hb) (below_step (bl1_ HB s) hb) ?_
 clear j HB hb m
 intro l j HB
 refine ⟨_, _, rfl, (cz10_ j), pt_, fun hHeld => ?_⟩
 refine onc_ 10 (bo_ 20 32767) (some 21) HT_ Try.func29 (impl_QuietSpans.calls k I _ _ u _ _ x J L M O T _ _ y U a1 a3 a4 Z _ (ck_ c1 HB) b8.out (ck_ d0 HB) b9.out (ck_ d1 HB) c0.out A7.out) ?_
 rintro e h4 ⟨g7, rfl, m, hb⟩
 refine sh4_ (Kd.R_elder' (ra_ l) (Kd.R_base m) hb) (Kd.R_lower (Kd.R_new' m (Kd.R_lt (ra_ l))) (below_size (bl1_ HB s))) (blk_below (bk_ j) hb) (below_step (bl1_ HB s) hb) ?_
 clear l j HB hb m
 intro l G j HB
 refine ⟨_, _, rfl, (cz10_ j), pt_, fun hHeld => ?_⟩
 refine onc_ 15 (bo_ 20 65535) (some 26) HT_ Try.func29 (impl_QuietSpans.calls k I _ _ u _ _ x J L M O T _ _ y U a2 a3 a4 a0 _ (ck_ c1 HB) b8.out (ck_ d0 HB) b9.out (ck_ d1 HB) c0.out A8.out) ?_
 rintro e g1 ⟨g8, rfl, m, hb⟩
 refine sh5_ (Kd.R_elder' (ra_ l) (Kd.R_base m) hb) (Kd.R_elder' (ra_ G) (Kd.R_base m) hb) (Kd.R_lower (Kd.R_new' (Kd.R_new' m (Kd.R_lt (ra_ l))) (Kd.R_lt (ra_ G))) (below_size (bl1_ HB s))) (blk_below (bk_ j) hb) (below_step (bl1_ HB s) hb) ?_
 clear l G j HB hb m
 intro l G b4 j HB
 obtain ⟨d4, d7, d9⟩ := Kd.R_slice G.out
 (first | subst d9 | (injection d9 with f1_ f2_ f3_; have B := f1_.symm; have D := f3_.symm; clear f1_ f2_ f3_; subst B; subst D))
 obtain ⟨d5, d8, e0⟩ := Kd.R_slice b4.out
 (first | subst e0 | (injection e0 with f1_ f2_ f3_; have B := f1_.symm; have D := f3_.symm; clear f1_ f2_ f3_; subst B; subst D))
 refine ⟨_, _, rfl, (cz10_ j), pt_, fun hHeld => ?_⟩
 refine one_ (i := 16) (N := some 27) (bo_ 20 131071) rfl rfl (one_of HT_.out (by kernel_rfl)) (by decide) (fun K hK => ?_)
 refine Kd.N_lit_step (Kd.slice 82 k82) _ 40 ?hg (N' := 27) ?hd (xs := ([Z, a0] : List (List S82))) (inner := [.slice d4 Z.length d7, .slice d5 a0.length d8]) (ok := (fun k_ => some k_ ≠ (Y : Value).ownBlock ∧ k_ ≠ E)) (okp := (fun k_ => some k_ ≠ (Y : Value).ownBlock ∧ k_ ≠ E)) ?hr ?hp (fun _ hk => hk) ((show ∀ k_, g1.heap.size ≤ k_ → (fun k_ => some k_ ≠ (Y : Value).ownBlock ∧ k_ ≠ E) k_ from fun k_ hk => ⟨Kd.fresh' (Kd.R_lt (ra_ l)) k_ hk, Kd.freshB (g := E) (o := .cells #[iv_ I, .slice a5 u.length b0, .slice a6 x.length b1, iv_ J, iv_ L, iv_ M, iv_ O, iv_ T, .slice a7 y.length b2, iv_ U] 28 (0, 0)) (bk_ j) k_ hk⟩) _ (Nat.le_refl _)) (Below.refl _ _) (Nat.le_refl _) (by simp) ?_; (case hd => rfl); (case hg => rfl); (case hr => first | (go_simp; done) | (go_simp; rfl)); (case hp => exact (Reps.one (show Kd.FK (Kd.slice 82 k82) _ _ Z [.slice d4 Z.length d7] from (Kd.FK_slice_mk (Kd.R_reads' (Kd.R_mono (ok' := (fun k_ => some k_ ≠ (Y : Value).ownBlock ∧ k_ ≠ E)) (Kd.R_types (G.out) j.out (by decide)) (fun k_ hk => ⟨hk.1.1.2, hk.2⟩))).2.1 (Kd.R_F (Kd.R_mono (ok' := (fun k_ => some k_ ≠ (Y : Value).ownBlock ∧ k_ ≠ E)) (Kd.R_types (G.out) j.out (by decide)) (fun k_ hk => ⟨hk.1.1.2, hk.2⟩))))) (Reps.one (show Kd.FK (Kd.slice 82 k82) _ _ a0 [.slice d5 a0.length d8] from (Kd.FK_slice_mk (Kd.R_reads' (Kd.R_mono (ok' := (fun k_ => some k_ ≠ (Y : Value).ownBlock ∧ k_ ≠ E)) (Kd.R_types (b4.out) j.out (by decide)) (fun k_ hk => ⟨hk.1.1.2, hk.2⟩))).2.1 (Kd.R_F (Kd.R_mono (ok' := (fun k_ => some k_ ≠ (Y : Value).ownBlock ∧ k_ ≠ E)) (Kd.R_types (b4.out) j.out (by decide)) (fun k_ hk => ⟨hk.1.1.2, hk.2⟩))))) (Reps.none _ _))))
 intro g9 h5 b3 hb hg_ hnew_
 clear hg_ hnew_
 (first | rw [← d6.out] at b3 | (simp only [Int.reduceToNat] at b3; rw [← d6.out] at b3))
 refine sh4_ (Kd.R_below (ra_ l) hb) (Kd.N_lower b3 (below_size (bl1_ HB s))) (blk_below (bk_ j) hb) (below_step (bl1_ HB s) hb) ?_
 clear l j HB G b4 hb b3
 intro l z j HB
 obtain ⟨f7, f9, e1⟩ := Kd.N_slice z.out
 (first | subst e1 | (injection e1 with f1_ f2_ f3_; have B := f1_.symm; have D := f3_.symm; clear f1_ f2_ f3_; subst B; subst D))
 refine hK.out _ _ (cz10_ j) (fun hHeld => ?_)
 clear hK K
 refine norm_ (show Act.put _ (some 27) _ = _ from pt_) ?_
 refine one_ (i := 17) (N := some 28) (bo_ 20 262143) rfl rfl (one_of HT_.out (by kernel_rfl)) (by decide) (fun K hK => ?_)
 refine goes_ Try.func70 (by kernel_rfl) rfl #[.slice f7 f1.length f9] (by rfl) rfl rfl mp_ ?_
 with_reducible refine (impl_Span_70.calls k _ _ f1 b7 _ ?side1 ?side2 A9.out).mono ?_
 (case side1 => repeat (first | exact (Kd.N_reads' z.out).2.2 | (with_reducible refine Kd.C_alloc ?_ _) | (with_reducible refine Kd.C_drewN ?_ _) | (with_reducible refine Kd.C_drew ?_)))
 (case side2 => exact (Kd.N_reads' z.out).2.1)
 rintro e h6 ⟨h0, rfl, m, hb⟩
 refine ⟨_, rfl, sh5_ (Kd.R_elder' (ra_ l) (Kd.R_base m) hb) (Kd.N_elder' (by (with_reducible repeat (first | apply Kd.N_alloc | apply Kd.N_drewN | apply Kd.N_drew)); exact z.out) (Kd.R_base m) hb) (Kd.R_lower (Kd.R_new' m (Kd.R_lt (ra_ l))) (below_size (bl1_ HB s))) (blk_below (bk_ j) hb) (below_step (bl1_ HB s) hb) ?_⟩
 clear l z j HB hb m
 intro l z X j HB
 obtain ⟨g2, g4, e2⟩ := Kd.R_slice l.out
 (first | subst e2 | (injection e2 with f1_ f2_ f3_; have B := f1_.symm; have D := f3_.symm; clear f1_ f2_ f3_; subst B; subst D))
 obtain ⟨g3, g5, e3⟩ := Kd.R_slice X.out
 (first | subst e3 | (injection e3 with f1_ f2_ f3_; have B := f1_.symm; have D := f3_.symm; clear f1_ f2_ f3_; subst B; subst D))
 refine hK.out _ _ (cz10_ j) (fun hHeld => ?_)
 clear hK K
 refine norm_ (show Act.put _ (some 28) _ = _ from pt_) ?_
 refine onc_ 18 (bo_ 20 524287) (some 29) HT_ Try.func69 (impl_CutSpans.calls k _ _ d2 _ _ b7 d3 _ (cr_ l) (rl_ l) (cr_ X) (rl_ X) f2.out) ?_
 rintro e h7 ⟨h1, rfl, m, hb⟩
 refine sh6_ (Kd.R_elder' (ra_ l) (Kd.R_base m) hb) (Kd.N_elder' (by (with_reducible repeat (first | apply Kd.N_alloc | apply Kd.N_drewN | apply Kd.N_drew)); exact z.out) (Kd.R_base m) hb) (Kd.R_elder' (ra_ X) (Kd.R_base m) hb) (Kd.R_lower (Kd.R_new' (Kd.R_new' m (Kd.R_lt (ra_ l))) (Kd.R_lt (ra_ X))) (below_size (bl1_ HB s))) (blk_below (bk_ j) hb) (below_step (bl1_ HB s) hb) ?_
 clear l z X j HB hb m
 intro l z X f8 j HB
 refine ⟨_, _, rfl, (cz10_ j), pt_, fun hHeld => ?_⟩
 refine pur_ 19 (bo_ 20 1048575) (some 10) HT_ ?_
 refine done_ (done_of HT_.out (by kernel_rfl)) ?_
 try go_wp2
 go_ret
 exact ⟨_, by first | (rw [hRT_.out]; rfl) | exact er_, by (with_reducible repeat (first | apply Kd.R_alloc | apply Kd.R_drewN | apply Kd.R_drew)); exact Kd.R_mono f8.out (fun _ hk => trivial), bl1_ HB s⟩

/-! ### spec_IsSpan: function 119 -/
def spec_IsSpan.f (j l : Int) : Option (Bool) := if j ≥ 0 then (if l ≤ 1000 then (some (decide (j < l))) else (some false)) else (some false)
theorem spec_IsSpan.calls (j l : Int) (r : Bool) (w : World) (h : spec_IsSpan.f j l = some r) :
  Calls Try.prog 119 #[.agg #[iv_ j, iv_ l]] w fun e w' => e = .returned (.bool r) ∧ Below w.heap.size w w' := by
 have E := Try.underlying82
 have HB := Aside0.mk (Below.refl w.heap.size w)
 have H := h
 clear h
 unfold spec_IsSpan.f at H
 by_cases c2 : j ≥ 0
 ·rw [if_pos c2] at H
  have x : decide (0 ≤ j) = true := decide_eq_true c2
  clear c2
  by_cases c3 : l ≤ 1000
  ·rw [if_pos c3] at H
   have y := decide_eq_true c3
   clear c3
   obtain rfl := Option.some.inj H
   go_enter Try.func119, Try.ntmps119
   go_wp2_with (first | ((with_reducible refine gd_ 1 ?_); refine bx_ 1 82 #[iv_ j, iv_ l] ?_; intro u hg G hbox hb; refine sh3_ (below_step (bl_ HB) hb) hbox (ge_ hg (bl_ HB)) ?_; clear HB hb hbox hg; intro HB m s; have z := cf2_ m))
   go_ret
   exact ⟨by first | (rw [hRT_.out]; rfl) | exact er_, bl1_ HB s⟩
  ·rw [if_neg c3] at H
   have y := decide_eq_false c3
   clear c3
   obtain rfl := Option.some.inj H
   go_enter Try.func119, Try.ntmps119
   go_wp2_with (first | ((with_reducible refine gd_ 1 ?_); refine bx_ 1 82 #[iv_ j, iv_ l] ?_; intro u hg I hbox hb; refine sh3_ (below_step (bl_ HB) hb) hbox (ge_ hg (bl_ HB)) ?_; clear HB hb hbox hg; intro HB m s; have B := cf2_ m))
   go_ret
   exact ⟨by first | (rw [hRT_.out]; rfl) | exact er_, bl1_ HB s⟩
 ·rw [if_neg c2] at H
  have x : decide (0 ≤ j) = false := decide_eq_false c2
  clear c2
  obtain rfl := Option.some.inj H
  go_enter Try.func119, Try.ntmps119
  go_wp2_with (first | ((with_reducible refine gd_ 1 ?_); refine bx_ 1 82 #[iv_ j, iv_ l] ?_; intro u hg J hbox hb; refine sh3_ (below_step (bl_ HB) hb) hbox (ge_ hg (bl_ HB)) ?_; clear HB hb hbox hg; intro HB m s; have D := cf2_ m))
  go_ret
  exact ⟨by first | (rw [hRT_.out]; rfl) | exact er_, bl1_ HB s⟩

/-! ### spec_Max: function 120 -/
def spec_Max.f (j l : Int) : Option (Int) := if l > j then (some l) else (some j)
theorem spec_Max.calls (j l r : Int) (w : World) (h : spec_Max.f j l = some r) :
  Calls Try.prog 120 #[iv_ j, iv_ l] w fun e w' => e = .returned (iv_ r) ∧ Drawn0 w w' := by
 have H := h
 clear h
 unfold spec_Max.f at H
 by_cases c3 : l > j
 ·rw [if_pos c3] at H
  have m : decide (j < l) = true := decide_eq_true c3
  clear c3
  obtain rfl := Option.some.inj H
  go_enter Try.func120, Try.ntmps120
  go_wp2
  go_ret
  exact ⟨by first | rfl | (simp; done) | (simp [*]; done), by repeat (first | exact Drawn0.refl _ | apply Drawn0.step)⟩
 ·rw [if_neg c3] at H
  have m : decide (j < l) = false := decide_eq_false c3
  clear c3
  obtain rfl := Option.some.inj H
  go_enter Try.func120, Try.ntmps120
  go_wp2
  go_ret
  exact ⟨by first | rfl | (simp; done) | (simp [*]; done), by repeat (first | exact Drawn0.refl _ | apply Drawn0.step)⟩

/-! ### spec_l4Last: function 104 -/
def spec_l4Last.l0 : Nat → List S82 → Int → Int → Option (Int)
 | 0, _, _, _ => none
 | k + 1, l, m, j => if j < (l.length : Int) then (if 0 ≤ j then ((spec_IsSpan.f ((rd_T82 l j).f0) ((rd_T82 l j).f1)).bind fun s => (if s = true then ((spec_Max.f m ((rd_T82 l j).f1)).bind fun u => (spec_l4Last.l0 k l u (wrap64 (j + 1)))) else (spec_l4Last.l0 k l m (wrap64 (j + 1))))) else (none)) else (some m)
def spec_l4Last.f (k : Nat) (j : List S82) : Option (Int) := spec_l4Last.l0 k j 0 0
theorem spec_l4Last.calls (k : Nat) (J : Option Addr) (T : Nat) (l : List S82) (r : Int) (w : World) (X : Kd.C k82 w J l.length l) (U : l.length ≤ T) (h : spec_l4Last.f k l = some r) :
  Calls Try.prog 104 #[.slice J l.length T] w fun e w' => e = .returned (iv_ r) ∧ Below w.heap.size w w' := by
 have b0 := Try.underlying82
 have B := Aside0.mk X
 have a8 := Aside0.mk U
 clear X U
 have HB := Aside0.mk (Below.refl w.heap.size w)
 have H := h
 clear h
 unfold spec_l4Last.f at H
 have H' := Aside0.mk H
 clear H
 go_enter Try.func104, Try.ntmps104
 go_wp2
 go_loopg [3, 4] k (fun kq v3 v4 w' => ∃ (u : Int) (j : Int), v3 = iv_ u ∧ v4 = iv_ j ∧ Aside0 (spec_l4Last.l0 kq l u j = some r) ∧ Aside0 (kq ≤ k) ∧ Aside0 (Below w.heap.size w w'))
 case atStart => exact ⟨(0), (0), (by first | rfl | (simp; done) | (simp [*]; done)), (by first | rfl | (simp; done) | (simp [*]; done)), H', ⟨Nat.le_refl _⟩, ⟨bl_ HB⟩⟩
 case round =>
  clear H'
  obtain ⟨u, j, rfl, rfl, HA, z, HB⟩ := hrel
  cases gk with
  | zero => exact absurd HA.out (by simp [spec_l4Last.l0])
  | succ E =>
   have H := HA.out
   clear HA
   simp only [spec_l4Last.l0] at H
   by_cases c2 : j < (l.length : Int)
   ·rw [if_pos c2] at H
    have a3 := decide_eq_true c2
    clear c2
    replace H := ifn_ H
    obtain ⟨c3, H⟩ := H
    have a9 := decide_eq_true c3
    clear c3
    replace H := bs_ H
    obtain ⟨a5, L, H⟩ := H
    by_cases c5 : a5 = true
    ·subst c5
     rw [if_pos rfl] at H
     replace H := bs_ H
     obtain ⟨a0, A6, H⟩ := H
     have H' := Aside0.mk H
     clear H
     have m : 0 ≤ (j : Int) := od_
     have s : j < (l.length : Int) := od_
     obtain ⟨O, D, x, y⟩ := at_T82 B.out j m s
     cases D
     replace x := hbc_ HB x
     replace y := hbc_ HB y
     replace m := eq_true m
     replace s := eq_true s
     go_wp2_with (first | ((with_reducible refine gate_callee (f := 119) rfl ?_); refine gl_ 15 Try.func119 (spec_IsSpan.calls ((rd_T82 l j).f0) ((rd_T82 l j).f1) true _ L.out) ?_; rintro e w7 ⟨rfl, hb⟩; refine ⟨_, rfl, sh1_ (below_step (bl_ HB) hb) ?_⟩; clear HB hb; intro HB; have G : 0 ≤ (j : Int) := od_; have I : j < (l.length : Int) := od_; obtain ⟨a2, a4, Y, Z⟩ := at_T82 B.out j G I; obtain rfl : O = a2 := (by injection a4); replace Y := hbc_ HB Y; replace Z := hbc_ HB Z; replace G := eq_true G; replace I := eq_true I) | ((with_reducible refine gate_callee (f := 120) rfl ?_); refine gl_ 22 Try.func120 (spec_Max.calls u ((rd_T82 l j).f1) a0 _ A6.out) ?_; rintro e w' ⟨rfl, ⟨nd, rfl⟩⟩; refine ⟨_, rfl, ?_⟩))
     go_roundg E
     case measure => have := z.out; omega
     case rel => exact ⟨(a0), (wrap64 (j + 1)), (by first | rfl | (simp; done) | (simp [*]; done)), (by first | rfl | (simp; done) | (simp [*]; done)), H', ⟨by have := z.out; omega⟩, ⟨bl_ HB⟩⟩
    ·replace c5 := Bool.eq_false_iff.mpr c5
     subst c5
     have M : (spec_l4Last.l0 E l u (wrap64 (j + 1))) = some r := by rw [if_neg (show ¬ (false = true) by decide)] at H; exact H
     clear H
     have H := M
     clear M
     have H' := Aside0.mk H
     clear H
     have m : 0 ≤ (j : Int) := od_
     have s : j < (l.length : Int) := od_
     obtain ⟨O, D, x, y⟩ := at_T82 B.out j m s
     cases D
     replace x := hbc_ HB x
     replace y := hbc_ HB y
     replace m := eq_true m
     replace s := eq_true s
     go_wp2_with (first | ((with_reducible refine gate_callee (f := 119) rfl ?_); refine gl_ 15 Try.func119 (spec_IsSpan.calls ((rd_T82 l j).f0) ((rd_T82 l j).f1) false _ L.out) ?_; rintro e w8 ⟨rfl, hb⟩; refine ⟨_, rfl, sh1_ (below_step (bl_ HB) hb) ?_⟩; clear HB hb; intro HB))
     go_roundg E
     case measure => have := z.out; omega
     case rel => exact ⟨(u), (wrap64 (j + 1)), (by first | rfl | (simp; done) | (simp [*]; done)), (by first | rfl | (simp; done) | (simp [*]; done)), H', ⟨by have := z.out; omega⟩, ⟨bl_ HB⟩⟩
   ·rw [if_neg c2] at H
    have a3 := decide_eq_false c2
    clear c2
    obtain rfl := Option.some.inj H
    go_wp2
    go_ret
    exact ⟨by first | (rw [hRT_.out]; rfl) | exact er_, bl_ HB⟩

/-! ### spec_InSpan: function 121 -/
def spec_InSpan.f (j l m : Int) : Option (Bool) := (spec_IsSpan.f j l).bind fun s => (if s = true then (if j ≤ m then (some (decide (m < l))) else (some false)) else (some false))
theorem spec_InSpan.calls (l s x : Int) (r : Bool) (w : World) (h : spec_InSpan.f l s x = some r) :
  Calls Try.prog 121 #[.agg #[iv_ l, iv_ s], iv_ x] w fun e w' => e = .returned (.bool r) ∧ Below w.heap.size w w' := by
 have M := Try.underlying82
 have HB := Aside0.mk (Below.refl w.heap.size w)
 have H := h
 clear h
 unfold spec_InSpan.f at H
 replace H := bs_ H
 obtain ⟨D, u, H⟩ := H
 by_cases c4 : D = true
 ·subst c4
  rw [if_pos rfl] at H
  by_cases c5 : l ≤ x
  ·rw [if_pos c5] at H
   have B := decide_eq_true c5
   clear c5
   obtain rfl := Option.some.inj H
   go_enter Try.func121, Try.ntmps121
   go_wp2_with (first | ((with_reducible refine gd_ 2 ?_); refine bx_ 2 82 #[iv_ l, iv_ s] ?_; intro z hg Y hbox hb; refine sh3_ (below_step (bl_ HB) hb) hbox (ge_ hg (bl_ HB)) ?_; clear HB hb hbox hg; intro HB j m; have J := cf2_ j) | ((with_reducible refine gate_callee (f := 119) rfl ?_); refine gl_ 6 Try.func119 (spec_IsSpan.calls l s true _ u.out) ?_; rintro e Z ⟨rfl, hb⟩; refine ⟨_, rfl, sh2_ (blk_below (bk_ j) hb) (below_step (bl1_ HB m) hb) ?_⟩; clear j HB hb; intro j HB; have L := cf2_ j))
   go_ret
   exact ⟨by first | (rw [hRT_.out]; rfl) | exact er_, bl1_ HB m⟩
  ·rw [if_neg c5] at H
   have B := decide_eq_false c5
   clear c5
   obtain rfl := Option.some.inj H
   go_enter Try.func121, Try.ntmps121
   go_wp2_with (first | ((with_reducible refine gd_ 2 ?_); refine bx_ 2 82 #[iv_ l, iv_ s] ?_; intro z hg O hbox hb; refine sh3_ (below_step (bl_ HB) hb) hbox (ge_ hg (bl_ HB)) ?_; clear HB hb hbox hg; intro HB j m; have E := cf2_ j) | ((with_reducible refine gate_callee (f := 119) rfl ?_); refine gl_ 6 Try.func119 (spec_IsSpan.calls l s true _ u.out) ?_; rintro e T ⟨rfl, hb⟩; refine ⟨_, rfl, sh2_ (blk_below (bk_ j) hb) (below_step (bl1_ HB m) hb) ?_⟩; clear j HB hb; intro j HB; have G := cf2_ j))
   go_ret
   exact ⟨by first | (rw [hRT_.out]; rfl) | exact er_, bl1_ HB m⟩
 ·replace c4 := Bool.eq_false_iff.mpr c4
  subst c4
  have y : (some false) = some r := by rw [if_neg (show ¬ (false = true) by decide)] at H; exact H
  clear H
  have H := y
  clear y
  obtain rfl := Option.some.inj H
  go_enter Try.func121, Try.ntmps121
  go_wp2_with (first | ((with_reducible refine gd_ 2 ?_); refine bx_ 2 82 #[iv_ l, iv_ s] ?_; intro z hg U hbox hb; refine sh3_ (below_step (bl_ HB) hb) hbox (ge_ hg (bl_ HB)) ?_; clear HB hb hbox hg; intro HB j m; have I := cf2_ j) | ((with_reducible refine gate_callee (f := 119) rfl ?_); refine gl_ 6 Try.func119 (spec_IsSpan.calls l s false _ u.out) ?_; rintro e X ⟨rfl, hb⟩; refine ⟨_, rfl, sh2_ (blk_below (bk_ j) hb) (below_step (bl1_ HB m) hb) ?_⟩; clear j HB hb; intro j HB))
  go_ret
  exact ⟨by first | (rw [hRT_.out]; rfl) | exact er_, bl1_ HB m⟩

/-! ### spec_InSpans: function 105 -/
def spec_InSpans.l0 : Nat → List S82 → Int → Int → Option (Bool)
 | 0, _, _, _ => none
 | k + 1, l, m, j => if j < (l.length : Int) then (if 0 ≤ j then ((spec_InSpan.f ((rd_T82 l j).f0) ((rd_T82 l j).f1) m).bind fun s => (if s = true then (some true) else (spec_InSpans.l0 k l m (wrap64 (j + 1))))) else (none)) else (some false)
def spec_InSpans.f (k : Nat) (l : List S82) (j : Int) : Option (Bool) := spec_InSpans.l0 k l j 0
theorem spec_InSpans.calls (k : Nat) (B : Option Addr) (J : Nat) (l : List S82) (u : Int) (r : Bool) (w : World) (M : Kd.C k82 w B l.length l) (L : l.length ≤ J) (h : spec_InSpans.f k l u = some r) :
  Calls Try.prog 105 #[.slice B l.length J, iv_ u] w fun e w' => e = .returned (.bool r) ∧ Below w.heap.size w w' := by
 have a2 := Try.underlying82
 have I := Aside0.mk M
 have Z := Aside0.mk L
 clear M L
 have HB := Aside0.mk (Below.refl w.heap.size w)
 have H := h
 clear h
 unfold spec_InSpans.f at H
 have H' := Aside0.mk H
 clear H
 go_enter Try.func105, Try.ntmps105
 go_wp2
 go_loopg [5] k (fun kq Y w' => ∃ (j : Int), Y = iv_ j ∧ Aside0 (spec_InSpans.l0 kq l u j = some r) ∧ Aside0 (kq ≤ k) ∧ Aside0 (Below w.heap.size w w'))
 case atStart => exact ⟨(0), (by first | rfl | (simp; done) | (simp [*]; done)), H', ⟨Nat.le_refl _⟩, ⟨bl_ HB⟩⟩
 case round =>
  clear H'
  obtain ⟨j, rfl, HA, G, HB⟩ := hrel
  cases gk with
  | zero => exact absurd HA.out (by simp [spec_InSpans.l0])
  | succ O =>
   have H := HA.out
   clear HA
   simp only [spec_InSpans.l0] at H
   by_cases c3 : j < (l.length : Int)
   ·rw [if_pos c3] at H
    have U := decide_eq_true c3
    clear c3
    replace H := ifn_ H
    obtain ⟨c4, H⟩ := H
    have a0 := decide_eq_true c4
    clear c4
    replace H := bs_ H
    obtain ⟨X, D, H⟩ := H
    by_cases c6 : X = true
    ·subst c6
     rw [if_pos rfl] at H
     obtain rfl := Option.some.inj H
     have m : 0 ≤ (j : Int) := od_
     have s : j < (l.length : Int) := od_
     obtain ⟨T, z, x, y⟩ := at_T82 I.out j m s
     cases z
     replace x := hbc_ HB x
     replace y := hbc_ HB y
     replace m := eq_true m
     replace s := eq_true s
     go_wp2_with (first | ((with_reducible refine gate_callee (f := 121) rfl ?_); refine gl_ 17 Try.func121 (spec_InSpan.calls ((rd_T82 l j).f0) ((rd_T82 l j).f1) u true _ D.out) ?_; rintro e w7 ⟨rfl, hb⟩; refine ⟨_, rfl, sh1_ (below_step (bl_ HB) hb) ?_⟩; clear HB hb; intro HB))
     go_ret
     exact ⟨by first | (rw [hRT_.out]; rfl) | exact er_, bl_ HB⟩
    ·replace c6 := Bool.eq_false_iff.mpr c6
     subst c6
     have E : (spec_InSpans.l0 O l u (wrap64 (j + 1))) = some r := by rw [if_neg (show ¬ (false = true) by decide)] at H; exact H
     clear H
     have H := E
     clear E
     have H' := Aside0.mk H
     clear H
     have m : 0 ≤ (j : Int) := od_
     have s : j < (l.length : Int) := od_
     obtain ⟨T, z, x, y⟩ := at_T82 I.out j m s
     cases z
     replace x := hbc_ HB x
     replace y := hbc_ HB y
     replace m := eq_true m
     replace s := eq_true s
     go_wp2_with (first | ((with_reducible refine gate_callee (f := 121) rfl ?_); refine gl_ 17 Try.func121 (spec_InSpan.calls ((rd_T82 l j).f0) ((rd_T82 l j).f1) u false _ D.out) ?_; rintro e w8 ⟨rfl, hb⟩; refine ⟨_, rfl, sh1_ (below_step (bl_ HB) hb) ?_⟩; clear HB hb; intro HB))
     go_roundg O
     case measure => have := G.out; omega
     case rel => exact ⟨(wrap64 (j + 1)), (by first | rfl | (simp; done) | (simp [*]; done)), H', ⟨by have := G.out; omega⟩, ⟨bl_ HB⟩⟩
   ·rw [if_neg c3] at H
    have U := decide_eq_false c3
    clear c3
    obtain rfl := Option.some.inj H
    go_wp2
    go_ret
    exact ⟨by first | (rw [hRT_.out]; rfl) | exact er_, bl_ HB⟩

/-! ### spec_l4Put: function 106 -/
def spec_l4Put.f (j : List S82) (l : Int) : Option (List S82) := if (j.length : Int) > 0 then (if 0 ≤ (wrap64 ((j.length : Int) - 1)) then (if (wrap64 ((j.length : Int) - 1)) < (j.length : Int) then (if ((rd_T82 j (wrap64 ((j.length : Int) - 1))).f1) = l then (some (j.set ((wrap64 ((j.length : Int) - 1)) : Int).toNat (⟨(rd_T82 j (wrap64 ((j.length : Int) - 1))).f0, wrap64 (l + 1)⟩ : S82))) else (if j.length < 8796093022208 then (some (j ++ [(⟨l, wrap64 (l + 1)⟩ : S82)])) else (none))) else (none)) else (none)) else (if j.length < 8796093022208 then (some (j ++ [(⟨l, wrap64 (l + 1)⟩ : S82)])) else (none))
theorem spec_l4Put.calls (x : Nat → Prop) (O : Value) (l : List S82) (m : Int) (r : List S82) (u w : World) (hB : Below u.heap.size u w) (e1 : Kd.R k82 82 w u.heap.size x O l) (h : spec_l4Put.f l m = some r) :
  Calls Try.prog 106 #[O, iv_ m] w fun e w' => ∃ b1 : Value, e = .returned (b1) ∧ Kd.R k82 82 w' u.heap.size (fun k_ => (x k_ ∨ w.heap.size ≤ k_)) b1 r ∧ Below u.heap.size u w' ∧ Kept w w' (fun k_ => x k_) := by
 have g0 := Try.underlying82
 have s := Aside0.mk (show Kd.R k82 82 w u.heap.size (fun k_ => (x k_ ∨ w.heap.size ≤ k_)) O l from Kd.R_mono e1 (fun k_ hk => (.inl hk)))
 have HK := Aside0.mk (Kept.refl w (fun k_ => x k_))
 have e8 := Aside0.mk hB.size
 have HB := Aside0.mk hB
 clear hB
 have H := h
 clear h
 unfold spec_l4Put.f at H
 by_cases c3 : (l.length : Int) > 0
 ·rw [if_pos c3] at H
  have c1 : decide (0 < (l.length : Int)) = true := decide_eq_true c3
  have d0 : decide (0 < l.length) = true := decide_eq_true (by omega)
  clear c3
  obtain ⟨ji4, hji4⟩ : ∃ j_ : Int, (wrap64 ((l.length : Int) - 1)) = j_ := ⟨_, rfl⟩
  replace H : (if 0 ≤ (ji4) then (if (ji4) < (l.length : Int) then (if ((rd_T82 l (ji4)).f1) = m then (some (l.set ((ji4) : Int).toNat (⟨(rd_T82 l (ji4)).f0, wrap64 (m + 1)⟩ : S82))) else (if l.length < 8796093022208 then (some (l ++ [(⟨m, wrap64 (m + 1)⟩ : S82)])) else (none))) else (none)) else (none)) = some r := by first | (rw [hji4] at H; exact H) | (simp only [hji4] at H ⊢; exact H)
  have f9 : (IntKind.i64.wrap ((l.length : Int) - 1)) = ji4 := (i64_w _).trans hji4
  replace H := ifn_ H
  obtain ⟨c5, H⟩ := H
  have e9 := decide_eq_true c5
  clear c5
  replace H := ifn_ H
  obtain ⟨c6, H⟩ := H
  have f2 := decide_eq_true c6
  clear c6
  by_cases c7 : ((rd_T82 l (ji4)).f1) = m
  ·rw [if_pos c7] at H
   obtain ⟨d1, d2⟩ := bt_ c7
   clear c7
   replace H : ∃ y_ : List S82, Aside0 (y_ = (l.set ((ji4) : Int).toNat (⟨(rd_T82 l (ji4)).f0, wrap64 (m + 1)⟩ : S82))) ∧ (some y_) = some r := ⟨_, ⟨rfl⟩, yh_ H⟩
   obtain ⟨e3, b8, H⟩ := H
   obtain rfl := Option.some.inj H
   obtain ⟨e5, a2, d7⟩ := Kd.R_slice s.out
   subst d7
   have z : 0 ≤ ((ji4) : Int) := od_
   have B : (ji4) < (l.length : Int) := od_
   obtain ⟨Y, E, a9, b0⟩ := at_T82 (Kd.R_reads' s.out).2.2 (ji4) z B
   cases E
   replace z := eq_true z
   replace B := eq_true B
   have L : 0 ≤ ((ji4) : Int) := od_
   have M : ((ji4) : Int) < ((l.length : Int) : Int) := od_
   obtain ⟨y, f6, a3, a4, d8, f5, U⟩ := Kd.R_form s.out (by omega)
   (first | cases a3 | (injection a3 with ea_ en_ ec_; (first | subst ea_ | (injection ea_ with ea_; subst ea_)); subst ec_; clear en_))
   have b3 := Aside0.mk a4
   have e6 := Aside0.mk U
   clear a4 d8 U
   have e7 := Aside0.mk (show (x y ∨ w.heap.size ≤ y) from (s.out.1 _ rfl))
   (first | simp only [add_plain] at a9 | skip)
   (first | simp only [add_plain] at b0 | skip)
   obtain ⟨f4, d9, a6, I, J⟩ := Kd.R_elem s.out z82 ((ji4) : Int) L M
   obtain rfl := k82_openM a6
   have g1 : w.cell? ⟨y, ((ji4) : Int).toNat * 2, none⟩ = some (iv_ ((rd_T82 l (ji4)).f0)) := I 0 _ rfl
   have g2 : w.cell? ⟨y, ((ji4) : Int).toNat * 2 + 1, none⟩ = some (iv_ ((rd_T82 l (ji4)).f1)) := I 1 _ rfl
   have f7 : w.frozen? ⟨y, ((ji4) : Int).toNat * 2, none⟩ = false := J 0
   have f8 : w.frozen? ⟨y, ((ji4) : Int).toNat * 2 + 1, none⟩ = false := J 1
   clear d9 I J a6
   replace L := eq_true L
   replace M := eq_true M
   have X := Aside0.mk (show Kd.R k82 82 w u.heap.size (fun k_ => (x k_ ∨ w.heap.size ≤ k_)) (.slice (some ⟨y, 0, none⟩) l.length a2) l from (ra_ s))
   obtain ⟨f3, a7, a5, G, a8⟩ := Kd.R_elem X.out z82 ((ji4) : Int) od_ (by have h_ : ((ji4) : Int) < ((l.length : Int) : Int) := od_; first | exact h_ | (have e_ := (Kd.R_reads' s.out).1; omega) | simpa using h_)
   obtain rfl := k82_openM a5
   have D := Kd.R_seg X.out ((ji4) : Int) od_ (by have h_ : ((ji4) : Int) < ((l.length : Int) : Int) := od_; first | exact h_ | (have e_ := (Kd.R_reads' s.out).1; omega) | simpa using h_) (seg := [iv_ (wrap64 (m + 1))]) (j := 1) a7 G (show 2 ≤ 2 from by decide) (x' := (⟨(rd_T82 l (ji4)).f0, wrap64 (m + 1)⟩ : S82)) (k82_mkM _ _ _ (⟨(rd_T82 l (ji4)).f0, wrap64 (m + 1)⟩ : S82) ) (fun _ hk => hk)
   have e2 := G 1 _ rfl
   (try simp only [show (k82).sz = 2 from rfl, Nat.mul_one, Nat.add_zero] at e2)
   have e0 := a8 1
   (try simp only [show (k82).sz = 2 from rfl, Nat.mul_one, Nat.add_zero] at e0)
   clear a7 G a8 a5
   go_enter Try.func106, Try.ntmps106
   go_wp2_with (first | ((with_reducible refine gate_store (t := 3) (p := 26) rfl ?_); refine store_event (t := 3) (p := 26) (v := ?vo_w11) (w1 := (w.setCell ⟨y, ((ji4) : Int).toNat * 2 + 1, none⟩ (iv_ (wrap64 (m + 1))))) ?hg ?ho ?hn ?hr ?_; (case ho => rfl); (case hg => rfl); (case hn => rfl); (case hr => first | (go_simp; done) | (go_simp; rfl)); intro T hw; have hg : w.grownBy T (some y) := (by rw [hw]; exact D.2); have hp_ : Kd.R k82 82 T u.heap.size (fun k_ => (x k_ ∨ w.heap.size ≤ k_)) (.slice (some ⟨y, 0, none⟩) l.length a2) e3 := (by rw [hw, b8.out]; exact D.1); clear D; refine sh3_ hp_ ((by rw [hw]; exact below_set (HB.out) b3.out : Below u.heap.size u T)) (Kept.of_grown (S := (fun k_ => x k_)) hg (by repeat (first | (with_reducible first | exact HK.out | apply Kept.alloc | apply Kept.drewN | apply Kept.drew) | exact HK.out)) (fun k_ e_ => (s.out.1 k_ e_))) ?_; clear s HB HK; intro s HB HK; clear hg hw hp_))
   go_ret
   exact ⟨_, by first | rfl | (rw [hRT_.out]; rfl) | (simp [errW_none, errW_some] <;> rfl) | (simp only [← hji4]; first | rfl | (simp [errW_none, errW_some] <;> rfl)) | (simp [*, errW_none, errW_some] <;> rfl), ra_ s, bl_ HB, by repeat (first | (with_reducible first | exact HK.out | apply Kept.alloc | apply Kept.drewN | apply Kept.drew) | exact HK.out)⟩
  ·rw [if_neg c7] at H
   obtain ⟨d1, d2⟩ := bn_ c7
   replace H := ifn_ H
   obtain ⟨Z, H⟩ := H
   have b6 := Aside0.mk Z
   clear Z
   replace H : ∃ y_ : List S82, Aside0 (y_ = (l ++ [(⟨m, wrap64 (m + 1)⟩ : S82)])) ∧ (some y_) = some r := ⟨_, ⟨rfl⟩, yh_ H⟩
   obtain ⟨g7, b9, H⟩ := H
   obtain rfl := Option.some.inj H
   obtain ⟨e4, d3, d5⟩ := Kd.R_slice s.out
   subst d5
   have z : 0 ≤ ((ji4) : Int) := od_
   have B : (ji4) < (l.length : Int) := od_
   obtain ⟨Y, E, a9, b0⟩ := at_T82 (Kd.R_reads' s.out).2.2 (ji4) z B
   cases E
   replace z := eq_true z
   replace B := eq_true B
   go_enter Try.func106, Try.ntmps106
   go_wp2_with (first | ((with_reducible refine gate_builtin (b := .append) (xs := #[.tmp 28, .tmp 33]) rfl ?_); (try (refine gate_guard (by rfl) ?_; dsimp only)); at_builtin; refine Kd.R_append k82 (w0 := u) u.heap.size rfl (.tmp 28) (.tmp 33) 40 82 (.agg #[(iv_ 0), (iv_ 0)]) 16 rfl Try.underlying40 info82 rfl (by decide) (by omega) (.slice (some Y) l.length d3) l (⟨m, wrap64 (m + 1)⟩ : S82) [iv_ m, iv_ (wrap64 (m + 1))] (fun k_ => (x k_ ∨ w.heap.size ≤ k_)) (fun _ => False) rfl rfl ?aP (fun _ hk => hk.elim) ?aF ?aO ?aB ?aS ?aL ?_; (case aP => exact k82_mkM _ _ _ (⟨m, wrap64 (m + 1)⟩ : S82)); (case aB => exact (bl_ HB)); (case aF => exact (fun k_ hk => (.inr (Nat.le_trans (by first | exact HK.out.1 | exact (show Kept w _ (fun k_ => x k_) from by repeat (first | (with_reducible first | exact HK.out | apply Kept.alloc | apply Kept.drewN | apply Kept.drew) | exact HK.out)).1) hk)))); (case aO => exact (ra_ s)); (case aS => exact (below_size (bl_ HB))); (case aL => have := b6.out; omega); intro g3 g5 ho hb hg hat; rw [← b9.out] at ho; refine sh3_ hb (Kept.of_grown (S := (fun k_ => x k_)) hg (by repeat (first | (with_reducible first | exact HK.out | apply Kept.alloc | apply Kept.drewN | apply Kept.drew) | exact HK.out)) (fun k_ e_ => (s.out.1 k_ e_))) ho ?_; clear HB HK s ho hb hg hat; intro HB HK b4))
   go_ret
   exact ⟨_, by first | rfl | (rw [hRT_.out]; rfl) | (simp [errW_none, errW_some] <;> rfl) | (simp only [← hji4]; first | rfl | (simp [errW_none, errW_some] <;> rfl)) | (simp [*, errW_none, errW_some] <;> rfl), ra_ b4, bl_ HB, by repeat (first | (with_reducible first | exact HK.out | apply Kept.alloc | apply Kept.drewN | apply Kept.drew) | exact HK.out)⟩
 ·rw [if_neg c3] at H
  have c1 : decide (0 < (l.length : Int)) = false := decide_eq_false c3
  have d0 : decide (0 < l.length) = false := decide_eq_false (by omega)
  clear c3
  replace H := ifn_ H
  obtain ⟨a0, H⟩ := H
  have b7 := Aside0.mk a0
  clear a0
  replace H : ∃ y_ : List S82, Aside0 (y_ = (l ++ [(⟨m, wrap64 (m + 1)⟩ : S82)])) ∧ (some y_) = some r := ⟨_, ⟨rfl⟩, yh_ H⟩
  obtain ⟨g8, c0, H⟩ := H
  obtain rfl := Option.some.inj H
  obtain ⟨b2, d4, d6⟩ := Kd.R_slice s.out
  subst d6
  go_enter Try.func106, Try.ntmps106
  go_wp2_with (first | ((with_reducible refine gate_builtin (b := .append) (xs := #[.tmp 28, .tmp 33]) rfl ?_); (try (refine gate_guard (by rfl) ?_; dsimp only)); at_builtin; refine Kd.R_append k82 (w0 := u) u.heap.size rfl (.tmp 28) (.tmp 33) 40 82 (.agg #[(iv_ 0), (iv_ 0)]) 16 rfl Try.underlying40 info82 rfl (by decide) (by omega) (.slice b2 l.length d4) l (⟨m, wrap64 (m + 1)⟩ : S82) [iv_ m, iv_ (wrap64 (m + 1))] (fun k_ => (x k_ ∨ w.heap.size ≤ k_)) (fun _ => False) rfl rfl ?aP (fun _ hk => hk.elim) ?aF ?aO ?aB ?aS ?aL ?_; (case aP => exact k82_mkM _ _ _ (⟨m, wrap64 (m + 1)⟩ : S82)); (case aB => exact (bl_ HB)); (case aF => exact (fun k_ hk => (.inr (Nat.le_trans (by first | exact HK.out.1 | exact (show Kept w _ (fun k_ => x k_) from by repeat (first | (with_reducible first | exact HK.out | apply Kept.alloc | apply Kept.drewN | apply Kept.drew) | exact HK.out)).1) hk)))); (case aO => exact (ra_ s)); (case aS => exact (below_size (bl_ HB))); (case aL => have := b7.out; omega); intro g4 g6 ho hb hg hat; rw [← c0.out] at ho; refine sh3_ hb (Kept.of_grown (S := (fun k_ => x k_)) hg (by repeat (first | (with_reducible first | exact HK.out | apply Kept.alloc | apply Kept.drewN | apply Kept.drew) | exact HK.out)) (fun k_ e_ => (s.out.1 k_ e_))) ho ?_; clear HB HK s ho hb hg hat; intro HB HK b5))
  go_ret
  exact ⟨_, by first | (rw [hRT_.out]; rfl) | exact er_, ra_ b5, bl_ HB, by repeat (first | (with_reducible first | exact HK.out | apply Kept.alloc | apply Kept.drewN | apply Kept.drew) | exact HK.out)⟩

/-! ### spec_CutSpans: function 71 -/
def spec_CutSpans.l0 : Nat → List S82 → List S82 → List S82 → Int → Int → Option (List S82)
 | 0, _, _, _, _, _ => none
 | k + 1, l, m, s, u, j => if j < u then ((spec_InSpans.f k l j).bind fun x => (if x = true then ((spec_InSpans.f k m j).bind fun y => (if y = true then (spec_CutSpans.l0 k l m s u (wrap64 (j + 1))) else ((spec_l4Put.f s j).bind fun z => (spec_CutSpans.l0 k l m z u (wrap64 (j + 1)))))) else (spec_CutSpans.l0 k l m s u (wrap64 (j + 1))))) else (some s)
def spec_CutSpans.f (k : Nat) (j l : List S82) : Option (List S82) := (spec_l4Last.f k j).bind fun m => (spec_CutSpans.l0 k j l (([] : List S82)) m 0)
theorem spec_CutSpans.calls (k : Nat) (U : Option Addr) (c0 : Nat) (m : List S82) (X : Option Addr) (c1 : Nat) (s r : List S82) (w : World) (a7 : Kd.C k82 w U m.length m) (a4 : m.length ≤ c0) (a8 : Kd.C k82 w X s.length s) (a5 : s.length ≤ c1) (h : spec_CutSpans.f k m s = some r) :
  Calls Try.prog 71 #[.slice U m.length c0, .slice X s.length c1] w fun e w' => ∃ a9 : Value, e = .returned (a9) ∧ Kd.R k82 82 w' w.heap.size (fun _ => True) a9 r ∧ Below w.heap.size w w' := by
 have I := Aside0.mk a7
 have E := Aside0.mk a4
 clear a7 a4
 have a0 := Aside0.mk a8
 have Z := Aside0.mk a5
 clear a8 a5
 have HB := Aside0.mk (Below.refl w.heap.size w)
 have H := h
 clear h
 unfold spec_CutSpans.f at H
 replace H : ∃ y_ : List S82, Aside0 (y_ = (([] : List S82))) ∧ ((spec_l4Last.f k m).bind fun y => (spec_CutSpans.l0 k m s y_ y 0)) = some r := ⟨_, ⟨rfl⟩, yh_ H⟩
 obtain ⟨b9, a1, H⟩ := H
 replace H := bs_ H
 obtain ⟨y, A3, H⟩ := H
 have H' := Aside0.mk H
 clear H
 go_enter Try.func71, Try.ntmps71
 go_wp2_with (first | ((with_reducible refine gate_dst (N := 8) rfl ?_); refine Kd.R_lit k82 _ 82 ?hg (N := 8) ?hd (xs := ([] : List S82)) (inner := []) (ok := fun _ => True) (okp := fun _ => True) ?hr ?hp (fun _ hk => hk) trivial (Below.refl _ _) (Nat.le_refl _) (by simp) ?_; (case hd => rfl); (case hg => rfl); (case hr => first | (go_simp; done) | (go_simp; rfl)); (case hp => exact (Reps.none _ _)); intro d0 w4 D hb hg_ hnew_; clear hg_ hnew_; (first | rw [← a1.out] at D | (simp only [Int.reduceToNat] at D; rw [← a1.out] at D)); refine sh2_ (Kd.R_lower D (below_size (bl_ HB))) (below_step (bl_ HB) hb) ?_; clear HB hb D; intro G HB) | ((with_reducible refine gate_callee (f := 104) rfl ?_); refine gl_ 10 Try.func104 (spec_l4Last.calls k _ _ m y _ (ck_ I HB) E.out A3.out) ?_; rintro e w6 ⟨rfl, hb⟩; refine ⟨_, rfl, sh2_ (Kd.R_below (ra_ G) hb) (below_step (bl_ HB) hb) ?_⟩; clear G HB hb; intro G HB))
 go_loopg [5, 7] k (fun kq v5 v7 w' => ∃ (u : List S82) (l : Int), v7 = iv_ l ∧ Aside0 (spec_CutSpans.l0 kq m s u y l = some r) ∧ Aside0 (kq ≤ k) ∧ Aside0 (Kd.R k82 82 w' w.heap.size (fun _ => True) v5 u) ∧ Aside0 (Below w.heap.size w w'))
 case atStart => exact ⟨(b9), (0), (by first | rfl | (simp; done) | (simp [*]; done)), H', ⟨Nat.le_refl _⟩, ⟨ra_ G⟩, ⟨bl_ HB⟩⟩
 case round =>
  clear H'
  obtain ⟨u, l, rfl, HA, z, j, HB⟩ := hrel
  cases gk with
  | zero => exact absurd HA.out (by simp [spec_CutSpans.l0])
  | succ x =>
   have H := HA.out
   clear HA
   simp only [spec_CutSpans.l0] at H
   by_cases c7 : l < y
   ·rw [if_pos c7] at H
    have b3 := decide_eq_true c7
    clear c7
    replace H := bs_ H
    obtain ⟨b5, M, H⟩ := H
    by_cases c9 : b5 = true
    ·subst c9
     rw [if_pos rfl] at H
     replace H := bs_ H
     obtain ⟨b6, Y, H⟩ := H
     by_cases J : b6 = true
     ·subst J
      rw [if_pos rfl] at H
      have H' := Aside0.mk H
      clear H
      go_wp2_with (first | ((with_reducible refine gate_callee (f := 105) rfl ?_); refine gl_ 18 Try.func105 (spec_InSpans.calls x _ _ m l true _ (ck_ I HB) E.out M.out) ?_; rintro e d2 ⟨rfl, hb⟩; refine ⟨_, rfl, sh2_ (Kd.R_below (ra_ j) hb) (below_step (bl_ HB) hb) ?_⟩; clear j HB hb; intro j HB) | (go_at_call 105; (with_reducible refine (spec_InSpans.calls x _ _ s l true _ ?side1 ?side2 Y.out).mono ?_); (case side1 => exact ck_ a0 HB); (case side2 => exact Z.out); rintro e d3 ⟨rfl, hb⟩; refine sh2_ (Kd.R_below (ra_ j) hb) (below_step (bl_ HB) hb) ?_; clear j HB hb; intro j HB))
      go_roundg x
      case measure => have := z.out; omega
      case rel => exact ⟨(u), (wrap64 (l + 1)), (by first | rfl | (simp; done) | (simp [*]; done)), H', ⟨by have := z.out; omega⟩, ⟨ra_ j⟩, ⟨bl_ HB⟩⟩
     ·replace J := Bool.eq_false_iff.mpr J
      subst J
      have B : ((spec_l4Put.f u l).bind fun L => (spec_CutSpans.l0 x m s L y (wrap64 (l + 1)))) = some r := by rw [if_neg (show ¬ (false = true) by decide)] at H; exact H
      clear H
      have H := B
      clear B
      replace H := bs_ H
      obtain ⟨L, b0, H⟩ := H
      have H' := Aside0.mk H
      clear H
      go_wp2_with (first | ((with_reducible refine gate_callee (f := 105) rfl ?_); refine gl_ 18 Try.func105 (spec_InSpans.calls x _ _ m l true _ (ck_ I HB) E.out M.out) ?_; rintro e d4 ⟨rfl, hb⟩; refine ⟨_, rfl, sh2_ (Kd.R_below (ra_ j) hb) (below_step (bl_ HB) hb) ?_⟩; clear j HB hb; intro j HB) | (go_at_call 105; (with_reducible refine (spec_InSpans.calls x _ _ s l false _ ?side1 ?side2 Y.out).mono ?_); (case side1 => exact ck_ a0 HB); (case side2 => exact Z.out); rintro e d5 ⟨rfl, hb⟩; refine sh2_ (Kd.R_below (ra_ j) hb) (below_step (bl_ HB) hb) ?_; clear j HB hb; intro j HB; obtain ⟨O, T, b4⟩ := Kd.R_slice j.out; subst b4) | ((with_reducible refine gate_callee (f := 106) rfl ?_); refine goesL_ (some 27) rfl rfl Try.func106 (by kernel_rfl) rfl #[.slice O u.length T, iv_ l] rfl mp_ ?_; (with_reducible refine (spec_l4Put.calls (fun k_ => some k_ = (.slice O u.length T : Value).ownBlock) (.slice O u.length T) u l L w _ ?side1 ?side2 b0.out).mono ?_); (case side1 => repeat (first | (with_reducible first | exact HB.out | apply below_alloc | apply pw_below_drewN | apply below_drew1) | exact HB.out)); (case side2 => exact Kd.R_tight rfl j.out); rintro e d6 ⟨d1, rfl, a6, hb, hkp⟩; refine ⟨_, rfl, sh2_ (Kd.R_mono (ok' := fun k_ => True) a6 (fun k_ hk_ => trivial)) hb ?_⟩; clear HB j hb hkp a6; intro b2 HB))
      go_roundg x
      case measure => have := z.out; omega
      case rel => exact ⟨(L), (wrap64 (l + 1)), (by first | rfl | (simp; done) | (simp [*]; done)), H', ⟨by have := z.out; omega⟩, ⟨ra_ b2⟩, ⟨bl_ HB⟩⟩
    ·replace c9 := Bool.eq_false_iff.mpr c9
     subst c9
     have B : (spec_CutSpans.l0 x m s u y (wrap64 (l + 1))) = some r := by rw [if_neg (show ¬ (false = true) by decide)] at H; exact H
     clear H
     have H := B
     clear B
     have H' := Aside0.mk H
     clear H
     go_wp2_with (first | ((with_reducible refine gate_callee (f := 105) rfl ?_); refine gl_ 18 Try.func105 (spec_InSpans.calls x _ _ m l false _ (ck_ I HB) E.out M.out) ?_; rintro e d7 ⟨rfl, hb⟩; refine ⟨_, rfl, sh2_ (Kd.R_below (ra_ j) hb) (below_step (bl_ HB) hb) ?_⟩; clear j HB hb; intro j HB))
     go_roundg x
     case measure => have := z.out; omega
     case rel => exact ⟨(u), (wrap64 (l + 1)), (by first | rfl | (simp; done) | (simp [*]; done)), H', ⟨by have := z.out; omega⟩, ⟨ra_ j⟩, ⟨bl_ HB⟩⟩
   ·rw [if_neg c7] at H
    have b3 := decide_eq_false c7
    clear c7
    obtain rfl := Option.some.inj H
    go_wp2
    go_ret
    exact ⟨_, by first | (rw [hRT_.out]; rfl) | exact er_, ra_ j, bl_ HB⟩

/-! ### spec_Min: function 122 -/
def spec_Min.f (j l : Int) : Option (Int) := if l < j then (some l) else (some j)
theorem spec_Min.calls (j l r : Int) (w : World) (h : spec_Min.f j l = some r) :
  Calls Try.prog 122 #[iv_ j, iv_ l] w fun e w' => e = .returned (iv_ r) ∧ Drawn0 w w' := by
 have H := h
 clear h
 unfold spec_Min.f at H
 by_cases c3 : l < j
 ·rw [if_pos c3] at H
  have m := decide_eq_true c3
  clear c3
  obtain rfl := Option.some.inj H
  go_enter Try.func122, Try.ntmps122
  go_wp2
  go_ret
  exact ⟨by first | rfl | (simp; done) | (simp [*]; done), by repeat (first | exact Drawn0.refl _ | apply Drawn0.step)⟩
 ·rw [if_neg c3] at H
  have m := decide_eq_false c3
  clear c3
  obtain rfl := Option.some.inj H
  go_enter Try.func122, Try.ntmps122
  go_wp2
  go_ret
  exact ⟨by first | rfl | (simp; done) | (simp [*]; done), by repeat (first | exact Drawn0.refl _ | apply Drawn0.step)⟩

/-! ### spec_l8Ticks: function 107 -/
def spec_l8Ticks.f (j l : Int) : Option (Int × Int) := (spec_Max.f 0 j).bind fun m => ((spec_Min.f 1000 m).bind fun s => ((spec_Min.f 1000 l).bind fun u => ((spec_Max.f 0 u).bind fun x => (some (s, x)))))
theorem spec_l8Ticks.calls (j l m s : Int) (w : World) (h : spec_l8Ticks.f j l = some (m, s)) :
  Calls Try.prog 107 #[iv_ j, iv_ l] w fun e w' => e = .returned (.tuple #[iv_ m, iv_ s]) ∧ Drawn0 w w' := by
 have H := h
 clear h
 unfold spec_l8Ticks.f at H
 replace H := bs_ H
 obtain ⟨u, y, H⟩ := H
 replace H := bs_ H
 obtain ⟨E, z, H⟩ := H
 replace H := bs_ H
 obtain ⟨x, B, H⟩ := H
 replace H := bs_ H
 obtain ⟨G, D, H⟩ := H
 simp only [Option.some.injEq, Prod.mk.injEq] at H
 obtain ⟨rfl, rfl⟩ := H
 go_enter Try.func107, Try.ntmps107
 go_wp2_with (first | ((with_reducible refine gate_callee (f := 120) rfl ?_); refine gl_ 7 Try.func120 (spec_Max.calls 0 j u _ y.out) ?_; rintro e w' ⟨rfl, ⟨nd, rfl⟩⟩; refine ⟨_, rfl, ?_⟩) | ((with_reducible refine gate_callee (f := 122) rfl ?_); refine gl_ 8 Try.func122 (spec_Min.calls 1000 u E _ z.out) ?_; rintro e w' ⟨rfl, ⟨nd, rfl⟩⟩; refine ⟨_, rfl, ?_⟩) | ((with_reducible refine gate_callee (f := 122) rfl ?_); refine gl_ 10 Try.func122 (spec_Min.calls 1000 l x _ B.out) ?_; rintro e w' ⟨rfl, ⟨nd, rfl⟩⟩; refine ⟨_, rfl, ?_⟩) | ((with_reducible refine gate_callee (f := 120) rfl ?_); refine gl_ 11 Try.func120 (spec_Max.calls 0 x G _ D.out) ?_; rintro e w' ⟨rfl, ⟨nd, rfl⟩⟩; refine ⟨_, rfl, ?_⟩))
 go_ret2
 exact ⟨by first | rfl | (simp; done) | (simp [*]; done), by repeat (first | exact Drawn0.refl _ | apply Drawn0.step)⟩

end Go.Proofs.Ytopbkdcicidajaa.PFnSilence
