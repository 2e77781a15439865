-- Written by a program of this session for this claim (the kit's printer with changes).
import Derived.Test.YtopbkdcicidajaaQFnContactsx0
import Derived.Test.YtopbkdcicidajaaQFnContactsx9
import Derived.Test.YtopbkdcicidajaaQFnContactsx12
namespace Go.Proofs.Ytopbkdcicidajaa.PFnContacts
open Go.RowKit Go.Proofs.YtopbkdcicidajaaW.PrintWords Go.Proofs.YtopbkdcicidajaaW.PrintLast Go.Proofs.YtopbkdcicidajaaW.PrintMore
attribute [local go_sem] max2_int min2_int max_two min_two max_three min_three max_four min_four   -- for this text's walks alone
set_option linter.unusedVariables false
set_option maxHeartbeats 8000000
set_option maxRecDepth 100000
set_option linter.unusedSimpArgs false

/-! ### impl_IsPlan: function 40 -/
def impl_IsPlan.l0 : Nat → List S53 → Int → List S53 → Int → Int → Option (Bool)
 | 0, _, _, _, _, _ => none
 | k + 1, m, s, l, u, j => if j < u then (if 0 ≤ j then (if j < (l.length : Int) then ((impl_IsContact.f ((rd_T53 l j).f0) ((rd_T53 l j).f1) ((rd_T53 l j).f2) ((rd_T53 l j).f3) s).bind fun y => (if y = true then (if j = 0 then (impl_IsPlan.l0 k m s l u (wrap64 (j + 1))) else (if 0 ≤ (wrap64 (j - 1)) then (if (wrap64 (j - 1)) < (m.length : Int) then ((cmp_Compare_int.f ((rd_T53 m (wrap64 (j - 1))).f0) ((rd_T53 l j).f0)).bind fun z => ((cmp_Compare_int.f ((rd_T53 m (wrap64 (j - 1))).f1) ((rd_T53 l j).f1)).bind fun B => ((cmp_Or_int.f k (([z, B] : List Int))).bind fun x => (if x > 0 then (some false) else (if x = 0 then (if ((rd_T53 m (wrap64 (j - 1))).f3) ≥ ((rd_T53 l j).f2) then (some false) else (impl_IsPlan.l0 k m s l u (wrap64 (j + 1)))) else (impl_IsPlan.l0 k m s l u (wrap64 (j + 1)))))))) else (none)) else (none))) else (some false))) else (none)) else (none)) else (some true)
def impl_IsPlan.f (k : Nat) (j : List S53) (l : Int) : Option (Bool) := impl_IsPlan.l0 k j l j (j.length : Int) 0
def impl_IsPlan.T8 : Bool × List (List Nat × List Nat) := (true, [([], []), ([0], [0]), ([], []), ([2], [2]), ([1, 3], [1, 3]), ([], []), ([5], [5]), ([], []), ([7], [7]), ([6, 8, 4], [6, 8]), ([4, 9], [4, 9]), ([10, 9], [10]), ([11, 11, 0, 1, 2, 3, 4, 5, 6, 7, 8, 9, 10, 11], [11])])
def impl_IsPlan.B8 : List Nat := [0, 1, 0, 4, 15, 0, 32, 0, 128, 511, 1023, 2047, 4095]
theorem impl_IsPlan.tab8 : rtab .any (opsOf Try.f40 8) = impl_IsPlan.T8 := by kernel_rfl
theorem impl_IsPlan.bits8 : waitsOk impl_IsPlan.T8.2 impl_IsPlan.B8 = true := by kernel_rfl
theorem impl_IsPlan.calls (k : Nat) (A0 : Option Addr) (c0 : Nat) (j : List S53) (a1 : Int) (r : Bool) (w : World) (g0 : Kd.C k53 w A0 j.length j) (f9 : j.length ≤ c0) (h : impl_IsPlan.f k j a1 = some r) :
  Calls Try.prog 40 #[.slice A0 j.length c0, iv_ a1] w fun e w' => e = .returned (.bool r) ∧ Below w.heap.size w w' := by
 have l2 := Try.underlying53
 have b1 := Aside0.mk g0
 have h8 := Aside0.mk f9
 clear g0 f9
 have HB := Aside0.mk (Below.refl w.heap.size w)
 have H := h
 clear h
 unfold impl_IsPlan.f at H
 have H' := Aside0.mk H
 clear H
 go_enter Try.func40, Try.ntmps40
 go_wp2
 go_loopg [11] k (fun kq g9 w' => ∃ (l : Int), g9 = iv_ l ∧ Aside0 (impl_IsPlan.l0 kq j a1 j (j.length : Int) l = some r) ∧ Aside0 (kq ≤ k) ∧ Aside0 (Below w.heap.size w w'))
 case atStart => exact ⟨(0), (by first | rfl | (simp; done) | (simp [*]; done)), H', ⟨Nat.le_refl _⟩, ⟨bl_ HB⟩⟩
 case round =>
  clear H'
  obtain ⟨l, rfl, HA, c1, HB⟩ := hrel
  cases gk with
  | zero => exact absurd HA.out (by simp [impl_IsPlan.l0])
  | succ k1 =>
   have H := HA.out
   clear HA
   simp only [impl_IsPlan.l0] at H
   by_cases c3 : l < (j.length : Int)
   ·rw [if_pos c3] at H
    have g5 := decide_eq_true c3
    clear c3
    replace H := ifn_ H
    obtain ⟨c4, H⟩ := H
    have i1 := decide_eq_true c4
    clear c4
    replace H := ifn_ H
    obtain ⟨c5, H⟩ := H
    have i2 := decide_eq_true c5
    clear c5
    replace H := bs_ H
    obtain ⟨g8, A6, H⟩ := H
    by_cases c7 : g8 = true
    ·subst c7
     rw [if_pos rfl] at H
     by_cases c8 : l = 0
     ·rw [if_pos c8] at H
      obtain ⟨g6, g7⟩ := bt_ c8
      clear c8
      have H' := Aside0.mk H
      clear H
      have z : 0 ≤ (l : Int) := od_
      have B : l < (j.length : Int) := od_
      obtain ⟨b2, a6, J, L, O, T⟩ := at_T53 b1.out l z B
      cases a6
      replace J := hbc_ HB J
      replace L := hbc_ HB L
      replace O := hbc_ HB O
      replace T := hbc_ HB T
      replace z := eq_true z
      replace B := eq_true B
      go_wp2_with (first | ((with_reducible refine gd_ 6 ?_); refine bx_ 6 53 #[iv_ 0, iv_ 0, iv_ 0, iv_ 0] ?_; intro I hg w9 hbox hb; refine sh3_ (below_step (bl_ HB) hb) hbox (ge_ hg (bl_ HB)) ?_; clear HB hb hbox hg; intro HB s x; have i7 := cf4_ s) | ((with_reducible refine gate_callee (f := 83) rfl ?_); refine gl_ 18 Try.func83 (impl_IsContact.calls ((rd_T53 j l).f0) ((rd_T53 j l).f1) ((rd_T53 j l).f2) ((rd_T53 j l).f3) a1 true _ A6.out) ?_; rintro e l3 ⟨rfl, hb⟩; refine ⟨_, rfl, sh2_ (blk_below (g := I) (o := .cells #[iv_ ((rd_T53 j l).f0), iv_ ((rd_T53 j l).f1), iv_ ((rd_T53 j l).f2), iv_ ((rd_T53 j l).f3)] 53 (0, 0)) (bp_ s) hb) (below_step (bl1_ HB x) hb) ?_⟩; clear s HB hb; intro s HB))
      go_roundg k1
      case measure => have := c1.out; omega
      case rel => exact ⟨(wrap64 (l + 1)), (by first | rfl | (simp; done) | (simp [*]; done)), H', ⟨by have := c1.out; omega⟩, ⟨bl1_ HB x⟩⟩
     ·rw [if_neg c8] at H
      obtain ⟨g6, g7⟩ := bn_ c8
      obtain ⟨ji12, hji12⟩ : ∃ j_ : Int, (wrap64 (l - 1)) = j_ := ⟨_, rfl⟩
      replace H : (if 0 ≤ (ji12) then (if (ji12) < (j.length : Int) then ((cmp_Compare_int.f ((rd_T53 j (ji12)).f0) ((rd_T53 j l).f0)).bind fun D => ((cmp_Compare_int.f ((rd_T53 j (ji12)).f1) ((rd_T53 j l).f1)).bind fun E => ((cmp_Or_int.f k1 (([D, E] : List Int))).bind fun a3 => (if a3 > 0 then (some false) else (if a3 = 0 then (if ((rd_T53 j (ji12)).f3) ≥ ((rd_T53 j l).f2) then (some false) else (impl_IsPlan.l0 k1 j a1 j (j.length : Int) (wrap64 (l + 1)))) else (impl_IsPlan.l0 k1 j a1 j (j.length : Int) (wrap64 (l + 1)))))))) else (none)) else (none)) = some r := by first | (rw [hji12] at H; exact H) | (simp only [hji12] at H ⊢; exact H)
      (try rw [hji12] at A6)
      have k2 : (IntKind.i64.wrap (l - 1)) = ji12 := (i64_w _).trans hji12
      replace H := ifn_ H
      obtain ⟨e9, H⟩ := H
      have h9 := decide_eq_true e9
      clear e9
      replace H := ifn_ H
      obtain ⟨f4, H⟩ := H
      have i0 := decide_eq_true f4
      clear f4
      replace H := bs_ H
      obtain ⟨D, d7, H⟩ := H
      replace H := bs_ H
      obtain ⟨E, d8, H⟩ := H
      replace H : ∃ y_ : List Int, Aside0 (y_ = (([D, E] : List Int))) ∧ ((cmp_Or_int.f k1 y_).bind fun a3 => (if a3 > 0 then (some false) else (if a3 = 0 then (if ((rd_T53 j (ji12)).f3) ≥ ((rd_T53 j l).f2) then (some false) else (impl_IsPlan.l0 k1 j a1 j (j.length : Int) (wrap64 (l + 1)))) else (impl_IsPlan.l0 k1 j a1 j (j.length : Int) (wrap64 (l + 1)))))) = some r := ⟨_, ⟨rfl⟩, yh_ H⟩
      obtain ⟨e4, b3, H⟩ := H
      replace H := bs_ H
      obtain ⟨a3, d9, H⟩ := H
      by_cases d0 : a3 > 0
      ·rw [if_pos d0] at H
       have g1 : decide (0 < a3) = true := decide_eq_true d0
       clear d0
       obtain rfl := Option.some.inj H
       have z : 0 ≤ (l : Int) := od_
       have B : l < (j.length : Int) := od_
       obtain ⟨b2, a6, J, L, O, T⟩ := at_T53 b1.out l z B
       cases a6
       replace J := hbc_ HB J
       replace L := hbc_ HB L
       replace O := hbc_ HB O
       replace T := hbc_ HB T
       replace z := eq_true z
       replace B := eq_true B
       try go_wp2_with (first | ((with_reducible refine gd_ 6 ?_); refine bx_ 6 53 #[iv_ 0, iv_ 0, iv_ 0, iv_ 0] ?_; intro I hg l4 hbox hb; refine sh3_ (below_step (bl_ HB) hb) hbox (ge_ hg (bl_ HB)) ?_; clear HB hb hbox hg; intro HB s x; have i8 := cf4_ s) | ((with_reducible refine gate_callee (f := 83) rfl ?_); refine gl_ 18 Try.func83 (impl_IsContact.calls ((rd_T53 j l).f0) ((rd_T53 j l).f1) ((rd_T53 j l).f2) ((rd_T53 j l).f3) a1 true _ A6.out) ?_; rintro e l5 ⟨rfl, hb⟩; refine ⟨_, rfl, sh2_ (blk_below (g := I) (o := .cells #[iv_ ((rd_T53 j l).f0), iv_ ((rd_T53 j l).f1), iv_ ((rd_T53 j l).f2), iv_ ((rd_T53 j l).f3)] 53 (0, 0)) (bp_ s) hb) (below_step (bl1_ HB x) hb) ?_⟩; clear s HB hb; intro s HB; have a0 : 0 ≤ ((ji12) : Int) := od_; have a2 : (ji12) < (j.length : Int) := od_; obtain ⟨b6, b7, a7, a8, a9, b0⟩ := at_T53 b1.out (ji12) a0 a2; obtain rfl : b2 = b6 := (by injection b7); replace a7 := hbc_ HB a7; replace a8 := hbc_ HB a8; replace a9 := hbc_ HB a9; replace b0 := hbc_ HB b0; replace a0 := eq_true a0; replace a2 := eq_true a2) | ((with_reducible refine gd_ 7 ?_); refine bx_ 7 53 #[iv_ 0, iv_ 0, iv_ 0, iv_ 0] ?_; intro u hg e0 hbox hb; refine sh6_ (blk_below (bk_ s) hb) (below_step (bl1_ HB x) hb) hbox (ge_ hg (bl1_ HB x)) (nl_ hg (bk_ s)) (ng_ hg (bk_ s)) ?_; clear s HB hb hbox hg; intro s HB m G y b5; have k3 := b5.out; have k7 := y.out; have i9 := cf4_ m))
       have X : Aside0 (((((e0.setCell ⟨u, 0, none⟩ (iv_ ((rd_T53 j (ji12)).f0))).setCell ⟨u, 1, none⟩ (iv_ ((rd_T53 j (ji12)).f1))).setCell ⟨u, 2, none⟩ (iv_ ((rd_T53 j (ji12)).f2))).setCell ⟨u, 3, none⟩ (iv_ ((rd_T53 j (ji12)).f3))).heap[I]? = some (.cells #[iv_ ((rd_T53 j l).f0), iv_ ((rd_T53 j l).f1), iv_ ((rd_T53 j l).f2), iv_ ((rd_T53 j l).f3)] 53 (0, 0))) := ⟨by (with_reducible repeat (first | refine blk_drewN ?_ _ | refine blk_drew ?_ | refine blk_alloc ?_ _)); refine blk_far ?_ y.out _; (with_reducible repeat (first | refine blk_drewN ?_ _ | refine blk_drew ?_ | refine blk_alloc ?_ _)); refine blk_far ?_ y.out _; (with_reducible repeat (first | refine blk_drewN ?_ _ | refine blk_drew ?_ | refine blk_alloc ?_ _)); refine blk_far ?_ y.out _; (with_reducible repeat (first | refine blk_drewN ?_ _ | refine blk_drew ?_ | refine blk_alloc ?_ _)); refine blk_far ?_ y.out _; exact bk_ s⟩
       have Y : Aside0 (((((e0.setCell ⟨u, 0, none⟩ (iv_ ((rd_T53 j (ji12)).f0))).setCell ⟨u, 1, none⟩ (iv_ ((rd_T53 j (ji12)).f1))).setCell ⟨u, 2, none⟩ (iv_ ((rd_T53 j (ji12)).f2))).setCell ⟨u, 3, none⟩ (iv_ ((rd_T53 j (ji12)).f3))).heap[u]? = some (.cells #[iv_ ((rd_T53 j (ji12)).f0), iv_ ((rd_T53 j (ji12)).f1), iv_ ((rd_T53 j (ji12)).f2), iv_ ((rd_T53 j (ji12)).f3)] 53 (0, 0))) := ⟨by (with_reducible repeat (first | refine blk_drewN ?_ _ | refine blk_drew ?_ | refine blk_alloc ?_ _)); refine blk_put (cs := #[iv_ ((rd_T53 j (ji12)).f0), iv_ ((rd_T53 j (ji12)).f1), iv_ ((rd_T53 j (ji12)).f2), iv_ 0]) ?_ 3 _ rfl; (with_reducible repeat (first | refine blk_drewN ?_ _ | refine blk_drew ?_ | refine blk_alloc ?_ _)); refine blk_put (cs := #[iv_ ((rd_T53 j (ji12)).f0), iv_ ((rd_T53 j (ji12)).f1), iv_ 0, iv_ 0]) ?_ 2 _ rfl; (with_reducible repeat (first | refine blk_drewN ?_ _ | refine blk_drew ?_ | refine blk_alloc ?_ _)); refine blk_put (cs := #[iv_ ((rd_T53 j (ji12)).f0), iv_ 0, iv_ 0, iv_ 0]) ?_ 1 _ rfl; (with_reducible repeat (first | refine blk_drewN ?_ _ | refine blk_drew ?_ | refine blk_alloc ?_ _)); refine blk_put (cs := #[iv_ 0, iv_ 0, iv_ 0, iv_ 0]) ?_ 0 _ rfl; exact bk_ m⟩
       have Z : Aside0 (Below w.heap.size w ((((e0.setCell ⟨u, 0, none⟩ (iv_ ((rd_T53 j (ji12)).f0))).setCell ⟨u, 1, none⟩ (iv_ ((rd_T53 j (ji12)).f1))).setCell ⟨u, 2, none⟩ (iv_ ((rd_T53 j (ji12)).f2))).setCell ⟨u, 3, none⟩ (iv_ ((rd_T53 j (ji12)).f3)))) := ⟨bl2_ HB x G⟩
       (try clear s)
       (try clear m)
       (try clear HB)
       generalize ((((e0.setCell ⟨u, 0, none⟩ (iv_ ((rd_T53 j (ji12)).f0))).setCell ⟨u, 1, none⟩ (iv_ ((rd_T53 j (ji12)).f1))).setCell ⟨u, 2, none⟩ (iv_ ((rd_T53 j (ji12)).f2))).setCell ⟨u, 3, none⟩ (iv_ ((rd_T53 j (ji12)).f3))) = h0 at X Y Z ⊢
       have s := X
       have m := Y
       have HB := Z
       clear X Y Z
       refine sh3_ (blk_drew s.out) (blk_drew m.out) (below_drew1 HB.out) ?_
       clear s m HB
       intro s m HB
       refine start_ (n := 13) (S := fun w' => Ck4 w' u (iv_ ((rd_T53 j (ji12)).f0)) (iv_ ((rd_T53 j (ji12)).f1)) (iv_ ((rd_T53 j (ji12)).f2)) (iv_ ((rd_T53 j (ji12)).f3)) (Cz4 w' I (iv_ ((rd_T53 j l).f0)) (iv_ ((rd_T53 j l).f1)) (iv_ ((rd_T53 j l).f2)) (iv_ ((rd_T53 j l).f3)))) (ds := []) (bo_ 13 0) (by kernel_rfl) rfl rfl ⟨(bc_ m 0 rfl), (bc_ m 1 rfl), (bc_ m 2 rfl), (bc_ m 3 rfl), cz4_ s⟩ (fun hHeld => ?_); refine with_tabW impl_IsPlan.tab8 impl_IsPlan.bits8 (fun HT_ HW_ => ?_)
       generalize h0.drew = l6 at s m HB hHeld ⊢
       refine pur_ 0 (bo_ 13 1) (some 27) HT_ ?_
       refine pur_ 2 (bo_ 13 5) (some 29) HT_ ?_
       refine pur_ 5 (bo_ 13 37) (some 32) HT_ ?_
       refine pur_ 7 (bo_ 13 165) (some 34) HT_ ?_
       refine tak_ 1 (bo_ 13 167) (some 28) HT_ HW_ hHeld ?_
       refine tak_ 3 (bo_ 13 175) (some 30) HT_ HW_ hHeld ?_
       refine tak_ 6 (bo_ 13 239) (some 33) HT_ HW_ hHeld ?_
       refine tak_ 8 (bo_ 13 495) (some 35) HT_ HW_ hHeld ?_
       refine one_ (i := 4) (N := some 31) (bo_ 13 511) rfl rfl (one_of HT_.out (by kernel_rfl)) (by decide) (fun K hK => ?_)
       refine goes_ Try.func85 (by kernel_rfl) rfl #[iv_ ((rd_T53 j (ji12)).f0), iv_ ((rd_T53 j l).f0)] (by rfl) rfl rfl (by (try simp only [List.map_toArray, List.map_cons, List.map_nil]); first | done | (simp only [hji12]; rfl) | rfl | (simp only [List.length_drop, List.length_take]; rfl)) ?_
       with_reducible refine (cmp_Compare_int.calls ((rd_T53 j (ji12)).f0) ((rd_T53 j l).f0) D _ d7.out).mono ?_
       rintro e w' ⟨rfl, ⟨nd, rfl⟩⟩
       refine ⟨_, rfl, ?_⟩
       refine hK.out _ _ ⟨(bc_ m 0 rfl), (bc_ m 1 rfl), (bc_ m 2 rfl), (bc_ m 3 rfl), cz4_ s⟩ (fun hHeld => ?_)
       clear hK K
       refine norm_ (show Act.put _ (some 31) _ = _ from pt_) ?_
       refine one_ (i := 9) (N := some 36) (bo_ 13 1023) rfl rfl (one_of HT_.out (by kernel_rfl)) (by decide) (fun K hK => ?_)
       refine goes_ Try.func85 (by kernel_rfl) rfl #[iv_ ((rd_T53 j (ji12)).f1), iv_ ((rd_T53 j l).f1)] (by rfl) rfl rfl (by (try simp only [List.map_toArray, List.map_cons, List.map_nil]); first | done | (simp only [hji12]; rfl) | rfl | (simp only [List.length_drop, List.length_take]; rfl)) ?_
       with_reducible refine (cmp_Compare_int.calls ((rd_T53 j (ji12)).f1) ((rd_T53 j l).f1) E _ d8.out).mono ?_
       rintro e w' ⟨rfl, ⟨nd, rfl⟩⟩
       refine ⟨_, rfl, ?_⟩
       refine hK.out _ _ ⟨(bc_ m 0 rfl), (bc_ m 1 rfl), (bc_ m 2 rfl), (bc_ m 3 rfl), cz4_ s⟩ (fun hHeld => ?_)
       clear hK K
       refine norm_ (show Act.put _ (some 36) _ = _ from pt_) ?_
       refine one_ (i := 10) (N := some 37) (bo_ 13 2047) rfl rfl (one_of HT_.out (by kernel_rfl)) (by decide) (fun K hK => ?_)
       refine Kd.R_lit_step (Kd.int .i64) _ 3 ?hg (N := 37) ?hd (xs := ([D, E] : List Int)) (inner := [iv_ D, iv_ E]) (ok := fun _ => True) (okp := fun _ => True) ?hr ?hp (fun _ hk => hk) trivial (Below.refl _ _) (Nat.le_refl _) (by simp) ?_; (case hd => rfl); (case hg => rfl); (case hr => first | (go_simp; done) | (go_simp; rfl)); (case hp => exact (Reps.one (show Kd.M (Kd.int .i64) _ _ _ D [iv_ D] from rfl) (Reps.one (show Kd.M (Kd.int .i64) _ _ _ E [iv_ E] from rfl) (Reps.none _ _))))
       intro e5 l7 d3 hb hg_ hnew_
       clear hg_ hnew_
       (first | rw [← b3.out] at d3 | (simp only [Int.reduceToNat] at d3; rw [← b3.out] at d3))
       refine sh4_ (Kd.R_lower d3 (below_size (bl2_ HB x G))) (blk_below (bk_ s) hb) (blk_below (bk_ m) hb) (below_step (bl2_ HB x G) hb) ?_
       clear s m HB hb d3
       intro U s m HB
       obtain ⟨h4, i3, f5⟩ := Kd.R_slice U.out
       (first | subst f5 | (injection f5 with f1_ f2_ f3_; have b8 := f1_.symm; have b9 := f3_.symm; clear f1_ f2_ f3_; subst b8; subst b9))
       refine hK.out _ _ ⟨(bc_ m 0 rfl), (bc_ m 1 rfl), (bc_ m 2 rfl), (bc_ m 3 rfl), cz4_ s⟩ (fun hHeld => ?_)
       clear hK K
       refine norm_ (show Act.put _ (some 37) _ = _ from pt_) ?_
       refine onc_ 11 (bo_ 13 4095) (some 38) HT_ Try.func84 (cmp_Or_int.calls k1 _ _ e4 a3 _ (cr_ U) (rl_ U) d9.out) ?_
       rintro e w' ⟨rfl, ⟨nd, rfl⟩⟩
       refine ⟨_, _, rfl, ⟨(bc_ m 0 rfl), (bc_ m 1 rfl), (bc_ m 2 rfl), (bc_ m 3 rfl), cz4_ s⟩, pt_, fun hHeld => ?_⟩
       refine pur_ 12 (bo_ 13 8191) (some 8) HT_ ?_
       refine done_ (done_of HT_.out (by kernel_rfl)) ?_
       try go_wp2
       go_ret
       exact ⟨by first | rfl | (rw [hRT_.out]; rfl) | (simp [errW_none, errW_some] <;> rfl) | (simp only [← hji12]; first | rfl | (simp [errW_none, errW_some] <;> rfl)) | (simp [*, errW_none, errW_some] <;> rfl), bl2_ HB x G⟩
      ·rw [if_neg d0] at H
       have g1 : decide (0 < a3) = false := decide_eq_false d0
       clear d0
       by_cases d2 : a3 = 0
       ·rw [if_pos d2] at H
        obtain ⟨g2, g3⟩ := bt_ d2
        clear d2
        by_cases d1 : ((rd_T53 j (ji12)).f3) ≥ ((rd_T53 j l).f2)
        ·rw [if_pos d1] at H
         have g4 : decide (((rd_T53 j l).f2) ≤ ((rd_T53 j (ji12)).f3)) = true := decide_eq_true d1
         clear d1
         obtain rfl := Option.some.inj H
         have z : 0 ≤ (l : Int) := od_
         have B : l < (j.length : Int) := od_
         obtain ⟨b2, a6, J, L, O, T⟩ := at_T53 b1.out l z B
         cases a6
         replace J := hbc_ HB J
         replace L := hbc_ HB L
         replace O := hbc_ HB O
         replace T := hbc_ HB T
         replace z := eq_true z
         replace B := eq_true B
         try go_wp2_with (first | ((with_reducible refine gd_ 6 ?_); refine bx_ 6 53 #[iv_ 0, iv_ 0, iv_ 0, iv_ 0] ?_; intro I hg l8 hbox hb; refine sh3_ (below_step (bl_ HB) hb) hbox (ge_ hg (bl_ HB)) ?_; clear HB hb hbox hg; intro HB s x; have j0 := cf4_ s) | ((with_reducible refine gate_callee (f := 83) rfl ?_); refine gl_ 18 Try.func83 (impl_IsContact.calls ((rd_T53 j l).f0) ((rd_T53 j l).f1) ((rd_T53 j l).f2) ((rd_T53 j l).f3) a1 true _ A6.out) ?_; rintro e l9 ⟨rfl, hb⟩; refine ⟨_, rfl, sh2_ (blk_below (g := I) (o := .cells #[iv_ ((rd_T53 j l).f0), iv_ ((rd_T53 j l).f1), iv_ ((rd_T53 j l).f2), iv_ ((rd_T53 j l).f3)] 53 (0, 0)) (bp_ s) hb) (below_step (bl1_ HB x) hb) ?_⟩; clear s HB hb; intro s HB; have a0 : 0 ≤ ((ji12) : Int) := od_; have a2 : (ji12) < (j.length : Int) := od_; obtain ⟨b6, b7, a7, a8, a9, b0⟩ := at_T53 b1.out (ji12) a0 a2; obtain rfl : b2 = b6 := (by injection b7); replace a7 := hbc_ HB a7; replace a8 := hbc_ HB a8; replace a9 := hbc_ HB a9; replace b0 := hbc_ HB b0; replace a0 := eq_true a0; replace a2 := eq_true a2) | ((with_reducible refine gd_ 7 ?_); refine bx_ 7 53 #[iv_ 0, iv_ 0, iv_ 0, iv_ 0] ?_; intro u hg e1 hbox hb; refine sh6_ (blk_below (bk_ s) hb) (below_step (bl1_ HB x) hb) hbox (ge_ hg (bl1_ HB x)) (nl_ hg (bk_ s)) (ng_ hg (bk_ s)) ?_; clear s HB hb hbox hg; intro s HB m G y b5; have k4 := b5.out; have k8 := y.out; have j1 := cf4_ m))
         have X : Aside0 (((((e1.setCell ⟨u, 0, none⟩ (iv_ ((rd_T53 j (ji12)).f0))).setCell ⟨u, 1, none⟩ (iv_ ((rd_T53 j (ji12)).f1))).setCell ⟨u, 2, none⟩ (iv_ ((rd_T53 j (ji12)).f2))).setCell ⟨u, 3, none⟩ (iv_ ((rd_T53 j (ji12)).f3))).heap[I]? = some (.cells #[iv_ ((rd_T53 j l).f0), iv_ ((rd_T53 j l).f1), iv_ ((rd_T53 j l).f2), iv_ ((rd_T53 j l).f3)] 53 (0, 0))) := ⟨by (with_reducible repeat (first | refine blk_drewN ?_ _ | refine blk_drew ?_ | refine blk_alloc ?_ _)); refine blk_far ?_ y.out _; (with_reducible repeat (first | refine blk_drewN ?_ _ | refine blk_drew ?_ | refine blk_alloc ?_ _)); refine blk_far ?_ y.out _; (with_reducible repeat (first | refine blk_drewN ?_ _ | refine blk_drew ?_ | refine blk_alloc ?_ _)); refine blk_far ?_ y.out _; (with_reducible repeat (first | refine blk_drewN ?_ _ | refine blk_drew ?_ | refine blk_alloc ?_ _)); refine blk_far ?_ y.out _; exact bk_ s⟩
         have Y : Aside0 (((((e1.setCell ⟨u, 0, none⟩ (iv_ ((rd_T53 j (ji12)).f0))).setCell ⟨u, 1, none⟩ (iv_ ((rd_T53 j (ji12)).f1))).setCell ⟨u, 2, none⟩ (iv_ ((rd_T53 j (ji12)).f2))).setCell ⟨u, 3, none⟩ (iv_ ((rd_T53 j (ji12)).f3))).heap[u]? = some (.cells #[iv_ ((rd_T53 j (ji12)).f0), iv_ ((rd_T53 j (ji12)).f1), iv_ ((rd_T53 j (ji12)).f2), iv_ ((rd_T53 j (ji12)).f3)] 53 (0, 0))) := ⟨by (with_reducible repeat (first | refine blk_drewN ?_ _ | refine blk_drew ?_ | refine blk_alloc ?_ _)); refine blk_put (cs := #[iv_ ((rd_T53 j (ji12)).f0), iv_ ((rd_T53 j (ji12)).f1), iv_ ((rd_T53 j (ji12)).f2), iv_ 0]) ?_ 3 _ rfl; (with_reducible repeat (first | refine blk_drewN ?_ _ | refine blk_drew ?_ | refine blk_alloc ?_ _)); refine blk_put (cs := #[iv_ ((rd_T53 j (ji12)).f0), iv_ ((rd_T53 j (ji12)).f1), iv_ 0, iv_ 0]) ?_ 2 _ rfl; (with_reducible repeat (first | refine blk_drewN ?_ _ | refine blk_drew ?_ | refine blk_alloc ?_ _)); refine blk_put (cs := #[iv_ ((rd_T53 j (ji12)).f0), iv_ 0, iv_ 0, iv_ 0]) ?_ 1 _ rfl; (with_reducible repeat (first | refine blk_drewN ?_ _ | refine blk_drew ?_ | refine blk_alloc ?_ _)); refine blk_put (cs := #[iv_ 0, iv_ 0, iv_ 0, iv_ 0]) ?_ 0 _ rfl; exact bk_ m⟩
         have Z : Aside0 (Below w.heap.size w ((((e1.setCell ⟨u, 0, none⟩ (iv_ ((rd_T53 j (ji12)).f0))).setCell ⟨u, 1, none⟩ (iv_ ((rd_T53 j (ji12)).f1))).setCell ⟨u, 2, none⟩ (iv_ ((rd_T53 j (ji12)).f2))).setCell ⟨u, 3, none⟩ (iv_ ((rd_T53 j (ji12)).f3)))) := ⟨bl2_ HB x G⟩
         (try clear s)
         (try clear m)
         (try clear HB)
         generalize ((((e1.setCell ⟨u, 0, none⟩ (iv_ ((rd_T53 j (ji12)).f0))).setCell ⟨u, 1, none⟩ (iv_ ((rd_T53 j (ji12)).f1))).setCell ⟨u, 2, none⟩ (iv_ ((rd_T53 j (ji12)).f2))).setCell ⟨u, 3, none⟩ (iv_ ((rd_T53 j (ji12)).f3))) = h1 at X Y Z ⊢
         have s := X
         have m := Y
         have HB := Z
         clear X Y Z
         refine sh3_ (blk_drew s.out) (blk_drew m.out) (below_drew1 HB.out) ?_
         clear s m HB
         intro s m HB
         refine start_ (n := 13) (S := fun w' => Ck4 w' u (iv_ ((rd_T53 j (ji12)).f0)) (iv_ ((rd_T53 j (ji12)).f1)) (iv_ ((rd_T53 j (ji12)).f2)) (iv_ ((rd_T53 j (ji12)).f3)) (Cz4 w' I (iv_ ((rd_T53 j l).f0)) (iv_ ((rd_T53 j l).f1)) (iv_ ((rd_T53 j l).f2)) (iv_ ((rd_T53 j l).f3)))) (ds := []) (bo_ 13 0) (by kernel_rfl) rfl rfl ⟨(bc_ m 0 rfl), (bc_ m 1 rfl), (bc_ m 2 rfl), (bc_ m 3 rfl), cz4_ s⟩ (fun hHeld => ?_); refine with_tabW impl_IsPlan.tab8 impl_IsPlan.bits8 (fun HT_ HW_ => ?_)
         generalize h1.drew = m0 at s m HB hHeld ⊢
         refine pur_ 0 (bo_ 13 1) (some 27) HT_ ?_
         refine pur_ 2 (bo_ 13 5) (some 29) HT_ ?_
         refine pur_ 5 (bo_ 13 37) (some 32) HT_ ?_
         refine pur_ 7 (bo_ 13 165) (some 34) HT_ ?_
         refine tak_ 1 (bo_ 13 167) (some 28) HT_ HW_ hHeld ?_
         refine tak_ 3 (bo_ 13 175) (some 30) HT_ HW_ hHeld ?_
         refine tak_ 6 (bo_ 13 239) (some 33) HT_ HW_ hHeld ?_
         refine tak_ 8 (bo_ 13 495) (some 35) HT_ HW_ hHeld ?_
         refine one_ (i := 4) (N := some 31) (bo_ 13 511) rfl rfl (one_of HT_.out (by kernel_rfl)) (by decide) (fun K hK => ?_)
         refine goes_ Try.func85 (by kernel_rfl) rfl #[iv_ ((rd_T53 j (ji12)).f0), iv_ ((rd_T53 j l).f0)] (by rfl) rfl rfl (by (try simp only [List.map_toArray, List.map_cons, List.map_nil]); first | done | (simp only [hji12]; rfl) | rfl | (simp only [List.length_drop, List.length_take]; rfl)) ?_
         with_reducible refine (cmp_Compare_int.calls ((rd_T53 j (ji12)).f0) ((rd_T53 j l).f0) D _ d7.out).mono ?_
         rintro e w' ⟨rfl, ⟨nd, rfl⟩⟩
         refine ⟨_, rfl, ?_⟩
         refine hK.out _ _ ⟨(bc_ m 0 rfl), (bc_ m 1 rfl), (bc_ m 2 rfl), (bc_ m 3 rfl), cz4_ s⟩ (fun hHeld => ?_)
         clear hK K
         refine norm_ (show Act.put _ (some 31) _ = _ from pt_) ?_
         refine one_ (i := 9) (N := some 36) (bo_ 13 1023) rfl rfl (one_of HT_.out (by kernel_rfl)) (by decide) (fun K hK => ?_)
         refine goes_ Try.func85 (by kernel_rfl) rfl #[iv_ ((rd_T53 j (ji12)).f1), iv_ ((rd_T53 j l).f1)] (by rfl) rfl rfl (by (try simp only [List.map_toArray, List.map_cons, List.map_nil]); first | done | (simp only [hji12]; rfl) | rfl | (simp only [List.length_drop, List.length_take]; rfl)) ?_
         with_reducible refine (cmp_Compare_int.calls ((rd_T53 j (ji12)).f1) ((rd_T53 j l).f1) E _ d8.out).mono ?_
         rintro e w' ⟨rfl, ⟨nd, rfl⟩⟩
         refine ⟨_, rfl, ?_⟩
         refine hK.out _ _ ⟨(bc_ m 0 rfl), (bc_ m 1 rfl), (bc_ m 2 rfl), (bc_ m 3 rfl), cz4_ s⟩ (fun hHeld => ?_)
         clear hK K
         refine norm_ (show Act.put _ (some 36) _ = _ from pt_) ?_
         refine one_ (i := 10) (N := some 37) (bo_ 13 2047) rfl rfl (one_of HT_.out (by kernel_rfl)) (by decide) (fun K hK => ?_)
         refine Kd.R_lit_step (Kd.int .i64) _ 3 ?hg (N := 37) ?hd (xs := ([D, E] : List Int)) (inner := [iv_ D, iv_ E]) (ok := fun _ => True) (okp := fun _ => True) ?hr ?hp (fun _ hk => hk) trivial (Below.refl _ _) (Nat.le_refl _) (by simp) ?_; (case hd => rfl); (case hg => rfl); (case hr => first | (go_simp; done) | (go_simp; rfl)); (case hp => exact (Reps.one (show Kd.M (Kd.int .i64) _ _ _ D [iv_ D] from rfl) (Reps.one (show Kd.M (Kd.int .i64) _ _ _ E [iv_ E] from rfl) (Reps.none _ _))))
         intro e5 m1 d4 hb hg_ hnew_
         clear hg_ hnew_
         (first | rw [← b3.out] at d4 | (simp only [Int.reduceToNat] at d4; rw [← b3.out] at d4))
         refine sh4_ (Kd.R_lower d4 (below_size (bl2_ HB x G))) (blk_below (bk_ s) hb) (blk_below (bk_ m) hb) (below_step (bl2_ HB x G) hb) ?_
         clear s m HB hb d4
         intro U s m HB
         obtain ⟨h5, i4, f6⟩ := Kd.R_slice U.out
         (first | subst f6 | (injection f6 with f1_ f2_ f3_; have b8 := f1_.symm; have b9 := f3_.symm; clear f1_ f2_ f3_; subst b8; subst b9))
         refine hK.out _ _ ⟨(bc_ m 0 rfl), (bc_ m 1 rfl), (bc_ m 2 rfl), (bc_ m 3 rfl), cz4_ s⟩ (fun hHeld => ?_)
         clear hK K
         refine norm_ (show Act.put _ (some 37) _ = _ from pt_) ?_
         refine onc_ 11 (bo_ 13 4095) (some 38) HT_ Try.func84 (cmp_Or_int.calls k1 _ _ e4 a3 _ (cr_ U) (rl_ U) d9.out) ?_
         rintro e w' ⟨rfl, ⟨nd, rfl⟩⟩
         refine ⟨_, _, rfl, ⟨(bc_ m 0 rfl), (bc_ m 1 rfl), (bc_ m 2 rfl), (bc_ m 3 rfl), cz4_ s⟩, pt_, fun hHeld => ?_⟩
         refine pur_ 12 (bo_ 13 8191) (some 8) HT_ ?_
         refine done_ (done_of HT_.out (by kernel_rfl)) ?_
         have j2 := cf4_ m
         have j3 := cf4_ s
         try go_wp2
         go_ret
         exact ⟨by first | rfl | (rw [hRT_.out]; rfl) | (simp [errW_none, errW_some] <;> rfl) | (simp only [← hji12]; first | rfl | (simp [errW_none, errW_some] <;> rfl)) | (simp [*, errW_none, errW_some] <;> rfl), bl2_ HB x G⟩
        ·rw [if_neg d1] at H
         have g4 : decide (((rd_T53 j l).f2) ≤ ((rd_T53 j (ji12)).f3)) = false := decide_eq_false d1
         clear d1
         have H' := Aside0.mk H
         clear H
         have z : 0 ≤ (l : Int) := od_
         have B : l < (j.length : Int) := od_
         obtain ⟨b2, a6, J, L, O, T⟩ := at_T53 b1.out l z B
         cases a6
         replace J := hbc_ HB J
         replace L := hbc_ HB L
         replace O := hbc_ HB O
         replace T := hbc_ HB T
         replace z := eq_true z
         replace B := eq_true B
         try go_wp2_with (first | ((with_reducible refine gd_ 6 ?_); refine bx_ 6 53 #[iv_ 0, iv_ 0, iv_ 0, iv_ 0] ?_; intro I hg m2 hbox hb; refine sh3_ (below_step (bl_ HB) hb) hbox (ge_ hg (bl_ HB)) ?_; clear HB hb hbox hg; intro HB s x; have j4 := cf4_ s) | ((with_reducible refine gate_callee (f := 83) rfl ?_); refine gl_ 18 Try.func83 (impl_IsContact.calls ((rd_T53 j l).f0) ((rd_T53 j l).f1) ((rd_T53 j l).f2) ((rd_T53 j l).f3) a1 true _ A6.out) ?_; rintro e m3 ⟨rfl, hb⟩; refine ⟨_, rfl, sh2_ (blk_below (g := I) (o := .cells #[iv_ ((rd_T53 j l).f0), iv_ ((rd_T53 j l).f1), iv_ ((rd_T53 j l).f2), iv_ ((rd_T53 j l).f3)] 53 (0, 0)) (bp_ s) hb) (below_step (bl1_ HB x) hb) ?_⟩; clear s HB hb; intro s HB; have a0 : 0 ≤ ((ji12) : Int) := od_; have a2 : (ji12) < (j.length : Int) := od_; obtain ⟨b6, b7, a7, a8, a9, b0⟩ := at_T53 b1.out (ji12) a0 a2; obtain rfl : b2 = b6 := (by injection b7); replace a7 := hbc_ HB a7; replace a8 := hbc_ HB a8; replace a9 := hbc_ HB a9; replace b0 := hbc_ HB b0; replace a0 := eq_true a0; replace a2 := eq_true a2) | ((with_reducible refine gd_ 7 ?_); refine bx_ 7 53 #[iv_ 0, iv_ 0, iv_ 0, iv_ 0] ?_; intro u hg e2 hbox hb; refine sh6_ (blk_below (bk_ s) hb) (below_step (bl1_ HB x) hb) hbox (ge_ hg (bl1_ HB x)) (nl_ hg (bk_ s)) (ng_ hg (bk_ s)) ?_; clear s HB hb hbox hg; intro s HB m G y b5; have k5 := b5.out; have k9 := y.out; have j5 := cf4_ m))
         have X : Aside0 (((((e2.setCell ⟨u, 0, none⟩ (iv_ ((rd_T53 j (ji12)).f0))).setCell ⟨u, 1, none⟩ (iv_ ((rd_T53 j (ji12)).f1))).setCell ⟨u, 2, none⟩ (iv_ ((rd_T53 j (ji12)).f2))).setCell ⟨u, 3, none⟩ (iv_ ((rd_T53 j (ji12)).f3))).heap[I]? = some (.cells #[iv_ ((rd_T53 j l).f0), iv_ ((rd_T53 j l).f1), iv_ ((rd_T53 j l).f2), iv_ ((rd_T53 j l).f3)] 53 (0, 0))) := ⟨by (with_reducible repeat (first | refine blk_drewN ?_ _ | refine blk_drew ?_ | refine blk_alloc ?_ _)); refine blk_far ?_ y.out _; (with_reducible repeat (first | refine blk_drewN ?_ _ | refine blk_drew ?_ | refine blk_alloc ?_ _)); refine blk_far ?_ y.out _; (with_reducible repeat (first | refine blk_drewN ?_ _ | refine blk_drew ?_ | refine blk_alloc ?_ _)); refine blk_far ?_ y.out _; (with_reducible repeat (first | refine blk_drewN ?_ _ | refine blk_drew ?_ | refine blk_alloc ?_ _)); refine blk_far ?_ y.out _; exact bk_ s⟩
         have Y : Aside0 (((((e2.setCell ⟨u, 0, none⟩ (iv_ ((rd_T53 j (ji12)).f0))).setCell ⟨u, 1, none⟩ (iv_ ((rd_T53 j (ji12)).f1))).setCell ⟨u, 2, none⟩ (iv_ ((rd_T53 j (ji12)).f2))).setCell ⟨u, 3, none⟩ (iv_ ((rd_T53 j (ji12)).f3))).heap[u]? = some (.cells #[iv_ ((rd_T53 j (ji12)).f0), iv_ ((rd_T53 j (ji12)).f1), iv_ ((rd_T53 j (ji12)).f2), iv_ ((rd_T53 j (ji12)).f3)] 53 (0, 0))) := ⟨by (with_reducible repeat (first | refine blk_drewN ?_ _ | refine blk_drew ?_ | refine blk_alloc ?_ _)); refine blk_put (cs := #[iv_ ((rd_T53 j (ji12)).f0), iv_ ((rd_T53 j (ji12)).f1), iv_ ((rd_T53 j (ji12)).f2), iv_ 0]) ?_ 3 _ rfl; (with_reducible repeat (first | refine blk_drewN ?_ _ | refine blk_drew ?_ | refine blk_alloc ?_ _)); refine blk_put (cs := #[iv_ ((rd_T53 j (ji12)).f0), iv_ ((rd_T53 j (ji12)).f1), iv_ 0, iv_ 0]) ?_ 2 _ rfl; (with_reducible repeat (first | refine blk_drewN ?_ _ | refine blk_drew ?_ | refine blk_alloc ?_ _)); refine blk_put (cs := #[iv_ ((rd_T53 j (ji12)).f0), iv_ 0, iv_ 0, iv_ 0]) ?_ 1 _ rfl; (with_reducible repeat (first | refine blk_drewN ?_ _ | refine blk_drew ?_ | refine blk_alloc ?_ _)); refine blk_put (cs := #[iv_ 0, iv_ 0, iv_ 0, iv_ 0]) ?_ 0 _ rfl; exact bk_ m⟩
         have Z : Aside0 (Below w.heap.size w ((((e2.setCell ⟨u, 0, none⟩ (iv_ ((rd_T53 j (ji12)).f0))).setCell ⟨u, 1, none⟩ (iv_ ((rd_T53 j (ji12)).f1))).setCell ⟨u, 2, none⟩ (iv_ ((rd_T53 j (ji12)).f2))).setCell ⟨u, 3, none⟩ (iv_ ((rd_T53 j (ji12)).f3)))) := ⟨bl2_ HB x G⟩
         (try clear s)
         (try clear m)
         (try clear HB)
         generalize ((((e2.setCell ⟨u, 0, none⟩ (iv_ ((rd_T53 j (ji12)).f0))).setCell ⟨u, 1, none⟩ (iv_ ((rd_T53 j (ji12)).f1))).setCell ⟨u, 2, none⟩ (iv_ ((rd_T53 j (ji12)).f2))).setCell ⟨u, 3, none⟩ (iv_ ((rd_T53 j (ji12)).f3))) = h2 at X Y Z ⊢
         have s := X
         have m := Y
         have HB := Z
         clear X Y Z
         refine sh3_ (blk_drew s.out) (blk_drew m.out) (below_drew1 HB.out) ?_
         clear s m HB
         intro s m HB
         refine start_ (n := 13) (S := fun w' => Ck4 w' u (iv_ ((rd_T53 j (ji12)).f0)) (iv_ ((rd_T53 j (ji12)).f1)) (iv_ ((rd_T53 j (ji12)).f2)) (iv_ ((rd_T53 j (ji12)).f3)) (Cz4 w' I (iv_ ((rd_T53 j l).f0)) (iv_ ((rd_T53 j l).f1)) (iv_ ((rd_T53 j l).f2)) (iv_ ((rd_T53 j l).f3)))) (ds := []) (bo_ 13 0) (by kernel_rfl) rfl rfl ⟨(bc_ m 0 rfl), (bc_ m 1 rfl), (bc_ m 2 rfl), (bc_ m 3 rfl), cz4_ s⟩ (fun hHeld => ?_); refine with_tabW impl_IsPlan.tab8 impl_IsPlan.bits8 (fun HT_ HW_ => ?_)
         generalize h2.drew = m4 at s m HB hHeld ⊢
         refine pur_ 0 (bo_ 13 1) (some 27) HT_ ?_
         refine pur_ 2 (bo_ 13 5) (some 29) HT_ ?_
         refine pur_ 5 (bo_ 13 37) (some 32) HT_ ?_
         refine pur_ 7 (bo_ 13 165) (some 34) HT_ ?_
         refine tak_ 1 (bo_ 13 167) (some 28) HT_ HW_ hHeld ?_
         refine tak_ 3 (bo_ 13 175) (some 30) HT_ HW_ hHeld ?_
         refine tak_ 6 (bo_ 13 239) (some 33) HT_ HW_ hHeld ?_
         refine tak_ 8 (bo_ 13 495) (some 35) HT_ HW_ hHeld ?_
         refine one_ (i := 4) (N := some 31) (bo_ 13 511) rfl rfl (one_of HT_.out (by kernel_rfl)) (by decide) (fun K hK => ?_)
         refine goes_ Try.func85 (by kernel_rfl) rfl #[iv_ ((rd_T53 j (ji12)).f0), iv_ ((rd_T53 j l).f0)] (by rfl) rfl rfl (by (try simp only [List.map_toArray, List.map_cons, List.map_nil]); first | done | (simp only [hji12]; rfl) | rfl | (simp only [List.length_drop, List.length_take]; rfl)) ?_
         with_reducible refine (cmp_Compare_int.calls ((rd_T53 j (ji12)).f0) ((rd_T53 j l).f0) D _ d7.out).mono ?_
         rintro e w' ⟨rfl, ⟨nd, rfl⟩⟩
         refine ⟨_, rfl, ?_⟩
         refine hK.out _ _ ⟨(bc_ m 0 rfl), (bc_ m 1 rfl), (bc_ m 2 rfl), (bc_ m 3 rfl), cz4_ s⟩ (fun hHeld => ?_)
         clear hK K
         refine norm_ (show Act.put _ (some 31) _ = _ from pt_) ?_
         refine one_ (i := 9) (N := some 36) (bo_ 13 1023) rfl rfl (one_of HT_.out (by kernel_rfl)) (by decide) (fun K hK => ?_)
         refine goes_ Try.func85 (by kernel_rfl) rfl #[iv_ ((rd_T53 j (ji12)).f1), iv_ ((rd_T53 j l).f1)] (by rfl) rfl rfl (by (try simp only [List.map_toArray, List.map_cons, List.map_nil]); first | done | (simp only [hji12]; rfl) | rfl | (simp only [List.length_drop, List.length_take]; rfl)) ?_
         with_reducible refine (cmp_Compare_int.calls ((rd_T53 j (ji12)).f1) ((rd_T53 j l).f1) E _ d8.out).mono ?_
         rintro e w' ⟨rfl, ⟨nd, rfl⟩⟩
         refine ⟨_, rfl, ?_⟩
         refine hK.out _ _ ⟨(bc_ m 0 rfl), (bc_ m 1 rfl), (bc_ m 2 rfl), (bc_ m 3 rfl), cz4_ s⟩ (fun hHeld => ?_)
         clear hK K
         refine norm_ (show Act.put _ (some 36) _ = _ from pt_) ?_
         refine one_ (i := 10) (N := some 37) (bo_ 13 2047) rfl rfl (one_of HT_.out (by kernel_rfl)) (by decide) (fun K hK => ?_)
         refine Kd.R_lit_step (Kd.int .i64) _ 3 ?hg (N := 37) ?hd (xs := ([D, E] : List Int)) (inner := [iv_ D, iv_ E]) (ok := fun _ => True) (okp := fun _ => True) ?hr ?hp (fun _ hk => hk) trivial (Below.refl _ _) (Nat.le_refl _) (by simp) ?_; (case hd => rfl); (case hg => rfl); (case hr => first | (go_simp; done) | (go_simp; rfl)); (case hp => exact (Reps.one (show Kd.M (Kd.int .i64) _ _ _ D [iv_ D] from rfl) (Reps.one (show Kd.M (Kd.int .i64) _ _ _ E [iv_ E] from rfl) (Reps.none _ _))))
         intro e5 m5 d5 hb hg_ hnew_
         clear hg_ hnew_
         (first | rw [← b3.out] at d5 | (simp only [Int.reduceToNat] at d5; rw [← b3.out] at d5))
         refine sh4_ (Kd.R_lower d5 (below_size (bl2_ HB x G))) (blk_below (bk_ s) hb) (blk_below (bk_ m) hb) (below_step (bl2_ HB x G) hb) ?_
         clear s m HB hb d5
         intro U s m HB
         obtain ⟨h6, i5, f7⟩ := Kd.R_slice U.out
         (first | subst f7 | (injection f7 with f1_ f2_ f3_; have b8 := f1_.symm; have b9 := f3_.symm; clear f1_ f2_ f3_; subst b8; subst b9))
         refine hK.out _ _ ⟨(bc_ m 0 rfl), (bc_ m 1 rfl), (bc_ m 2 rfl), (bc_ m 3 rfl), cz4_ s⟩ (fun hHeld => ?_)
         clear hK K
         refine norm_ (show Act.put _ (some 37) _ = _ from pt_) ?_
         refine onc_ 11 (bo_ 13 4095) (some 38) HT_ Try.func84 (cmp_Or_int.calls k1 _ _ e4 a3 _ (cr_ U) (rl_ U) d9.out) ?_
         rintro e w' ⟨rfl, ⟨nd, rfl⟩⟩
         refine ⟨_, _, rfl, ⟨(bc_ m 0 rfl), (bc_ m 1 rfl), (bc_ m 2 rfl), (bc_ m 3 rfl), cz4_ s⟩, pt_, fun hHeld => ?_⟩
         refine pur_ 12 (bo_ 13 8191) (some 8) HT_ ?_
         refine done_ (done_of HT_.out (by kernel_rfl)) ?_
         have j6 := cf4_ m
         have j7 := cf4_ s
         try go_wp2
         go_roundg k1
         case measure => have := c1.out; omega
         case rel => exact ⟨(wrap64 (l + 1)), (by first | rfl | (simp; done) | (simp [*]; done)), H', ⟨by have := c1.out; omega⟩, ⟨bl2_ HB x G⟩⟩
       ·rw [if_neg d2] at H
        obtain ⟨g2, g3⟩ := bn_ d2
        have H' := Aside0.mk H
        clear H
        have z : 0 ≤ (l : Int) := od_
        have B : l < (j.length : Int) := od_
        obtain ⟨b2, a6, J, L, O, T⟩ := at_T53 b1.out l z B
        cases a6
        replace J := hbc_ HB J
        replace L := hbc_ HB L
        replace O := hbc_ HB O
        replace T := hbc_ HB T
        replace z := eq_true z
        replace B := eq_true B
        try go_wp2_with (first | ((with_reducible refine gd_ 6 ?_); refine bx_ 6 53 #[iv_ 0, iv_ 0, iv_ 0, iv_ 0] ?_; intro I hg m6 hbox hb; refine sh3_ (below_step (bl_ HB) hb) hbox (ge_ hg (bl_ HB)) ?_; clear HB hb hbox hg; intro HB s x; have j8 := cf4_ s) | ((with_reducible refine gate_callee (f := 83) rfl ?_); refine gl_ 18 Try.func83 (impl_IsContact.calls ((rd_T53 j l).f0) ((rd_T53 j l).f1) ((rd_T53 j l).f2) ((rd_T53 j l).f3) a1 true _ A6.out) ?_; rintro e m7 ⟨rfl, hb⟩; refine ⟨_, rfl, sh2_ (blk_below (g := I) (o := .cells #[iv_ ((rd_T53 j l).f0), iv_ ((rd_T53 j l).f1), iv_ ((rd_T53 j l).f2), iv_ ((rd_T53 j l).f3)] 53 (0, 0)) (bp_ s) hb) (below_step (bl1_ HB x) hb) ?_⟩; clear s HB hb; intro s HB; have a0 : 0 ≤ ((ji12) : Int) := od_; have a2 : (ji12) < (j.length : Int) := od_; obtain ⟨b6, b7, a7, a8, a9, b0⟩ := at_T53 b1.out (ji12) a0 a2; obtain rfl : b2 = b6 := (by injection b7); replace a7 := hbc_ HB a7; replace a8 := hbc_ HB a8; replace a9 := hbc_ HB a9; replace b0 := hbc_ HB b0; replace a0 := eq_true a0; replace a2 := eq_true a2) | ((with_reducible refine gd_ 7 ?_); refine bx_ 7 53 #[iv_ 0, iv_ 0, iv_ 0, iv_ 0] ?_; intro u hg e3 hbox hb; refine sh6_ (blk_below (bk_ s) hb) (below_step (bl1_ HB x) hb) hbox (ge_ hg (bl1_ HB x)) (nl_ hg (bk_ s)) (ng_ hg (bk_ s)) ?_; clear s HB hb hbox hg; intro s HB m G y b5; have k6 := b5.out; have l1 := y.out; have j9 := cf4_ m))
        have X : Aside0 (((((e3.setCell ⟨u, 0, none⟩ (iv_ ((rd_T53 j (ji12)).f0))).setCell ⟨u, 1, none⟩ (iv_ ((rd_T53 j (ji12)).f1))).setCell ⟨u, 2, none⟩ (iv_ ((rd_T53 j (ji12)).f2))).setCell ⟨u, 3, none⟩ (iv_ ((rd_T53 j (ji12)).f3))).heap[I]? = some (.cells #[iv_ ((rd_T53 j l).f0), iv_ ((rd_T53 j l).f1), iv_ ((rd_T53 j l).f2), iv_ ((rd_T53 j l).f3)] 53 (0, 0))) := ⟨by (with_reducible repeat (first | refine blk_drewN ?_ _ | refine blk_drew ?_ | refine blk_alloc ?_ _)); refine blk_far ?_ y.out _; (with_reducible repeat (first | refine blk_drewN ?_ _ | refine blk_drew ?_ | refine blk_alloc ?_ _)); refine blk_far ?_ y.out _; (with_reducible repeat (first | refine blk_drewN ?_ _ | refine blk_drew ?_ | refine blk_alloc ?_ _)); refine blk_far ?_ y.out _; (with_reducible repeat (first | refine blk_drewN ?_ _ | refine blk_drew ?_ | refine blk_alloc ?_ _)); refine blk_far ?_ y.out _; exact bk_ s⟩
        have Y : Aside0 (((((e3.setCell ⟨u, 0, none⟩ (iv_ ((rd_T53 j (ji12)).f0))).setCell ⟨u, 1, none⟩ (iv_ ((rd_T53 j (ji12)).f1))).setCell ⟨u, 2, none⟩ (iv_ ((rd_T53 j (ji12)).f2))).setCell ⟨u, 3, none⟩ (iv_ ((rd_T53 j (ji12)).f3))).heap[u]? = some (.cells #[iv_ ((rd_T53 j (ji12)).f0), iv_ ((rd_T53 j (ji12)).f1), iv_ ((rd_T53 j (ji12)).f2), iv_ ((rd_T53 j (ji12)).f3)] 53 (0, 0))) := ⟨by (with_reducible repeat (first | refine blk_drewN ?_ _ | refine blk_drew ?_ | refine blk_alloc ?_ _)); refine blk_put (cs := #[iv_ ((rd_T53 j (ji12)).f0), iv_ ((rd_T53 j (ji12)).f1), iv_ ((rd_T53 j (ji12)).f2), iv_ 0]) ?_ 3 _ rfl; (with_reducible repeat (first | refine blk_drewN ?_ _ | refine blk_drew ?_ | refine blk_alloc ?_ _)); refine blk_put (cs := #[iv_ ((rd_T53 j (ji12)).f0), iv_ ((rd_T53 j (ji12)).f1), iv_ 0, iv_ 0]) ?_ 2 _ rfl; (with_reducible repeat (first | refine blk_drewN ?_ _ | refine blk_drew ?_ | refine blk_alloc ?_ _)); refine blk_put (cs := #[iv_ ((rd_T53 j (ji12)).f0), iv_ 0, iv_ 0, iv_ 0]) ?_ 1 _ rfl; (with_reducible repeat (first | refine blk_drewN ?_ _ | refine blk_drew ?_ | refine blk_alloc ?_ _)); refine blk_put (cs := #[iv_ 0, iv_ 0, iv_ 0, iv_ 0]) ?_ 0 _ rfl; exact bk_ m⟩
        have Z : Aside0 (Below w.heap.size w ((((e3.setCell ⟨u, 0, none⟩ (iv_ ((rd_T53 j (ji12)).f0))).setCell ⟨u, 1, none⟩ (iv_ ((rd_T53 j (ji12)).f1))).setCell ⟨u, 2, none⟩ (iv_ ((rd_T53 j (ji12)).f2))).setCell ⟨u, 3, none⟩ (iv_ ((rd_T53 j (ji12)).f3)))) := ⟨bl2_ HB x G⟩
        (try clear s)
        (try clear m)
        (try clear HB)
        generalize ((((e3.setCell ⟨u, 0, none⟩ (iv_ ((rd_T53 j (ji12)).f0))).setCell ⟨u, 1, none⟩ (iv_ ((rd_T53 j (ji12)).f1))).setCell ⟨u, 2, none⟩ (iv_ ((rd_T53 j (ji12)).f2))).setCell ⟨u, 3, none⟩ (iv_ ((rd_T53 j (ji12)).f3))) = h3 at X Y Z ⊢
        have s := X
        have m := Y
        have HB := Z
        clear X Y Z
        refine sh3_ (blk_drew s.out) (blk_drew m.out) (below_drew1 HB.out) ?_
        clear s m HB
        intro s m HB
        refine start_ (n := 13) (S := fun w' => Ck4 w' u (iv_ ((rd_T53 j (ji12)).f0)) (iv_ ((rd_T53 j (ji12)).f1)) (iv_ ((rd_T53 j (ji12)).f2)) (iv_ ((rd_T53 j (ji12)).f3)) (Cz4 w' I (iv_ ((rd_T53 j l).f0)) (iv_ ((rd_T53 j l).f1)) (iv_ ((rd_T53 j l).f2)) (iv_ ((rd_T53 j l).f3)))) (ds := []) (bo_ 13 0) (by kernel_rfl) rfl rfl ⟨(bc_ m 0 rfl), (bc_ m 1 rfl), (bc_ m 2 rfl), (bc_ m 3 rfl), cz4_ s⟩ (fun hHeld => ?_); refine with_tabW impl_IsPlan.tab8 impl_IsPlan.bits8 (fun HT_ HW_ => ?_)
        generalize h3.drew = m8 at s m HB hHeld ⊢
        refine pur_ 0 (bo_ 13 1) (some 27) HT_ ?_
        refine pur_ 2 (bo_ 13 5) (some 29) HT_ ?_
        refine pur_ 5 (bo_ 13 37) (some 32) HT_ ?_
        refine pur_ 7 (bo_ 13 165) (some 34) HT_ ?_
        refine tak_ 1 (bo_ 13 167) (some 28) HT_ HW_ hHeld ?_
        refine tak_ 3 (bo_ 13 175) (some 30) HT_ HW_ hHeld ?_
        refine tak_ 6 (bo_ 13 239) (some 33) HT_ HW_ hHeld ?_
        refine tak_ 8 (bo_ 13 495) (some 35) HT_ HW_ hHeld ?_
        refine one_ (i := 4) (N := some 31) (bo_ 13 511) rfl rfl (one_of HT_.out (by kernel_rfl)) (by decide) (fun K hK => ?_)
        refine goes_ Try.func85 (by kernel_rfl) rfl #[iv_ ((rd_T53 j (ji12)).f0), iv_ ((rd_T53 j l).f0)] (by rfl) rfl rfl (by (try simp only [List.map_toArray, List.map_cons, List.map_nil]); first | done | (simp only [hji12]; rfl) | rfl | (simp only [List.length_drop, List.length_take]; rfl)) ?_
        with_reducible refine (cmp_Compare_int.calls ((rd_T53 j (ji12)).f0) ((rd_T53 j l).f0) D _ d7.out).mono ?_
        rintro e w' ⟨rfl, ⟨nd, rfl⟩⟩
        refine ⟨_, rfl, ?_⟩
        refine hK.out _ _ ⟨(bc_ m 0 rfl), (bc_ m 1 rfl), (bc_ m 2 rfl), (bc_ m 3 rfl), cz4_ s⟩ (fun hHeld => ?_)
        clear hK K
        refine norm_ (show Act.put _ (some 31) _ = _ from pt_) ?_
        refine one_ (i := 9) (N := some 36) (bo_ 13 1023) rfl rfl (one_of HT_.out (by kernel_rfl)) (by decide) (fun K hK => ?_)
        refine goes_ Try.func85 (by kernel_rfl) rfl #[iv_ ((rd_T53 j (ji12)).f1), iv_ ((rd_T53 j l).f1)] (by rfl) rfl rfl (by (try simp only [List.map_toArray, List.map_cons, List.map_nil]); first | done | (simp only [hji12]; rfl) | rfl | (simp only [List.length_drop, List.length_take]; rfl)) ?_
        with_reducible refine (cmp_Compare_int.calls ((rd_T53 j (ji12)).f1) ((rd_T53 j l).f1) E _ d8.out).mono ?_
        rintro e w' ⟨rfl, ⟨nd, rfl⟩⟩
        refine ⟨_, rfl, ?_⟩
        refine hK.out _ _ ⟨(bc_ m 0 rfl), (bc_ m 1 rfl), (bc_ m 2 rfl), (bc_ m 3 rfl), cz4_ s⟩ (fun hHeld => ?_)
        clear hK K
        refine norm_ (show Act.put _ (some 36) _ = _ from pt_) ?_
        refine one_ (i := 10) (N := some 37) (bo_ 13 2047) rfl rfl (one_of HT_.out (by kernel_rfl)) (by decide) (fun K hK => ?_)
        refine Kd.R_lit_step (Kd.int .i64) _ 3 ?hg (N := 37) ?hd (xs := ([D, E] : List Int)) (inner := [iv_ D, iv_ E]) (ok := fun _ => True) (okp := fun _ => True) ?hr ?hp (fun _ hk => hk) trivial (Below.refl _ _) (Nat.le_refl _) (by simp) ?_; (case hd => rfl); (case hg => rfl); (case hr => first | (go_simp; done) | (go_simp; rfl)); (case hp => exact (Reps.one (show Kd.M (Kd.int .i64) _ _ _ D [iv_ D] from rfl) (Reps.one (show Kd.M (Kd.int .i64) _ _ _ E [iv_ E] from rfl) (Reps.none _ _))))
        intro e5 m9 d6 hb hg_ hnew_
        clear hg_ hnew_
        (first | rw [← b3.out] at d6 | (simp only [Int.reduceToNat] at d6; rw [← b3.out] at d6))
        refine sh4_ (Kd.R_lower d6 (below_size (bl2_ HB x G))) (blk_below (bk_ s) hb) (blk_below (bk_ m) hb) (below_step (bl2_ HB x G) hb) ?_
        clear s m HB hb d6
        intro U s m HB
        obtain ⟨h7, i6, f8⟩ := Kd.R_slice U.out
        (first | subst f8 | (injection f8 with f1_ f2_ f3_; have b8 := f1_.symm; have b9 := f3_.symm; clear f1_ f2_ f3_; subst b8; subst b9))
        refine hK.out _ _ ⟨(bc_ m 0 rfl), (bc_ m 1 rfl), (bc_ m 2 rfl), (bc_ m 3 rfl), cz4_ s⟩ (fun hHeld => ?_)
        clear hK K
        refine norm_ (show Act.put _ (some 37) _ = _ from pt_) ?_
        refine onc_ 11 (bo_ 13 4095) (some 38) HT_ Try.func84 (cmp_Or_int.calls k1 _ _ e4 a3 _ (cr_ U) (rl_ U) d9.out) ?_
        rintro e w' ⟨rfl, ⟨nd, rfl⟩⟩
        refine ⟨_, _, rfl, ⟨(bc_ m 0 rfl), (bc_ m 1 rfl), (bc_ m 2 rfl), (bc_ m 3 rfl), cz4_ s⟩, pt_, fun hHeld => ?_⟩
        refine pur_ 12 (bo_ 13 8191) (some 8) HT_ ?_
        refine done_ (done_of HT_.out (by kernel_rfl)) ?_
        try go_wp2
        go_roundg k1
        case measure => have := c1.out; omega
        case rel => exact ⟨(wrap64 (l + 1)), (by first | rfl | (simp; done) | (simp [*]; done)), H', ⟨by have := c1.out; omega⟩, ⟨bl2_ HB x G⟩⟩
    ·replace c7 := Bool.eq_false_iff.mpr c7
     subst c7
     have H1 : (some false) = some r := by rw [if_neg (show ¬ (false = true) by decide)] at H; exact H
     clear H
     have H := H1
     clear H1
     obtain rfl := Option.some.inj H
     have z : 0 ≤ (l : Int) := od_
     have B : l < (j.length : Int) := od_
     obtain ⟨b2, a6, J, L, O, T⟩ := at_T53 b1.out l z B
     cases a6
     replace J := hbc_ HB J
     replace L := hbc_ HB L
     replace O := hbc_ HB O
     replace T := hbc_ HB T
     replace z := eq_true z
     replace B := eq_true B
     go_wp2_with (first | ((with_reducible refine gd_ 6 ?_); refine bx_ 6 53 #[iv_ 0, iv_ 0, iv_ 0, iv_ 0] ?_; intro I hg n0 hbox hb; refine sh3_ (below_step (bl_ HB) hb) hbox (ge_ hg (bl_ HB)) ?_; clear HB hb hbox hg; intro HB s x; have k0 := cf4_ s) | ((with_reducible refine gate_callee (f := 83) rfl ?_); refine gl_ 18 Try.func83 (impl_IsContact.calls ((rd_T53 j l).f0) ((rd_T53 j l).f1) ((rd_T53 j l).f2) ((rd_T53 j l).f3) a1 false _ A6.out) ?_; rintro e n1 ⟨rfl, hb⟩; refine ⟨_, rfl, sh2_ (blk_below (g := I) (o := .cells #[iv_ ((rd_T53 j l).f0), iv_ ((rd_T53 j l).f1), iv_ ((rd_T53 j l).f2), iv_ ((rd_T53 j l).f3)] 53 (0, 0)) (bp_ s) hb) (below_step (bl1_ HB x) hb) ?_⟩; clear s HB hb; intro s HB))
     go_ret
     exact ⟨by first | (rw [hRT_.out]; rfl) | exact er_, bl1_ HB x⟩
   ·rw [if_neg c3] at H
    have g5 : decide (l < (j.length : Int)) = false := decide_eq_false c3
    clear c3
    obtain rfl := Option.some.inj H
    go_wp2
    go_ret
    exact ⟨by first | (rw [hRT_.out]; rfl) | exact er_, bl_ HB⟩

/-! ### impl_InSpan: function 63 -/
def impl_InSpan.f (j l m : Int) : Option (Bool) := (impl_IsSpan.f j l).bind fun s => (if s = true then (if j ≤ m then (some (decide (m < l))) else (some false)) else (some false))
theorem impl_InSpan.calls (l s x : Int) (r : Bool) (w : World) (h : impl_InSpan.f l s x = some r) :
  Calls Try.prog 63 #[.agg #[iv_ l, iv_ s], iv_ x] w fun e w' => e = .returned (.bool r) ∧ Below w.heap.size w w' := by
 have M := Try.underlying82
 have HB := Aside0.mk (Below.refl w.heap.size w)
 have H := h
 clear h
 unfold impl_InSpan.f at H
 replace H := bs_ H
 obtain ⟨D, u, H⟩ := H
 by_cases c4 : D = true
 ·subst c4
  rw [if_pos rfl] at H
  by_cases c5 : l ≤ x
  ·rw [if_pos c5] at H
   have B := decide_eq_true c5
   clear c5
   obtain rfl := Option.some.inj H
   go_enter Try.func63, Try.ntmps63
   go_wp2_with (first | ((with_reducible refine gd_ 2 ?_); refine bx_ 2 82 #[iv_ l, iv_ s] ?_; intro z hg Y hbox hb; refine sh3_ (below_step (bl_ HB) hb) hbox (ge_ hg (bl_ HB)) ?_; clear HB hb hbox hg; intro HB j m; have J := cf2_ j) | ((with_reducible refine gate_callee (f := 99) rfl ?_); refine gl_ 6 Try.func99 (impl_IsSpan.calls l s true _ u.out) ?_; rintro e Z ⟨rfl, hb⟩; refine ⟨_, rfl, sh2_ (blk_below (bk_ j) hb) (below_step (bl1_ HB m) hb) ?_⟩; clear j HB hb; intro j HB; have L := cf2_ j))
   go_ret
   exact ⟨by first | (rw [hRT_.out]; rfl) | exact er_, bl1_ HB m⟩
  ·rw [if_neg c5] at H
   have B := decide_eq_false c5
   clear c5
   obtain rfl := Option.some.inj H
   go_enter Try.func63, Try.ntmps63
   go_wp2_with (first | ((with_reducible refine gd_ 2 ?_); refine bx_ 2 82 #[iv_ l, iv_ s] ?_; intro z hg O hbox hb; refine sh3_ (below_step (bl_ HB) hb) hbox (ge_ hg (bl_ HB)) ?_; clear HB hb hbox hg; intro HB j m; have E := cf2_ j) | ((with_reducible refine gate_callee (f := 99) rfl ?_); refine gl_ 6 Try.func99 (impl_IsSpan.calls l s true _ u.out) ?_; rintro e T ⟨rfl, hb⟩; refine ⟨_, rfl, sh2_ (blk_below (bk_ j) hb) (below_step (bl1_ HB m) hb) ?_⟩; clear j HB hb; intro j HB; have G := cf2_ j))
   go_ret
   exact ⟨by first | (rw [hRT_.out]; rfl) | exact er_, bl1_ HB m⟩
 ·replace c4 := Bool.eq_false_iff.mpr c4
  subst c4
  have y : (some false) = some r := by rw [if_neg (show ¬ (false = true) by decide)] at H; exact H
  clear H
  have H := y
  clear y
  obtain rfl := Option.some.inj H
  go_enter Try.func63, Try.ntmps63
  go_wp2_with (first | ((with_reducible refine gd_ 2 ?_); refine bx_ 2 82 #[iv_ l, iv_ s] ?_; intro z hg U hbox hb; refine sh3_ (below_step (bl_ HB) hb) hbox (ge_ hg (bl_ HB)) ?_; clear HB hb hbox hg; intro HB j m; have I := cf2_ j) | ((with_reducible refine gate_callee (f := 99) rfl ?_); refine gl_ 6 Try.func99 (impl_IsSpan.calls l s false _ u.out) ?_; rintro e X ⟨rfl, hb⟩; refine ⟨_, rfl, sh2_ (blk_below (bk_ j) hb) (below_step (bl1_ HB m) hb) ?_⟩; clear j HB hb; intro j HB))
  go_ret
  exact ⟨by first | (rw [hRT_.out]; rfl) | exact er_, bl1_ HB m⟩

/-! ### impl_CanSpeak: function 42 -/
def impl_CanSpeak.l0 : Nat → Int → Int → Int → List S53 → Int → Int → Option (Bool)
 | 0, _, _, _, _, _, _ => none
 | k + 1, m, s, x, l, u, j => if j < u then (if 0 ≤ j then (if j < (l.length : Int) then (if ((rd_T53 l j).f0) = (mn m s) then (if ((rd_T53 l j).f1) = (mx m s) then ((impl_spanOf.f ((rd_T53 l j).f0) ((rd_T53 l j).f1) ((rd_T53 l j).f2) ((rd_T53 l j).f3)).bind fun y => ((impl_InSpan.f y.1 y.2 x).bind fun z => (if z = true then (some true) else (impl_CanSpeak.l0 k m s x l u (wrap64 (j + 1)))))) else (impl_CanSpeak.l0 k m s x l u (wrap64 (j + 1)))) else (impl_CanSpeak.l0 k m s x l u (wrap64 (j + 1)))) else (none)) else (none)) else (some false)
def impl_CanSpeak.f (k : Nat) (j : List S53) (l m s : Int) : Option (Bool) := impl_CanSpeak.l0 k l m s j (j.length : Int) 0
theorem impl_CanSpeak.calls (k : Nat) (A0 : Option Addr) (c0 : Nat) (l : List S53) (s u z : Int) (r : Bool) (w : World) (b2 : Kd.C k53 w A0 l.length l) (b1 : l.length ≤ c0) (h : impl_CanSpeak.f k l s u z = some r) :
  Calls Try.prog 42 #[.slice A0 l.length c0, iv_ s, iv_ u, iv_ z] w fun e w' => e = .returned (.bool r) ∧ Below w.heap.size w w' := by
 have d7 := Try.underlying53
 have Y := Aside0.mk b2
 have b9 := Aside0.mk b1
 clear b2 b1
 have HB := Aside0.mk (Below.refl w.heap.size w)
 have H := h
 clear h
 unfold impl_CanSpeak.f at H
 have H' := Aside0.mk H
 clear H
 go_enter Try.func42, Try.ntmps42
 go_wp2
 go_loopg [13] k (fun kq b8 w' => ∃ (j : Int), b8 = iv_ j ∧ Aside0 (impl_CanSpeak.l0 kq s u z l (l.length : Int) j = some r) ∧ Aside0 (kq ≤ k) ∧ Aside0 (Below w.heap.size w w'))
 case atStart => exact ⟨(0), (by first | rfl | (simp; done) | (simp [*]; done)), H', ⟨Nat.le_refl _⟩, ⟨bl_ HB⟩⟩
 case round =>
  clear H'
  obtain ⟨j, rfl, HA, M, HB⟩ := hrel
  cases gk with
  | zero => exact absurd HA.out (by simp [impl_CanSpeak.l0])
  | succ J =>
   have H := HA.out
   clear HA
   simp only [impl_CanSpeak.l0] at H
   by_cases c5 : j < (l.length : Int)
   ·rw [if_pos c5] at H
    have b5 := decide_eq_true c5
    clear c5
    replace H := ifn_ H
    obtain ⟨c6, H⟩ := H
    have c1 := decide_eq_true c6
    clear c6
    replace H := ifn_ H
    obtain ⟨c7, H⟩ := H
    have d0 := decide_eq_true c7
    clear c7
    obtain ⟨ji8, hji8⟩ : ∃ j_ : Int, (mn s u) = j_ := ⟨_, rfl⟩
    replace H : (if ((rd_T53 l j).f0) = (ji8) then (if ((rd_T53 l j).f1) = (mx s u) then ((impl_spanOf.f ((rd_T53 l j).f0) ((rd_T53 l j).f1) ((rd_T53 l j).f2) ((rd_T53 l j).f3)).bind fun O => ((impl_InSpan.f O.1 O.2 z).bind fun X => (if X = true then (some true) else (impl_CanSpeak.l0 J s u z l (l.length : Int) (wrap64 (j + 1)))))) else (impl_CanSpeak.l0 J s u z l (l.length : Int) (wrap64 (j + 1)))) else (impl_CanSpeak.l0 J s u z l (l.length : Int) (wrap64 (j + 1)))) = some r := by first | (rw [hji8] at H; exact H) | (simp only [hji8] at H ⊢; exact H)
    have d6 : (if u < s then u else s) = ji8 := hji8
    by_cases c9 : ((rd_T53 l j).f0) = (ji8)
    ·rw [if_pos c9] at H
     obtain ⟨b6, b7⟩ := bt_ c9
     clear c9
     obtain ⟨ji10, hji10⟩ : ∃ j_ : Int, (mx s u) = j_ := ⟨_, rfl⟩
     replace H : (if ((rd_T53 l j).f1) = (ji10) then ((impl_spanOf.f ((rd_T53 l j).f0) ((rd_T53 l j).f1) ((rd_T53 l j).f2) ((rd_T53 l j).f3)).bind fun O => ((impl_InSpan.f O.1 O.2 z).bind fun X => (if X = true then (some true) else (impl_CanSpeak.l0 J s u z l (l.length : Int) (wrap64 (j + 1)))))) else (impl_CanSpeak.l0 J s u z l (l.length : Int) (wrap64 (j + 1)))) = some r := by first | (rw [hji10] at H; exact H) | (simp only [hji10] at H ⊢; exact H)
     have d5 : (if s < u then u else s) = ji10 := hji10
     by_cases T : ((rd_T53 l j).f1) = (ji10)
     ·rw [if_pos T] at H
      obtain ⟨b3, b4⟩ := bt_ T
      clear T
      replace H := bs_ H
      obtain ⟨⟨a0, a4⟩, a7, H⟩ := H
      dsimp only at H
      replace H := bs_ H
      obtain ⟨X, a8, H⟩ := H
      by_cases Z : X = true
      ·subst Z
       rw [if_pos rfl] at H
       obtain rfl := Option.some.inj H
       have x : 0 ≤ (j : Int) := od_
       have y : j < (l.length : Int) := od_
       obtain ⟨a5, L, D, E, G, I⟩ := at_T53 Y.out j x y
       cases L
       replace D := hbc_ HB D
       replace E := hbc_ HB E
       replace G := hbc_ HB G
       replace I := hbc_ HB I
       replace x := eq_true x
       replace y := eq_true y
       go_wp2_with (first | ((with_reducible refine gate_dst (N := 10) rfl ?_); (try (refine gate_guard (by rfl) ?_; dsimp only)); refine box_event ?hg (N := 10) ?hd (cs := #[iv_ 0, iv_ 0, iv_ 0, iv_ 0]) (t := 53) ?hr ?_; (case hd => rfl); (case hg => rfl); (case hr => first | (go_simp; done) | (go_simp; rfl)); intro U hg d8 hbox hb; refine sh3_ (below_step (bl_ HB) hb) hbox (ge_ hg (bl_ HB)) ?_; clear HB hb hbox hg; intro HB m B; have d1 := cf4_ m) | (go_at_call 86; (with_reducible refine (impl_spanOf.calls ((rd_T53 l j).f0) ((rd_T53 l j).f1) ((rd_T53 l j).f2) ((rd_T53 l j).f3) a0 a4 _ a7.out).mono ?_); rintro e d9 ⟨rfl, hb⟩; refine sh2_ (blk_below (g := U) (o := .cells #[iv_ ((rd_T53 l j).f0), iv_ ((rd_T53 l j).f1), iv_ ((rd_T53 l j).f2), iv_ ((rd_T53 l j).f3)] 53 (0, 0)) (bp_ m) hb) (below_step (bl1_ HB B) hb) ?_; clear m HB hb; intro m HB) | (go_at_call 63; (with_reducible refine (impl_InSpan.calls a0 a4 z true _ a8.out).mono ?_); rintro e e0 ⟨rfl, hb⟩; refine sh2_ (blk_below (bk_ m) hb) (below_step (bl1_ HB B) hb) ?_; clear m HB hb; intro m HB))
       go_ret
       exact ⟨by first | rfl | (rw [hRT_.out]; rfl) | (simp [errW_none, errW_some] <;> rfl) | (simp only [← hji8, ← hji10]; first | rfl | (simp [errW_none, errW_some] <;> rfl)) | (simp [*, errW_none, errW_some] <;> rfl), bl1_ HB B⟩
      ·replace Z := Bool.eq_false_iff.mpr Z
       subst Z
       have H1 : (impl_CanSpeak.l0 J s u z l (l.length : Int) (wrap64 (j + 1))) = some r := by rw [if_neg (show ¬ (false = true) by decide)] at H; exact H
       clear H
       have H := H1
       clear H1
       have H' := Aside0.mk H
       clear H
       have x : 0 ≤ (j : Int) := od_
       have y : j < (l.length : Int) := od_
       obtain ⟨a5, L, D, E, G, I⟩ := at_T53 Y.out j x y
       cases L
       replace D := hbc_ HB D
       replace E := hbc_ HB E
       replace G := hbc_ HB G
       replace I := hbc_ HB I
       replace x := eq_true x
       replace y := eq_true y
       go_wp2_with (first | ((with_reducible refine gate_dst (N := 10) rfl ?_); (try (refine gate_guard (by rfl) ?_; dsimp only)); refine box_event ?hg (N := 10) ?hd (cs := #[iv_ 0, iv_ 0, iv_ 0, iv_ 0]) (t := 53) ?hr ?_; (case hd => rfl); (case hg => rfl); (case hr => first | (go_simp; done) | (go_simp; rfl)); intro U hg e1 hbox hb; refine sh3_ (below_step (bl_ HB) hb) hbox (ge_ hg (bl_ HB)) ?_; clear HB hb hbox hg; intro HB m B; have d2 := cf4_ m) | (go_at_call 86; (with_reducible refine (impl_spanOf.calls ((rd_T53 l j).f0) ((rd_T53 l j).f1) ((rd_T53 l j).f2) ((rd_T53 l j).f3) a0 a4 _ a7.out).mono ?_); rintro e e2 ⟨rfl, hb⟩; refine sh2_ (blk_below (g := U) (o := .cells #[iv_ ((rd_T53 l j).f0), iv_ ((rd_T53 l j).f1), iv_ ((rd_T53 l j).f2), iv_ ((rd_T53 l j).f3)] 53 (0, 0)) (bp_ m) hb) (below_step (bl1_ HB B) hb) ?_; clear m HB hb; intro m HB) | (go_at_call 63; (with_reducible refine (impl_InSpan.calls a0 a4 z false _ a8.out).mono ?_); rintro e e3 ⟨rfl, hb⟩; refine sh2_ (blk_below (bk_ m) hb) (below_step (bl1_ HB B) hb) ?_; clear m HB hb; intro m HB))
       go_roundg J
       case measure => have := M.out; omega
       case rel => exact ⟨(wrap64 (j + 1)), (by first | rfl | (simp; done) | (simp [*]; done)), H', ⟨by have := M.out; omega⟩, ⟨bl1_ HB B⟩⟩
     ·rw [if_neg T] at H
      obtain ⟨b3, b4⟩ := bn_ T
      have H' := Aside0.mk H
      clear H
      have x : 0 ≤ (j : Int) := od_
      have y : j < (l.length : Int) := od_
      obtain ⟨a5, L, D, E, G, I⟩ := at_T53 Y.out j x y
      cases L
      replace D := hbc_ HB D
      replace E := hbc_ HB E
      replace G := hbc_ HB G
      replace I := hbc_ HB I
      replace x := eq_true x
      replace y := eq_true y
      go_wp2_with (first | ((with_reducible refine gate_dst (N := 10) rfl ?_); (try (refine gate_guard (by rfl) ?_; dsimp only)); refine box_event ?hg (N := 10) ?hd (cs := #[iv_ 0, iv_ 0, iv_ 0, iv_ 0]) (t := 53) ?hr ?_; (case hd => rfl); (case hg => rfl); (case hr => first | (go_simp; done) | (go_simp; rfl)); intro U hg e4 hbox hb; refine sh3_ (below_step (bl_ HB) hb) hbox (ge_ hg (bl_ HB)) ?_; clear HB hb hbox hg; intro HB m B; have d3 := cf4_ m))
      go_roundg J
      case measure => have := M.out; omega
      case rel => exact ⟨(wrap64 (j + 1)), (by first | rfl | (simp; done) | (simp [*]; done)), H', ⟨by have := M.out; omega⟩, ⟨bl1_ HB B⟩⟩
    ·rw [if_neg c9] at H
     obtain ⟨b6, b7⟩ := bn_ c9
     have H' := Aside0.mk H
     clear H
     have x : 0 ≤ (j : Int) := od_
     have y : j < (l.length : Int) := od_
     obtain ⟨a5, L, D, E, G, I⟩ := at_T53 Y.out j x y
     cases L
     replace D := hbc_ HB D
     replace E := hbc_ HB E
     replace G := hbc_ HB G
     replace I := hbc_ HB I
     replace x := eq_true x
     replace y := eq_true y
     go_wp2_with (first | ((with_reducible refine gate_dst (N := 10) rfl ?_); (try (refine gate_guard (by rfl) ?_; dsimp only)); refine box_event ?hg (N := 10) ?hd (cs := #[iv_ 0, iv_ 0, iv_ 0, iv_ 0]) (t := 53) ?hr ?_; (case hd => rfl); (case hg => rfl); (case hr => first | (go_simp; done) | (go_simp; rfl)); intro U hg e5 hbox hb; refine sh3_ (below_step (bl_ HB) hb) hbox (ge_ hg (bl_ HB)) ?_; clear HB hb hbox hg; intro HB m B; have d4 := cf4_ m))
     go_roundg J
     case measure => have := M.out; omega
     case rel => exact ⟨(wrap64 (j + 1)), (by first | rfl | (simp; done) | (simp [*]; done)), H', ⟨by have := M.out; omega⟩, ⟨bl1_ HB B⟩⟩
   ·rw [if_neg c5] at H
    have b5 : decide (j < (l.length : Int)) = false := decide_eq_false c5
    clear c5
    obtain rfl := Option.some.inj H
    go_wp2
    go_ret
    exact ⟨by first | (rw [hRT_.out]; rfl) | exact er_, bl_ HB⟩

end Go.Proofs.Ytopbkdcicidajaa.PFnContacts
