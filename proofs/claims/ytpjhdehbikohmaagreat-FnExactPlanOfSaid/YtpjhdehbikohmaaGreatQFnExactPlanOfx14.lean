-- Written by a program of this session for this claim (the kit's printer with changes).
import Derived.Test.YtpjhdehbikohmaaGreatQFnExactPlanOfx0
import Derived.Test.YtpjhdehbikohmaaGreatQFnExactPlanOfx11
import Derived.Test.YtpjhdehbikohmaaGreatQFnExactPlanOfx13
namespace Go.Proofs.YtpjhdehbikohmaaGreat.PFnExactPlanOf
open Go.RowKit Go.Proofs.YtpjhdehbikohmaaGreatW.PrintWords Go.Proofs.YtpjhdehbikohmaaGreatW.PrintLast Go.Proofs.YtpjhdehbikohmaaGreatW.PrintMore
attribute [local go_sem] max2_int min2_int max_two min_two max_three min_three max_four min_four   -- for this text's walks alone
set_option linter.unusedVariables false
set_option maxHeartbeats 8000000
set_option maxRecDepth 100000
set_option linter.unusedSimpArgs false

/-! ### impl_WidenArc: function 110 -/
def impl_WidenArc.f (s j l : Int) : Option (Int × Int) := (impl_AngleOf.f s).bind fun m => ((impl_InRange.f l 0 360).bind fun u => (if u = true then ((impl_isWidth.f j).bind fun x => (if x = true then ((impl_AngleOf.f (wrap64 (m - l))).bind fun y => (some (y, mn (wrap64 (j + (wrap64 (2 * l)))) 359))) else (some (m, j)))) else (some (m, j))))
def impl_WidenArc.T4 : Bool × List (List Nat × List Nat) := (true, [([], []), ([0], [0]), ([], []), ([1, 2], [1, 2]), ([3], [3]), ([], []), ([5], [5]), ([], []), ([7], [7]), ([6, 8], [6, 8]), ([9], [9]), ([4, 10], [4, 10]), ([11, 4, 0, 1, 2, 3, 4, 5, 6, 7, 8, 9, 10, 11], [11])])
def impl_WidenArc.B4 : List Nat := [0, 1, 0, 7, 15, 0, 32, 0, 128, 480, 992, 2047, 4095]
theorem impl_WidenArc.tab4 : rtab .any (opsOf Tryz.f110 4) = impl_WidenArc.T4 := by kernel_rfl
theorem impl_WidenArc.bits4 : waitsOk impl_WidenArc.T4.2 impl_WidenArc.B4 = true := by kernel_rfl
theorem impl_WidenArc.calls (E m D T U : Int) (w : World) (h : impl_WidenArc.f E m D = some (T, U)) :
  Calls Tryz.prog 110 #[.agg #[iv_ E, iv_ m], iv_ D] w fun e w' => e = .returned (.agg #[iv_ T, iv_ U]) ∧ Below w.heap.size w w' := by
 have e2 := Tryz.underlying74
 have HB := Aside0.mk (Below.refl w.heap.size w)
 have H := h
 clear h
 unfold impl_WidenArc.f at H
 replace H := bs_ H
 obtain ⟨s, A3, H⟩ := H
 replace H := bs_ H
 obtain ⟨a8, A4, H⟩ := H
 by_cases c5 : a8 = true
 ·subst c5
  have I : ((impl_isWidth.f m).bind fun a5 => (if a5 = true then ((impl_AngleOf.f (wrap64 (s - D))).bind fun X => (some (X, mn (wrap64 (m + (wrap64 (2 * D)))) 359))) else (some (s, m)))) = some (T, U) := by rw [if_pos rfl] at H; exact H
  clear H
  have H := I
  clear I
  replace H := bs_ H
  obtain ⟨a5, A6, H⟩ := H
  by_cases c7 : a5 = true
  ·subst c7
   have I : ((impl_AngleOf.f (wrap64 (s - D))).bind fun X => (some (X, mn (wrap64 (m + (wrap64 (2 * D)))) 359))) = some (T, U) := by rw [if_pos rfl] at H; exact H
   clear H
   have H := I
   clear I
   replace H := bs_ H
   obtain ⟨X, A8, H⟩ := H
   obtain ⟨ji9, hji9⟩ : ∃ j_ : Int, (mn (wrap64 (m + (wrap64 (2 * D)))) 359) = j_ := ⟨_, rfl⟩
   replace H : (some (X, ji9)) = some (T, U) := by first | (rw [hji9] at H; exact H) | (simp only [hji9] at H ⊢; exact H)
   (try rw [hji9] at A3)
   (try rw [hji9] at A4)
   (try rw [hji9] at A6)
   (try rw [hji9] at A8)
   (try (have c1 : ji9 ≤ 359 := by (rw [← hji9]; unfold mn; (repeat' split) <;> omega)))
   (try (have c0 : ji9 ≤ 64 := by omega))
   have b9 : (if 359 < (wrap64 (m + (wrap64 (2 * D)))) then 359 else (wrap64 (m + (wrap64 (2 * D))))) = ji9 := hji9
   simp only [Option.some.injEq, Prod.mk.injEq] at H
   obtain ⟨rfl, rfl⟩ := H
   go_enter Tryz.func110, Tryz.ntmps110
   try go_wp2_with (first | ((with_reducible refine gd_ 2 ?_); refine bx_ 2 74 #[iv_ E, iv_ m] ?_; intro G hg e3 hbox hb; refine sh3_ (below_step (bl_ HB) hb) hbox (ge_ hg (bl_ HB)) ?_; clear HB hb hbox hg; intro HB j u) | ((with_reducible refine gd_ 4 ?_); refine bx_ 4 74 #[iv_ 0, iv_ 0] ?_; intro x hg M hbox hb; refine sh6_ (blk_below (bk_ j) hb) (below_step (bl1_ HB u) hb) hbox (ge_ hg (bl1_ HB u)) (nl_ hg (bk_ j)) (ng_ hg (bk_ j)) ?_; clear j HB hb hbox hg; intro j HB l L J O; have d2 := J.out; have d5 := O.out; have a9 := cf2_ j) | ((with_reducible refine gate_callee (f := 109) rfl ?_); refine gl_ 7 Tryz.func109 (impl_AngleOf.calls E s _ A3.out) ?_; rintro e w' ⟨rfl, ⟨nd, rfl⟩⟩; refine ⟨_, rfl, ?_⟩; (try (rw [drewN_self M]; generalize hq_ : World.drewN M _ = M; have y : Aside0 (M.heap[G]? = some (.cells #[iv_ E, iv_ m] 74 (0, 0))) := ⟨by rw [← hq_]; exact (bk_ j)⟩; have z : Aside0 (M.heap[x]? = some (.cells #[iv_ 0, iv_ 0] 74 (0, 0))) := ⟨by rw [← hq_]; exact (bk_ l)⟩; have B : Aside0 (Below w.heap.size w M) := ⟨by rw [← hq_]; exact (bl2_ HB u L)⟩; clear j l HB hq_; have j := y; have l := z; have HB := B; clear y z B)); have b0 := cf2_ j) | ((with_reducible refine gate_callee (f := 51) rfl ?_); refine gl_ 10 Tryz.func51 (impl_InRange.calls D 0 360 true _ A4.out) ?_; rintro e w' ⟨rfl, ⟨nd, rfl⟩⟩; refine ⟨_, rfl, ?_⟩) | (go_at_call 53; (with_reducible refine (impl_isWidth.calls m true _ A6.out).mono ?_); rintro e w' ⟨rfl, ⟨nd, rfl⟩⟩))
   have y : Aside0 ((M.setCell ⟨G, 0, none⟩ (iv_ s)).heap[G]? = some (.cells #[iv_ s, iv_ m] 74 (0, 0))) := ⟨by (with_reducible repeat (first | refine blk_drewN ?_ _ | refine blk_drew ?_ | refine blk_alloc ?_ _)); refine blk_put (cs := #[iv_ E, iv_ m]) ?_ 0 _ rfl; (with_reducible repeat (first | refine blk_drewN ?_ _ | refine blk_drew ?_ | refine blk_alloc ?_ _)); exact j.out⟩
   have z : Aside0 ((M.setCell ⟨G, 0, none⟩ (iv_ s)).heap[x]? = some (.cells #[iv_ 0, iv_ 0] 74 (0, 0))) := ⟨by (with_reducible repeat (first | refine blk_drewN ?_ _ | refine blk_drew ?_ | refine blk_alloc ?_ _)); refine blk_far ?_ O.out _; (with_reducible repeat (first | refine blk_drewN ?_ _ | refine blk_drew ?_ | refine blk_alloc ?_ _)); exact l.out⟩
   have B : Aside0 (Below w.heap.size w (M.setCell ⟨G, 0, none⟩ (iv_ s))) := ⟨bl2_ HB u L⟩
   (try clear j)
   (try clear l)
   (try clear HB)
   generalize (M.setCell ⟨G, 0, none⟩ (iv_ s)) = Y at y z B ⊢
   have j := y
   have l := z
   have HB := B
   clear y z B
   (try (rw [drewN_self Y]; generalize hq_ : World.drewN Y _ = Y; have y : Aside0 (Y.heap[G]? = some (.cells #[iv_ s, iv_ m] 74 (0, 0))) := ⟨by rw [← hq_]; exact (bk_ j)⟩; have z : Aside0 (Y.heap[x]? = some (.cells #[iv_ 0, iv_ 0] 74 (0, 0))) := ⟨by rw [← hq_]; exact (bk_ l)⟩; have B : Aside0 (Below w.heap.size w Y) := ⟨by rw [← hq_]; exact (bl2_ HB u L)⟩; clear j l HB hq_; have j := y; have l := z; have HB := B; clear y z B))
   refine sh3_ (blk_drew j.out) (blk_drew l.out) (below_drew1 HB.out) ?_
   clear j l HB
   intro j l HB
   refine start_ (n := 13) (S := fun w' => Cz2 w' G (iv_ s) (iv_ m)) (ds := []) (bo_ 13 0) (by kernel_rfl) rfl rfl (cz2_ j) (fun hHeld => ?_); refine with_tabW impl_WidenArc.tab4 impl_WidenArc.bits4 (fun HT_ HW_ => ?_)
   generalize Y.drew = a7 at j l HB hHeld ⊢
   refine pur_ 0 (bo_ 13 1) (some 19) HT_ ?_
   refine pur_ 2 (bo_ 13 5) (some 21) HT_ ?_
   refine pur_ 5 (bo_ 13 37) (some 24) HT_ ?_
   refine pur_ 7 (bo_ 13 165) (some 26) HT_ ?_
   refine pur_ 8 (bo_ 13 421) (some 27) HT_ ?_
   refine tak_ 1 (bo_ 13 423) (some 20) HT_ HW_ hHeld ?_
   refine pur_ 3 (bo_ 13 431) (some 22) HT_ ?_
   refine tak_ 6 (bo_ 13 495) (some 25) HT_ HW_ hHeld ?_
   refine pur_ 9 (bo_ 13 1007) (some 28) HT_ ?_
   refine pur_ 10 (bo_ 13 2031) (some 29) HT_ ?_
   refine onc_ 4 (bo_ 13 2047) (some 23) HT_ Tryz.func109 (impl_AngleOf.calls (wrap64 (s - D)) X _ A8.out) ?_
   rintro e w' ⟨rfl, ⟨nd, rfl⟩⟩
   refine ⟨_, _, rfl, (cz2_ j), pt_, fun hHeld => ?_⟩
   refine pur_ 11 (bo_ 13 4095) (some 30) HT_ ?_
   refine one_ (i := 12) (N := none) (bo_ 13 8191) rfl rfl (one_of HT_.out (by kernel_rfl)) (by decide) (fun K hK => ?_)
   have e0 : a7.cell? ⟨x, 0, none⟩ = some (iv_ 0) := bc_ l 0 rfl
   have b7 := bf_ l 0
   have d8 := J.out
   have d0 := O.out
   have e1 : a7.cell? ⟨x, 1, none⟩ = some (iv_ 0) := bc_ l 1 rfl
   have b8 := bf_ l 1
   have d9 := J.out
   have d1 := O.out
   refine skip_ (w1 := ?_) (by rfl) rfl ?_ ?_
   rotate_left
   ·go_simp
    rfl
   refine hK.out _ _ ⟨((cell_far (p := ⟨x, _, none⟩) J.out _).trans (((cell_far (p := ⟨x, _, none⟩) J.out _).trans (hHeld.1)))), ((cell_far (p := ⟨x, _, none⟩) J.out _).trans (((cell_far (p := ⟨x, _, none⟩) J.out _).trans (hHeld.2))))⟩ (fun hHeld => ?_)
   clear hK K
   refine done_ (done_of HT_.out (by kernel_rfl)) ?_
   try go_wp2
   refine bodyPost_ret (results_cell_row rfl _ _ x 74 #[iv_ X, iv_ ji9] (0, 0) _ rfl (bp_ l) Tryz.underlying74 rfl (by kernel_rfl)) rfl ?_
   exact ⟨by first | rfl | (simp [errW_none, errW_some] <;> rfl) | (simp only [← hji9]; first | rfl | (simp [errW_none, errW_some] <;> rfl)) | (simp [*, errW_none, errW_some] <;> rfl), bl2_ HB u L⟩
  ·replace c7 := Bool.eq_false_iff.mpr c7
   subst c7
   have I : (some (s, m)) = some (T, U) := by rw [if_neg (show ¬ (false = true) by decide)] at H; exact H
   clear H
   have H := I
   clear I
   simp only [Option.some.injEq, Prod.mk.injEq] at H
   obtain ⟨rfl, rfl⟩ := H
   go_enter Tryz.func110, Tryz.ntmps110
   go_wp2_with (first | ((with_reducible refine gd_ 2 ?_); refine bx_ 2 74 #[iv_ E, iv_ m] ?_; intro G hg e4 hbox hb; refine sh3_ (below_step (bl_ HB) hb) hbox (ge_ hg (bl_ HB)) ?_; clear HB hb hbox hg; intro HB j u) | ((with_reducible refine gd_ 4 ?_); refine bx_ 4 74 #[iv_ 0, iv_ 0] ?_; intro x hg Z hbox hb; refine sh6_ (blk_below (bk_ j) hb) (below_step (bl1_ HB u) hb) hbox (ge_ hg (bl1_ HB u)) (nl_ hg (bk_ j)) (ng_ hg (bk_ j)) ?_; clear j HB hb hbox hg; intro j HB l L J O; have d3 := J.out; have d6 := O.out; have b1 := cf2_ j) | ((with_reducible refine gate_callee (f := 109) rfl ?_); refine gl_ 7 Tryz.func109 (impl_AngleOf.calls E s _ A3.out) ?_; rintro e w' ⟨rfl, ⟨nd, rfl⟩⟩; refine ⟨_, rfl, ?_⟩; (try (rw [drewN_self Z]; generalize hq_ : World.drewN Z _ = Z; have y : Aside0 (Z.heap[G]? = some (.cells #[iv_ E, iv_ m] 74 (0, 0))) := ⟨by rw [← hq_]; exact (bk_ j)⟩; have z : Aside0 (Z.heap[x]? = some (.cells #[iv_ 0, iv_ 0] 74 (0, 0))) := ⟨by rw [← hq_]; exact (bk_ l)⟩; have B : Aside0 (Below w.heap.size w Z) := ⟨by rw [← hq_]; exact (bl2_ HB u L)⟩; clear j l HB hq_; have j := y; have l := z; have HB := B; clear y z B)); have b2 := cf2_ j) | ((with_reducible refine gate_callee (f := 51) rfl ?_); refine gl_ 10 Tryz.func51 (impl_InRange.calls D 0 360 true _ A4.out) ?_; rintro e w' ⟨rfl, ⟨nd, rfl⟩⟩; refine ⟨_, rfl, ?_⟩) | (go_at_call 53; (with_reducible refine (impl_isWidth.calls m false _ A6.out).mono ?_); rintro e w' ⟨rfl, ⟨nd, rfl⟩⟩; have b3 := cf2_ l))
   refine bodyPost_ret (results_cell_row rfl _ _ x 74 #[iv_ s, iv_ m] (0, 0) _ rfl (bp_ l) Tryz.underlying74 rfl (by kernel_rfl)) rfl ?_
   exact ⟨er_, bl2_ HB u L⟩
 ·replace c5 := Bool.eq_false_iff.mpr c5
  subst c5
  have I : (some (s, m)) = some (T, U) := by rw [if_neg (show ¬ (false = true) by decide)] at H; exact H
  clear H
  have H := I
  clear I
  simp only [Option.some.injEq, Prod.mk.injEq] at H
  obtain ⟨rfl, rfl⟩ := H
  go_enter Tryz.func110, Tryz.ntmps110
  go_wp2_with (first | ((with_reducible refine gd_ 2 ?_); refine bx_ 2 74 #[iv_ E, iv_ m] ?_; intro G hg e5 hbox hb; refine sh3_ (below_step (bl_ HB) hb) hbox (ge_ hg (bl_ HB)) ?_; clear HB hb hbox hg; intro HB j u) | ((with_reducible refine gd_ 4 ?_); refine bx_ 4 74 #[iv_ 0, iv_ 0] ?_; intro x hg a0 hbox hb; refine sh6_ (blk_below (bk_ j) hb) (below_step (bl1_ HB u) hb) hbox (ge_ hg (bl1_ HB u)) (nl_ hg (bk_ j)) (ng_ hg (bk_ j)) ?_; clear j HB hb hbox hg; intro j HB l L J O; have d4 := J.out; have d7 := O.out; have b4 := cf2_ j) | ((with_reducible refine gate_callee (f := 109) rfl ?_); refine gl_ 7 Tryz.func109 (impl_AngleOf.calls E s _ A3.out) ?_; rintro e w' ⟨rfl, ⟨nd, rfl⟩⟩; refine ⟨_, rfl, ?_⟩; (try (rw [drewN_self a0]; generalize hq_ : World.drewN a0 _ = a0; have y : Aside0 (a0.heap[G]? = some (.cells #[iv_ E, iv_ m] 74 (0, 0))) := ⟨by rw [← hq_]; exact (bk_ j)⟩; have z : Aside0 (a0.heap[x]? = some (.cells #[iv_ 0, iv_ 0] 74 (0, 0))) := ⟨by rw [← hq_]; exact (bk_ l)⟩; have B : Aside0 (Below w.heap.size w a0) := ⟨by rw [← hq_]; exact (bl2_ HB u L)⟩; clear j l HB hq_; have j := y; have l := z; have HB := B; clear y z B)); have b5 := cf2_ j) | ((with_reducible refine gate_callee (f := 51) rfl ?_); refine gl_ 10 Tryz.func51 (impl_InRange.calls D 0 360 false _ A4.out) ?_; rintro e w' ⟨rfl, ⟨nd, rfl⟩⟩; refine ⟨_, rfl, ?_⟩; have b6 := cf2_ l))
  refine bodyPost_ret (results_cell_row rfl _ _ x 74 #[iv_ s, iv_ m] (0, 0) _ rfl (bp_ l) Tryz.underlying74 rfl (by kernel_rfl)) rfl ?_
  exact ⟨er_, bl2_ HB u L⟩

/-! ### impl_PlacesAt: function 98 -/
def impl_PlacesAt.f (m s u j x : Int) : Option (Int × Int) := (impl_PlaceAt.f m s u j x).bind fun y => ((impl_WidenArc.f y 0 j).bind fun l => (some (l.1, l.2)))
def impl_PlacesAt.T1 : Bool × List (List Nat × List Nat) := (true, [([], []), ([], []), ([0, 1], [0, 1]), ([2], [2]), ([], []), ([4], [4]), ([3, 5, 2], [3, 5]), ([6, 6, 0, 1, 2, 3, 4, 5, 6], [6])])
def impl_PlacesAt.B1 : List Nat := [0, 0, 3, 7, 0, 16, 63, 127]
theorem impl_PlacesAt.tab1 : rtab .any (opsOf Tryz.f98 1) = impl_PlacesAt.T1 := by kernel_rfl
theorem impl_PlacesAt.bits1 : waitsOk impl_PlacesAt.T1.2 impl_PlacesAt.B1 = true := by kernel_rfl
theorem impl_PlacesAt.calls (y z B u E I J : Int) (w : World) (h : impl_PlacesAt.f y z B u E = some (I, J)) :
  Calls Tryz.prog 98 #[.agg #[iv_ y, iv_ z, iv_ B, iv_ u], iv_ E] w fun e w' => e = .returned (.agg #[iv_ I, iv_ J]) ∧ Below w.heap.size w w' := by
 have a9 := Tryz.underlying68
 have b0 := Tryz.underlying74
 have HB := Aside0.mk (Below.refl w.heap.size w)
 have H := h
 clear h
 unfold impl_PlacesAt.f at H
 replace H := bs_ H
 obtain ⟨L, U, H⟩ := H
 replace H := bs_ H
 obtain ⟨⟨M, O⟩, X, H⟩ := H
 dsimp only at H
 simp only [Option.some.injEq, Prod.mk.injEq] at H
 obtain ⟨rfl, rfl⟩ := H
 go_enter Tryz.func98, Tryz.ntmps98
 try go_wp2_with (first | ((with_reducible refine gd_ 2 ?_); refine bx_ 2 68 #[iv_ y, iv_ z, iv_ B, iv_ u] ?_; intro Y hg w5 hbox hb; refine sh3_ (below_step (bl_ HB) hb) hbox (ge_ hg (bl_ HB)) ?_; clear HB hb hbox hg; intro HB j x) | ((with_reducible refine gd_ 4 ?_); refine bx_ 4 74 #[iv_ 0, iv_ 0] ?_; intro m hg Z hbox hb; refine sh6_ (blk_below (bk_ j) hb) (below_step (bl1_ HB x) hb) hbox (ge_ hg (bl1_ HB x)) (nl_ hg (bk_ j)) (ng_ hg (bk_ j)) ?_; clear j HB hb hbox hg; intro j HB l D s G))
 refine sh3_ (blk_drew j.out) (blk_drew l.out) (below_drew1 HB.out) ?_
 clear j l HB
 intro j l HB
 refine start_ (n := 8) (S := fun w' => Cz4 w' Y (iv_ y) (iv_ z) (iv_ B) (iv_ u)) (ds := []) (bo_ 8 0) (by kernel_rfl) rfl rfl (cz4_ j) (fun hHeld => ?_); refine with_tabW impl_PlacesAt.tab1 impl_PlacesAt.bits1 (fun HT_ HW_ => ?_)
 generalize Z.drew = w7 at j l HB hHeld ⊢
 refine pur_ 1 (bo_ 8 2) (some 6) HT_ ?_
 refine pur_ 4 (bo_ 8 18) (some 9) HT_ ?_
 refine tak_ 0 (bo_ 8 19) (some 5) HT_ HW_ hHeld ?_
 refine tak_ 5 (bo_ 8 51) (some 10) HT_ HW_ hHeld ?_
 refine onc_ 2 (bo_ 8 55) (some 7) HT_ Tryz.func100 (impl_PlaceAt.calls y z B u E L _ U.out) ?_
 rintro e w8 ⟨rfl, hb⟩
 refine sh3_ (blk_below (bk_ j) hb) (blk_below (bk_ l) hb) (below_step (bl2_ HB x D) hb) ?_
 clear j l HB hb
 intro j l HB
 refine ⟨_, _, rfl, (cz4_ j), pt_, fun hHeld => ?_⟩
 refine pur_ 3 (bo_ 8 63) (some 8) HT_ ?_
 refine onc_ 6 (bo_ 8 127) (some 11) HT_ Tryz.func110 (impl_WidenArc.calls L 0 u M O _ X.out) ?_
 rintro e T ⟨rfl, hb⟩
 refine sh3_ (blk_below (bk_ j) hb) (blk_below (bk_ l) hb) (below_step (bl2_ HB x D) hb) ?_
 clear j l HB hb
 intro j l HB
 refine ⟨_, _, rfl, (cz4_ j), pt_, fun hHeld => ?_⟩
 refine one_ (i := 7) (N := none) (bo_ 8 255) rfl rfl (one_of HT_.out (by kernel_rfl)) (by decide) (fun K hK => ?_)
 have a7 : T.cell? ⟨m, 0, none⟩ = some (iv_ 0) := bc_ l 0 rfl
 have a0 := bf_ l 0
 have a5 := s.out
 have a3 := G.out
 have a8 : T.cell? ⟨m, 1, none⟩ = some (iv_ 0) := bc_ l 1 rfl
 have a2 := bf_ l 1
 have a6 := s.out
 have a4 := G.out
 refine skip_ (w1 := ?_) (by rfl) rfl ?_ ?_
 rotate_left
 ·go_simp
  rfl
 refine hK.out _ _ ⟨((cell_far (p := ⟨m, _, none⟩) s.out _).trans (((cell_far (p := ⟨m, _, none⟩) s.out _).trans (hHeld.1)))), ((cell_far (p := ⟨m, _, none⟩) s.out _).trans (((cell_far (p := ⟨m, _, none⟩) s.out _).trans (hHeld.2.1)))), ((cell_far (p := ⟨m, _, none⟩) s.out _).trans (((cell_far (p := ⟨m, _, none⟩) s.out _).trans (hHeld.2.2.1)))), ((cell_far (p := ⟨m, _, none⟩) s.out _).trans (((cell_far (p := ⟨m, _, none⟩) s.out _).trans (hHeld.2.2.2))))⟩ (fun hHeld => ?_)
 clear hK K
 refine done_ (done_of HT_.out (by kernel_rfl)) ?_
 try go_wp2
 refine bodyPost_ret (results_cell_row rfl _ _ m 74 #[iv_ M, iv_ O] (0, 0) _ rfl (bp_ l) Tryz.underlying74 rfl (by kernel_rfl)) rfl ?_
 exact ⟨er_, bl2_ HB x D⟩

/-! ### impl_NodesOf: function 38 -/
def impl_NodesOf.f (m : Int) (j : List S68) (l : List S70) (s u x y z : Int) (D : List S76) (B : Int) : Option (Int) := some (wrap64 ((j.length : Int) + (l.length : Int)))
theorem impl_NodesOf.calls (y : Int) (s : Option Addr) (J : Nat) (j : List S68) (u : Option Addr) (L : Nat) (l : List S70) (z B D E G : Int) (x : Option Addr) (M : Nat) (m : List S76) (I r : Int) (w : World) (X : Kd.C k68 w s j.length j) (O : j.length ≤ J) (Y : Kd.C k70 w u l.length l) (T : l.length ≤ L) (Z : Kd.C k76 w x m.length m) (U : m.length ≤ M) (h : impl_NodesOf.f y j l z B D E G m I = some r) :
  Calls Tryz.prog 38 #[.agg #[iv_ y, .slice s j.length J, .slice u l.length L, iv_ z, iv_ B, iv_ D, iv_ E, iv_ G, .slice x m.length M, iv_ I]] w fun e w' => e = .returned (iv_ r) ∧ Below w.heap.size w w' := by
 have b0 := Tryz.underlying34
 have a5 := Aside0.mk X
 have a2 := Aside0.mk O
 clear X O
 have a6 := Aside0.mk Y
 have a3 := Aside0.mk T
 clear Y T
 have a7 := Aside0.mk Z
 have a4 := Aside0.mk U
 clear Z U
 have HB := Aside0.mk (Below.refl w.heap.size w)
 have H := h
 clear h
 unfold impl_NodesOf.f at H
 obtain rfl := Option.some.inj H
 go_enter Tryz.func38, Tryz.ntmps38
 go_wp2_with (first | ((with_reducible refine gd_ 1 ?_); refine bx_ 1 34 #[iv_ y, .slice s j.length J, .slice u l.length L, iv_ z, iv_ B, iv_ D, iv_ E, iv_ G, .slice x m.length M, iv_ I] ?_; intro a8 hg w2 hbox hb; refine sh3_ (below_step (bl_ HB) hb) hbox (ge_ hg (bl_ HB)) ?_; clear HB hb hbox hg; intro HB a0 a1; have a9 := cf10_ a0))
 go_ret
 exact ⟨er_, bl1_ HB a1⟩

/-! ### impl_IsSite: function 99 -/
def impl_IsSite.f (l : Int) (j : List S68) (D : List S70) (m s u x y : Int) (E : List S76) (z B : Int) : Option (Bool) := (impl_NodesOf.f l j D m s u x y E z).bind fun G => ((impl_InRange.f B (j.length : Int) (wrap64 (G - 1))).bind fun I => (some I))
def impl_IsSite.T1 : Bool × List (List Nat × List Nat) := (true, [([], []), ([], []), ([1], [1]), ([2], [2]), ([], []), ([4], [4]), ([5], [5]), ([0, 3, 6, 5], [0, 3, 6]), ([7, 7, 0, 1, 2, 3, 4, 5, 6, 7], [7])])
def impl_IsSite.B1 : List Nat := [0, 0, 2, 6, 0, 16, 48, 127, 255]
theorem impl_IsSite.tab1 : rtab .any (opsOf Tryz.f99 1) = impl_IsSite.T1 := by kernel_rfl
theorem impl_IsSite.bits1 : waitsOk impl_IsSite.T1.2 impl_IsSite.B1 = true := by kernel_rfl
theorem impl_IsSite.calls (u : Int) (G : Option Addr) (L : Nat) (l : List S68) (I : Option Addr) (M : Nat) (m : List S70) (x y z B D : Int) (J : Option Addr) (O : Nat) (s : List S76) (E T : Int) (r : Bool) (w : World) (a0 : Kd.C k68 w G l.length l) (X : l.length ≤ L) (a2 : Kd.C k70 w I m.length m) (Y : m.length ≤ M) (a3 : Kd.C k76 w J s.length s) (Z : s.length ≤ O) (h : impl_IsSite.f u l m x y z B D s E T = some r) :
  Calls Tryz.prog 99 #[.agg #[iv_ u, .slice G l.length L, .slice I m.length M, iv_ x, iv_ y, iv_ z, iv_ B, iv_ D, .slice J s.length O, iv_ E], iv_ T] w fun e w' => e = .returned (.bool r) ∧ Below w.heap.size w w' := by
 have b6 := Tryz.underlying34
 have b0 := Aside0.mk a0
 have a7 := Aside0.mk X
 clear a0 X
 have b1 := Aside0.mk a2
 have a8 := Aside0.mk Y
 clear a2 Y
 have b2 := Aside0.mk a3
 have a9 := Aside0.mk Z
 clear a3 Z
 have HB := Aside0.mk (Below.refl w.heap.size w)
 have H := h
 clear h
 unfold impl_IsSite.f at H
 replace H := bs_ H
 obtain ⟨a4, A3, H⟩ := H
 replace H := bs_ H
 obtain ⟨b4, A4, H⟩ := H
 obtain rfl := Option.some.inj H
 go_enter Tryz.func99, Tryz.ntmps99
 try go_wp2_with (first | ((with_reducible refine gd_ 2 ?_); refine bx_ 2 34 #[iv_ u, .slice G l.length L, .slice I m.length M, iv_ x, iv_ y, iv_ z, iv_ B, iv_ D, .slice J s.length O, iv_ E] ?_; intro b3 hg w5 hbox hb; refine sh3_ (below_step (bl_ HB) hb) hbox (ge_ hg (bl_ HB)) ?_; clear HB hb hbox hg; intro HB j U))
 refine sh2_ (blk_drew j.out) (below_drew1 HB.out) ?_
 clear j HB
 intro j HB
 refine start_ (n := 9) (S := fun w' => Cz10 w' b3 (iv_ u) (.slice G l.length L) (.slice I m.length M) (iv_ x) (iv_ y) (iv_ z) (iv_ B) (iv_ D) (.slice J s.length O) (iv_ E)) (ds := []) (bo_ 9 0) (by kernel_rfl) rfl rfl (cz10_ j) (fun hHeld => ?_); refine with_tabW impl_IsSite.tab1 impl_IsSite.bits1 (fun HT_ HW_ => ?_)
 generalize w5.drew = w6 at j HB hHeld ⊢
 refine pur_ 0 (bo_ 9 1) (some 5) HT_ ?_
 refine pur_ 1 (bo_ 9 3) (some 6) HT_ ?_
 refine tak_ 2 (bo_ 9 7) (some 7) HT_ HW_ hHeld ?_
 refine pur_ 3 (bo_ 9 15) (some 8) HT_ ?_
 refine tak_ 4 (bo_ 9 31) (some 9) HT_ HW_ hHeld ?_
 refine onc_ 5 (bo_ 9 63) (some 10) HT_ Tryz.func38 (impl_NodesOf.calls u _ _ l _ _ m x y z B D _ _ s E a4 _ (ck_ b0 HB) a7.out (ck_ b1 HB) a8.out (ck_ b2 HB) a9.out A3.out) ?_
 rintro e w7 ⟨rfl, hb⟩
 refine sh2_ (blk_below (bk_ j) hb) (below_step (bl1_ HB U) hb) ?_
 clear j HB hb
 intro j HB
 refine ⟨_, _, rfl, (cz10_ j), pt_, fun hHeld => ?_⟩
 refine pur_ 6 (bo_ 9 127) (some 11) HT_ ?_
 refine onc_ 7 (bo_ 9 255) (some 12) HT_ Tryz.func51 (impl_InRange.calls T (l.length : Int) (wrap64 (a4 - 1)) b4 _ A4.out) ?_
 rintro e w' ⟨rfl, ⟨nd, rfl⟩⟩
 refine ⟨_, _, rfl, (cz10_ j), pt_, fun hHeld => ?_⟩
 refine pur_ 8 (bo_ 9 511) (some 4) HT_ ?_
 refine done_ (done_of HT_.out (by kernel_rfl)) ?_
 try go_wp2
 go_ret
 exact ⟨er_, bl1_ HB U⟩

/-! ### impl_NodeAt: function 86 -/
def impl_NodeAt.f (s : Int) (l : List S68) (m : List S70) (u x y z B : Int) (I : List S76) (D j E : Int) : Option (Int × Int) := (impl_isSatellite.f s l m u x y z B I D j).bind fun J => (if J = true then (if 0 ≤ j then (if j < (l.length : Int) then ((impl_PlacesAt.f ((rd_T68 l j).f0) ((rd_T68 l j).f1) ((rd_T68 l j).f2) ((rd_T68 l j).f3) E).bind fun G => (some (G.1, G.2))) else (none)) else (none)) else ((impl_IsSite.f s l m u x y z B I D j).bind fun L => (if L = true then (if 0 ≤ (wrap64 (j - (l.length : Int))) then (if (wrap64 (j - (l.length : Int))) < (m.length : Int) then ((impl_PlaceAt.f 0 ((rd_T70 m (wrap64 (j - (l.length : Int)))).f1) ((rd_T70 m (wrap64 (j - (l.length : Int)))).f2) 0 E).bind fun M => (some (M, 0))) else (none)) else (none)) else (some (0, 0)))))
theorem impl_NodeAt.calls (B : Int) (Y : Option Addr) (a4 : Nat) (l : List S68) (a8 : Option Addr) (a5 : Nat) (s : List S70) (D E G I J : Int) (Z : Option Addr) (a6 : Nat) (y : List S76) (L u O U X : Int) (w : World) (e0 : Kd.C k68 w Y l.length l) (d7 : l.length ≤ a4) (e1 : Kd.C k70 w a8 s.length s) (d8 : s.length ≤ a5) (e2 : Kd.C k76 w Z y.length y) (d9 : y.length ≤ a6) (h : impl_NodeAt.f B l s D E G I J y L u O = some (U, X)) :
  Calls Tryz.prog 86 #[.agg #[iv_ B, .slice Y l.length a4, .slice a8 s.length a5, iv_ D, iv_ E, iv_ G, iv_ I, iv_ J, .slice Z y.length a6, iv_ L], iv_ u, iv_ O] w fun e w' => e = .returned (.agg #[iv_ U, iv_ X]) ∧ Below w.heap.size w w' := by
 have j4 := Tryz.underlying34
 have j7 := Tryz.underlying74
 have j5 := Tryz.underlying68
 have j6 := Tryz.underlying70
 have a0 := Aside0.mk e0
 have a9 := Aside0.mk d7
 clear e0 d7
 have a3 := Aside0.mk e1
 have b0 := Aside0.mk d8
 clear e1 d8
 have b2 := Aside0.mk e2
 have b1 := Aside0.mk d9
 clear e2 d9
 have HB := Aside0.mk (Below.refl w.heap.size w)
 have H := h
 clear h
 unfold impl_NodeAt.f at H
 replace H := bs_ H
 obtain ⟨g6, A4, H⟩ := H
 by_cases c5 : g6 = true
 ·subst c5
  have M : (if 0 ≤ u then (if u < (l.length : Int) then ((impl_PlacesAt.f ((rd_T68 l u).f0) ((rd_T68 l u).f1) ((rd_T68 l u).f2) ((rd_T68 l u).f3) O).bind fun d4 => (some (d4.1, d4.2))) else (none)) else (none)) = some (U, X) := by rw [if_pos rfl] at H; exact H
  clear H
  have H := M
  clear M
  replace H := ifn_ H
  obtain ⟨c6, H⟩ := H
  have h0 := decide_eq_true c6
  clear c6
  replace H := ifn_ H
  obtain ⟨c7, H⟩ := H
  have h1 := decide_eq_true c7
  clear c7
  replace H := bs_ H
  obtain ⟨⟨f4, f5⟩, A8, H⟩ := H
  dsimp only at H
  simp only [Option.some.injEq, Prod.mk.injEq] at H
  obtain ⟨rfl, rfl⟩ := H
  go_enter Tryz.func86, Tryz.ntmps86
  go_wp2_with (first | ((with_reducible refine gd_ 3 ?_); refine bx_ 3 34 #[iv_ B, .slice Y l.length a4, .slice a8 s.length a5, iv_ D, iv_ E, iv_ G, iv_ I, iv_ J, .slice Z y.length a6, iv_ L] ?_; intro b9 hg w9 hbox hb; refine sh3_ (below_step (bl_ HB) hb) hbox (ge_ hg (bl_ HB)) ?_; clear HB hb hbox hg; intro HB j x) | ((with_reducible refine gd_ 6 ?_); refine bx_ 6 74 #[iv_ 0, iv_ 0] ?_; intro a7 hg j8 hbox hb; refine sh6_ (blk_below (bk_ j) hb) (below_step (bl1_ HB x) hb) hbox (ge_ hg (bl1_ HB x)) (nl_ hg (bk_ j)) (ng_ hg (bk_ j)) ?_; clear j HB hb hbox hg; intro j HB m z b3 b4; have i4 := b3.out; have i9 := b4.out; have h2 := cf10_ j) | ((with_reducible refine gate_callee (f := 85) rfl ?_); refine gl_ 11 Tryz.func85 (impl_isSatellite.calls B _ _ l _ _ s D E G I J _ _ y L u true _ (ck_ a0 HB) a9.out (ck_ a3 HB) b0.out (ck_ b2 HB) b1.out A4.out) ?_; rintro e j9 ⟨rfl, hb⟩; refine ⟨_, rfl, sh3_ (blk_below (bk_ j) hb) (blk_below (bk_ m) hb) (below_step (bl2_ HB x z) hb) ?_⟩; clear j m HB hb; intro j m HB; have h3 := cf10_ j; have c0 : 0 ≤ (u : Int) := od_; have d0 : u < (l.length : Int) := od_; obtain ⟨g7, g3, e3, e4, e5, e6⟩ := at_T68 a0.out u c0 d0; cases g3; replace e3 := hbc_ HB e3; replace e4 := hbc_ HB e4; replace e5 := hbc_ HB e5; replace e6 := hbc_ HB e6; replace c0 := eq_true c0; replace d0 := eq_true d0) | ((with_reducible refine gate_callee (f := 98) rfl ?_); refine gl_ 18 Tryz.func98 (impl_PlacesAt.calls ((rd_T68 l u).f0) ((rd_T68 l u).f1) ((rd_T68 l u).f2) ((rd_T68 l u).f3) O f4 f5 _ A8.out) ?_; rintro e k0 ⟨rfl, hb⟩; refine ⟨_, rfl, sh3_ (blk_below (bk_ j) hb) (blk_below (bk_ m) hb) (below_step (bl2_ HB x z) hb) ?_⟩; clear j m HB hb; intro j m HB; have h4 := cf2_ m))
  refine bodyPost_ret (results_cell_row rfl _ _ a7 74 #[iv_ f4, iv_ f5] (0, 0) _ rfl (bp_ m) Tryz.underlying74 rfl (by kernel_rfl)) rfl ?_
  exact ⟨er_, bl2_ HB x z⟩
 ·replace c5 := Bool.eq_false_iff.mpr c5
  subst c5
  have M : ((impl_IsSite.f B l s D E G I J y L u).bind fun d2 => (if d2 = true then (if 0 ≤ (wrap64 (u - (l.length : Int))) then (if (wrap64 (u - (l.length : Int))) < (s.length : Int) then ((impl_PlaceAt.f 0 ((rd_T70 s (wrap64 (u - (l.length : Int)))).f1) ((rd_T70 s (wrap64 (u - (l.length : Int)))).f2) 0 O).bind fun T => (some (T, 0))) else (none)) else (none)) else (some (0, 0)))) = some (U, X) := by rw [if_neg (show ¬ (false = true) by decide)] at H; exact H
  clear H
  have H := M
  clear M
  replace H := bs_ H
  obtain ⟨d2, b8, H⟩ := H
  by_cases b7 : d2 = true
  ·subst b7
   have M : (if 0 ≤ (wrap64 (u - (l.length : Int))) then (if (wrap64 (u - (l.length : Int))) < (s.length : Int) then ((impl_PlaceAt.f 0 ((rd_T70 s (wrap64 (u - (l.length : Int)))).f1) ((rd_T70 s (wrap64 (u - (l.length : Int)))).f2) 0 O).bind fun T => (some (T, 0))) else (none)) else (none)) = some (U, X) := by rw [if_pos rfl] at H; exact H
   clear H
   have H := M
   clear M
   obtain ⟨ji19, hji19⟩ : ∃ j_ : Int, (wrap64 (u - (l.length : Int))) = j_ := ⟨_, rfl⟩
   replace H : (if 0 ≤ (ji19) then (if (ji19) < (s.length : Int) then ((impl_PlaceAt.f 0 ((rd_T70 s (ji19)).f1) ((rd_T70 s (ji19)).f2) 0 O).bind fun T => (some (T, 0))) else (none)) else (none)) = some (U, X) := by first | (rw [hji19] at H; exact H) | (simp only [hji19] at H ⊢; exact H)
   (try rw [hji19] at A4)
   (try rw [hji19] at b8)
   have i3 : (IntKind.i64.wrap (u - (l.length : Int))) = ji19 := (i64_w _).trans hji19
   replace H := ifn_ H
   obtain ⟨d5, H⟩ := H
   have g8 := decide_eq_true d5
   clear d5
   replace H := ifn_ H
   obtain ⟨d6, H⟩ := H
   have g9 := decide_eq_true d6
   clear d6
   replace H := bs_ H
   obtain ⟨T, f6, H⟩ := H
   simp only [Option.some.injEq, Prod.mk.injEq] at H
   obtain ⟨rfl, rfl⟩ := H
   go_enter Tryz.func86, Tryz.ntmps86
   go_wp2_with (first | ((with_reducible refine gd_ 3 ?_); refine bx_ 3 34 #[iv_ B, .slice Y l.length a4, .slice a8 s.length a5, iv_ D, iv_ E, iv_ G, iv_ I, iv_ J, .slice Z y.length a6, iv_ L] ?_; intro b9 hg k1 hbox hb; refine sh3_ (below_step (bl_ HB) hb) hbox (ge_ hg (bl_ HB)) ?_; clear HB hb hbox hg; intro HB j x) | ((with_reducible refine gd_ 6 ?_); refine bx_ 6 74 #[iv_ 0, iv_ 0] ?_; intro a7 hg k2 hbox hb; refine sh6_ (blk_below (bk_ j) hb) (below_step (bl1_ HB x) hb) hbox (ge_ hg (bl1_ HB x)) (nl_ hg (bk_ j)) (ng_ hg (bk_ j)) ?_; clear j HB hb hbox hg; intro j HB m z b3 b4; have i5 := b3.out; have j0 := b4.out; have h5 := cf10_ j) | ((with_reducible refine gate_callee (f := 85) rfl ?_); refine gl_ 11 Tryz.func85 (impl_isSatellite.calls B _ _ l _ _ s D E G I J _ _ y L u false _ (ck_ a0 HB) a9.out (ck_ a3 HB) b0.out (ck_ b2 HB) b1.out A4.out) ?_; rintro e k3 ⟨rfl, hb⟩; refine ⟨_, rfl, sh3_ (blk_below (bk_ j) hb) (blk_below (bk_ m) hb) (below_step (bl2_ HB x z) hb) ?_⟩; clear j m HB hb; intro j m HB; have h6 := cf10_ j) | ((with_reducible refine gate_callee (f := 99) rfl ?_); refine gl_ 22 Tryz.func99 (impl_IsSite.calls B _ _ l _ _ s D E G I J _ _ y L u true _ (ck_ a0 HB) a9.out (ck_ a3 HB) b0.out (ck_ b2 HB) b1.out b8.out) ?_; rintro e k4 ⟨rfl, hb⟩; refine ⟨_, rfl, sh3_ (blk_below (bk_ j) hb) (blk_below (bk_ m) hb) (below_step (bl2_ HB x z) hb) ?_⟩; clear j m HB hb; intro j m HB; have h7 := cf10_ j; have c1 : 0 ≤ ((ji19) : Int) := od_; have d1 : (ji19) < (s.length : Int) := od_; obtain ⟨g2, g4, e7, e8, e9⟩ := at_T70 a3.out (ji19) c1 d1; cases g4; replace e7 := hbc_ HB e7; replace e8 := hbc_ HB e8; replace e9 := hbc_ HB e9; replace c1 := eq_true c1; replace d1 := eq_true d1) | ((with_reducible refine gd_ 7 ?_); refine bx_ 7 70 #[iv_ 0, iv_ 0, iv_ 0] ?_; intro g5 hg k5 hbox hb; refine sh9_ (blk_below (bk_ j) hb) (blk_below (bk_ m) hb) (below_step (bl2_ HB x z) hb) hbox (ge_ hg (bl2_ HB x z)) (nl_ hg (bk_ j)) (ng_ hg (bk_ j)) (nl_ hg (bk_ m)) (ng_ hg (bk_ m)) ?_; clear j m HB hb hbox hg; intro j m HB b6 d3 f8 g0 f9 g1; have i6 := g0.out; have j1 := f8.out; have i7 := g1.out; have j2 := f9.out; have h8 := cf3_ b6) | ((with_reducible refine gate_callee (f := 100) rfl ?_); refine goesL_ (some 38) rfl rfl Tryz.func100 (by kernel_rfl) rfl #[.agg #[iv_ 0, iv_ ((rd_T70 s (ji19)).f1), iv_ ((rd_T70 s (ji19)).f2), iv_ 0], iv_ O] rfl (by (try simp only [List.map_toArray, List.map_cons, List.map_nil]); first | done | (simp only [hji19]; rfl) | rfl | (simp only [List.length_drop, List.length_take]; rfl)) ?_; (with_reducible refine (impl_PlaceAt.calls 0 ((rd_T70 s (ji19)).f1) ((rd_T70 s (ji19)).f2) 0 O T _ f6.out).mono ?_); rintro e k6 ⟨rfl, hb⟩; refine ⟨_, rfl, sh4_ (blk_below (g := b9) (o := .cells #[iv_ B, .slice Y l.length a4, .slice (some g2) s.length a5, iv_ D, iv_ E, iv_ G, iv_ I, iv_ J, .slice Z y.length a6, iv_ L] 34 (0, 0)) (bp_ j) hb) (blk_below (g := a7) (o := .cells #[iv_ 0, iv_ 0] 74 (0, 0)) (bp_ m) hb) (blk_below (g := g5) (o := .cells #[iv_ ((rd_T70 s (ji19)).f0), iv_ ((rd_T70 s (ji19)).f1), iv_ ((rd_T70 s (ji19)).f2)] 70 (0, 0)) (bp_ b6) hb) (below_step (bl3_ HB x z d3) hb) ?_⟩; clear j m b6 HB hb; intro j m b6 HB; have h9 := cf2_ m))
   refine bodyPost_ret (results_cell_row rfl _ _ a7 74 #[iv_ T, iv_ 0] (0, 0) _ rfl (bp_ m) Tryz.underlying74 rfl (by kernel_rfl)) rfl ?_
   exact ⟨by first | rfl | (simp [errW_none, errW_some] <;> rfl) | (simp only [← hji19]; first | rfl | (simp [errW_none, errW_some] <;> rfl)) | (simp [*, errW_none, errW_some] <;> rfl), bl3_ HB x z d3⟩
  ·replace b7 := Bool.eq_false_iff.mpr b7
   subst b7
   have M : (some (0, 0)) = some (U, X) := by rw [if_neg (show ¬ (false = true) by decide)] at H; exact H
   clear H
   have H := M
   clear M
   simp only [Option.some.injEq, Prod.mk.injEq] at H
   obtain ⟨rfl, rfl⟩ := H
   go_enter Tryz.func86, Tryz.ntmps86
   go_wp2_with (first | ((with_reducible refine gd_ 3 ?_); refine bx_ 3 34 #[iv_ B, .slice Y l.length a4, .slice a8 s.length a5, iv_ D, iv_ E, iv_ G, iv_ I, iv_ J, .slice Z y.length a6, iv_ L] ?_; intro b9 hg k7 hbox hb; refine sh3_ (below_step (bl_ HB) hb) hbox (ge_ hg (bl_ HB)) ?_; clear HB hb hbox hg; intro HB j x) | ((with_reducible refine gd_ 6 ?_); refine bx_ 6 74 #[iv_ 0, iv_ 0] ?_; intro a7 hg k8 hbox hb; refine sh6_ (blk_below (bk_ j) hb) (below_step (bl1_ HB x) hb) hbox (ge_ hg (bl1_ HB x)) (nl_ hg (bk_ j)) (ng_ hg (bk_ j)) ?_; clear j HB hb hbox hg; intro j HB m z b3 b4; have i8 := b3.out; have j3 := b4.out; have i0 := cf10_ j) | ((with_reducible refine gate_callee (f := 85) rfl ?_); refine gl_ 11 Tryz.func85 (impl_isSatellite.calls B _ _ l _ _ s D E G I J _ _ y L u false _ (ck_ a0 HB) a9.out (ck_ a3 HB) b0.out (ck_ b2 HB) b1.out A4.out) ?_; rintro e k9 ⟨rfl, hb⟩; refine ⟨_, rfl, sh3_ (blk_below (bk_ j) hb) (blk_below (bk_ m) hb) (below_step (bl2_ HB x z) hb) ?_⟩; clear j m HB hb; intro j m HB; have i1 := cf10_ j) | ((with_reducible refine gate_callee (f := 99) rfl ?_); refine gl_ 22 Tryz.func99 (impl_IsSite.calls B _ _ l _ _ s D E G I J _ _ y L u false _ (ck_ a0 HB) a9.out (ck_ a3 HB) b0.out (ck_ b2 HB) b1.out b8.out) ?_; rintro e l0 ⟨rfl, hb⟩; refine ⟨_, rfl, sh3_ (blk_below (bk_ j) hb) (blk_below (bk_ m) hb) (below_step (bl2_ HB x z) hb) ?_⟩; clear j m HB hb; intro j m HB; have i2 := cf2_ m))
   refine bodyPost_ret (results_cell_row rfl _ _ a7 74 #[iv_ 0, iv_ 0] (0, 0) _ rfl (bp_ m) Tryz.underlying74 rfl (by kernel_rfl)) rfl ?_
   exact ⟨er_, bl2_ HB x z⟩

/-! ### impl_PlaneOf: function 107 -/
def impl_PlaneOf.f (s : Int) (l : List S68) (m : List S70) (u x y z B : Int) (E : List S76) (D j : Int) : Option (Int) := (impl_isSatellite.f s l m u x y z B E D j).bind fun G => (if G = true then (if 0 ≤ j then (if j < (l.length : Int) then (some ((rd_T68 l j).f0)) else (none)) else (none)) else ((impl_IsSite.f s l m u x y z B E D j).bind fun I => (if I = true then (if 0 ≤ (wrap64 (j - (l.length : Int))) then (if (wrap64 (j - (l.length : Int))) < (m.length : Int) then (some ((rd_T70 m (wrap64 (j - (l.length : Int)))).f0)) else (none)) else (none)) else (some (-1)))))
theorem impl_PlaneOf.calls (x : Int) (M : Option Addr) (a2 : Nat) (l : List S68) (O : Option Addr) (a3 : Nat) (m : List S70) (y z B D E : Int) (T : Option Addr) (a4 : Nat) (u : List S76) (G s r : Int) (w : World) (b9 : Kd.C k68 w M l.length l) (b6 : l.length ≤ a2) (c0 : Kd.C k70 w O m.length m) (b7 : m.length ≤ a3) (c1 : Kd.C k76 w T u.length u) (b8 : u.length ≤ a4) (h : impl_PlaneOf.f x l m y z B D E u G s = some r) :
  Calls Tryz.prog 107 #[.agg #[iv_ x, .slice M l.length a2, .slice O m.length a3, iv_ y, iv_ z, iv_ B, iv_ D, iv_ E, .slice T u.length a4, iv_ G], iv_ s] w fun e w' => e = .returned (iv_ r) ∧ Below w.heap.size w w' := by
 have f5 := Tryz.underlying34
 have J := Aside0.mk b9
 have X := Aside0.mk b6
 clear b9 b6
 have L := Aside0.mk c0
 have Y := Aside0.mk b7
 clear c0 b7
 have a0 := Aside0.mk c1
 have Z := Aside0.mk b8
 clear c1 b8
 have HB := Aside0.mk (Below.refl w.heap.size w)
 have H := h
 clear h
 unfold impl_PlaneOf.f at H
 replace H := bs_ H
 obtain ⟨d9, A3, H⟩ := H
 by_cases c4 : d9 = true
 ·subst c4
  rw [if_pos rfl] at H
  replace H := ifn_ H
  obtain ⟨c5, H⟩ := H
  have e4 := decide_eq_true c5
  clear c5
  replace H := ifn_ H
  obtain ⟨c6, H⟩ := H
  have e5 := decide_eq_true c6
  clear c6
  obtain rfl := Option.some.inj H
  go_enter Tryz.func107, Tryz.ntmps107
  go_wp2_with (first | ((with_reducible refine gd_ 2 ?_); refine bx_ 2 34 #[iv_ x, .slice M l.length a2, .slice O m.length a3, iv_ y, iv_ z, iv_ B, iv_ D, iv_ E, .slice T u.length a4, iv_ G] ?_; intro b5 hg w7 hbox hb; refine sh3_ (below_step (bl_ HB) hb) hbox (ge_ hg (bl_ HB)) ?_; clear HB hb hbox hg; intro HB j I; have f3 := cf10_ j) | ((with_reducible refine gate_callee (f := 85) rfl ?_); refine gl_ 8 Tryz.func85 (impl_isSatellite.calls x _ _ l _ _ m y z B D E _ _ u G s true _ (ck_ J HB) X.out (ck_ L HB) Y.out (ck_ a0 HB) Z.out A3.out) ?_; rintro e w9 ⟨rfl, hb⟩; refine ⟨_, rfl, sh2_ (blk_below (bk_ j) hb) (below_step (bl1_ HB I) hb) ?_⟩; clear j HB hb; intro j HB; have e6 := cf10_ j; have a8 : 0 ≤ (s : Int) := od_; have b0 : s < (l.length : Int) := od_; obtain ⟨e0, d7, d0, d1, d2, d3⟩ := at_T68 J.out s a8 b0; cases d7; replace d0 := hbc_ HB d0; replace d1 := hbc_ HB d1; replace d2 := hbc_ HB d2; replace d3 := hbc_ HB d3; replace a8 := eq_true a8; replace b0 := eq_true b0))
  go_ret
  exact ⟨er_, bl1_ HB I⟩
 ·replace c4 := Bool.eq_false_iff.mpr c4
  subst c4
  have U : ((impl_IsSite.f x l m y z B D E u G s).bind fun b2 => (if b2 = true then (if 0 ≤ (wrap64 (s - (l.length : Int))) then (if (wrap64 (s - (l.length : Int))) < (m.length : Int) then (some ((rd_T70 m (wrap64 (s - (l.length : Int)))).f0)) else (none)) else (none)) else (some (-1)))) = some r := by rw [if_neg (show ¬ (false = true) by decide)] at H; exact H
  clear H
  have H := U
  clear U
  replace H := bs_ H
  obtain ⟨b2, a7, H⟩ := H
  by_cases a6 : b2 = true
  ·subst a6
   rw [if_pos rfl] at H
   obtain ⟨ji13, hji13⟩ : ∃ j_ : Int, (wrap64 (s - (l.length : Int))) = j_ := ⟨_, rfl⟩
   replace H : (if 0 ≤ (ji13) then (if (ji13) < (m.length : Int) then (some ((rd_T70 m (ji13)).f0)) else (none)) else (none)) = some r := by first | (rw [hji13] at H; exact H) | (simp only [hji13] at H ⊢; exact H)
   (try rw [hji13] at A3)
   (try rw [hji13] at a7)
   have f4 : (IntKind.i64.wrap (s - (l.length : Int))) = ji13 := (i64_w _).trans hji13
   replace H := ifn_ H
   obtain ⟨b3, H⟩ := H
   have e2 := decide_eq_true b3
   clear b3
   replace H := ifn_ H
   obtain ⟨b4, H⟩ := H
   have e3 := decide_eq_true b4
   clear b4
   obtain rfl := Option.some.inj H
   go_enter Tryz.func107, Tryz.ntmps107
   go_wp2_with (first | ((with_reducible refine gd_ 2 ?_); refine bx_ 2 34 #[iv_ x, .slice M l.length a2, .slice O m.length a3, iv_ y, iv_ z, iv_ B, iv_ D, iv_ E, .slice T u.length a4, iv_ G] ?_; intro b5 hg f6 hbox hb; refine sh3_ (below_step (bl_ HB) hb) hbox (ge_ hg (bl_ HB)) ?_; clear HB hb hbox hg; intro HB j I; have e7 := cf10_ j) | ((with_reducible refine gate_callee (f := 85) rfl ?_); refine gl_ 8 Tryz.func85 (impl_isSatellite.calls x _ _ l _ _ m y z B D E _ _ u G s false _ (ck_ J HB) X.out (ck_ L HB) Y.out (ck_ a0 HB) Z.out A3.out) ?_; rintro e f7 ⟨rfl, hb⟩; refine ⟨_, rfl, sh2_ (blk_below (bk_ j) hb) (below_step (bl1_ HB I) hb) ?_⟩; clear j HB hb; intro j HB; have e8 := cf10_ j) | ((with_reducible refine gate_callee (f := 99) rfl ?_); refine gl_ 18 Tryz.func99 (impl_IsSite.calls x _ _ l _ _ m y z B D E _ _ u G s true _ (ck_ J HB) X.out (ck_ L HB) Y.out (ck_ a0 HB) Z.out a7.out) ?_; rintro e f8 ⟨rfl, hb⟩; refine ⟨_, rfl, sh2_ (blk_below (bk_ j) hb) (below_step (bl1_ HB I) hb) ?_⟩; clear j HB hb; intro j HB; have e9 := cf10_ j; have a9 : 0 ≤ ((ji13) : Int) := od_; have b1 : (ji13) < (m.length : Int) := od_; obtain ⟨e1, d8, d4, d5, d6⟩ := at_T70 L.out (ji13) a9 b1; cases d8; replace d4 := hbc_ HB d4; replace d5 := hbc_ HB d5; replace d6 := hbc_ HB d6; replace a9 := eq_true a9; replace b1 := eq_true b1))
   go_ret
   exact ⟨by first | rfl | (simp [errW_none, errW_some] <;> rfl) | (simp only [← hji13]; first | rfl | (simp [errW_none, errW_some] <;> rfl)) | (simp [*, errW_none, errW_some] <;> rfl), bl1_ HB I⟩
  ·replace a6 := Bool.eq_false_iff.mpr a6
   subst a6
   have U : (some (-1)) = some r := by rw [if_neg (show ¬ (false = true) by decide)] at H; exact H
   clear H
   have H := U
   clear U
   obtain rfl := Option.some.inj H
   go_enter Tryz.func107, Tryz.ntmps107
   go_wp2_with (first | ((with_reducible refine gd_ 2 ?_); refine bx_ 2 34 #[iv_ x, .slice M l.length a2, .slice O m.length a3, iv_ y, iv_ z, iv_ B, iv_ D, iv_ E, .slice T u.length a4, iv_ G] ?_; intro b5 hg f9 hbox hb; refine sh3_ (below_step (bl_ HB) hb) hbox (ge_ hg (bl_ HB)) ?_; clear HB hb hbox hg; intro HB j I; have f1 := cf10_ j) | ((with_reducible refine gate_callee (f := 85) rfl ?_); refine gl_ 8 Tryz.func85 (impl_isSatellite.calls x _ _ l _ _ m y z B D E _ _ u G s false _ (ck_ J HB) X.out (ck_ L HB) Y.out (ck_ a0 HB) Z.out A3.out) ?_; rintro e g0 ⟨rfl, hb⟩; refine ⟨_, rfl, sh2_ (blk_below (bk_ j) hb) (below_step (bl1_ HB I) hb) ?_⟩; clear j HB hb; intro j HB; have f2 := cf10_ j) | ((with_reducible refine gate_callee (f := 99) rfl ?_); refine gl_ 18 Tryz.func99 (impl_IsSite.calls x _ _ l _ _ m y z B D E _ _ u G s false _ (ck_ J HB) X.out (ck_ L HB) Y.out (ck_ a0 HB) Z.out a7.out) ?_; rintro e g1 ⟨rfl, hb⟩; refine ⟨_, rfl, sh2_ (blk_below (bk_ j) hb) (below_step (bl1_ HB I) hb) ?_⟩; clear j HB hb; intro j HB))
   go_ret
   exact ⟨er_, bl1_ HB I⟩

/-! ### impl_areNeighbors: function 108 -/
def impl_areNeighbors.f (m : Int) (J : List S68) (L : List S70) (z B D E G : Int) (M : List S76) (I j l : Int) : Option (Bool) := if j > l then (if l ≥ 0 then (if (wrap64 (j - l)) = 1 then (some true) else (if l = 0 then (if j = (wrap64 (m - 1)) then ((impl_InRange.f j 1 4).bind fun s => (some s)) else (some false)) else (some false))) else (if l = 0 then (if j = (wrap64 (m - 1)) then ((impl_InRange.f j 1 4).bind fun u => (some u)) else (some false)) else (some false))) else (if j ≥ 0 then (if (wrap64 (l - j)) = 1 then (some true) else (if j = 0 then (if l = (wrap64 (m - 1)) then ((impl_InRange.f l 1 4).bind fun x => (some x)) else (some false)) else (some false))) else (if j = 0 then (if l = (wrap64 (m - 1)) then ((impl_InRange.f l 1 4).bind fun y => (some y)) else (some false)) else (some false)))
theorem impl_areNeighbors.calls (m : Int) (y : Option Addr) (T : Nat) (s : List S68) (z : Option Addr) (U : Nat) (u : List S70) (D E G I J : Int) (B : Option Addr) (X : Nat) (x : List S76) (L M O : Int) (r : Bool) (w : World) (b2 : Kd.C k68 w y s.length s) (a9 : s.length ≤ T) (b3 : Kd.C k70 w z u.length u) (b0 : u.length ≤ U) (b4 : Kd.C k76 w B x.length x) (b1 : x.length ≤ X) (h : impl_areNeighbors.f m s u D E G I J x L M O = some r) :
  Calls Tryz.prog 108 #[.agg #[iv_ m, .slice y s.length T, .slice z u.length U, iv_ D, iv_ E, iv_ G, iv_ I, iv_ J, .slice B x.length X, iv_ L], iv_ M, iv_ O] w fun e w' => e = .returned (.bool r) ∧ Below w.heap.size w w' := by
 have g8 := Tryz.underlying34
 have f7 := Aside0.mk b2
 have f4 := Aside0.mk a9
 clear b2 a9
 have f8 := Aside0.mk b3
 have f5 := Aside0.mk b0
 clear b3 b0
 have f9 := Aside0.mk b4
 have f6 := Aside0.mk b1
 clear b4 b1
 have HB := Aside0.mk (Below.refl w.heap.size w)
 have H := h
 clear h
 unfold impl_areNeighbors.f at H
 by_cases c4 : M > O
 ·rw [if_pos c4] at H
  have e2 : decide (O < M) = true := decide_eq_true c4
  clear c4
  by_cases c5 : O ≥ 0
  ·rw [if_pos c5] at H
   have e3 : decide (0 ≤ O) = true := decide_eq_true c5
   clear c5
   by_cases c6 : (wrap64 (M - O)) = 1
   ·rw [if_pos c6] at H
    obtain ⟨e4, e5⟩ := bt_ c6
    clear c6
    obtain rfl := Option.some.inj H
    go_enter Tryz.func108, Tryz.ntmps108
    go_wp2_with (first | ((with_reducible refine gd_ 3 ?_); refine bx_ 3 34 #[iv_ m, .slice y s.length T, .slice z u.length U, iv_ D, iv_ E, iv_ G, iv_ I, iv_ J, .slice B x.length X, iv_ L] ?_; intro Y hg w7 hbox hb; refine sh3_ (below_step (bl_ HB) hb) hbox (ge_ hg (bl_ HB)) ?_; clear HB hb hbox hg; intro HB l j))
    go_ret
    exact ⟨er_, bl1_ HB j⟩
   ·rw [if_neg c6] at H
    obtain ⟨e4, e5⟩ := bn_ c6
    by_cases c8 : O = 0
    ·rw [if_pos c8] at H
     obtain ⟨e6, e7⟩ := bt_ c8
     clear c8
     by_cases c9 : M = (wrap64 (m - 1))
     ·rw [if_pos c9] at H
      obtain ⟨e8, e9⟩ := bt_ c9
      clear c9
      replace H := bs_ H
      obtain ⟨f0, b5, H⟩ := H
      obtain rfl := Option.some.inj H
      go_enter Tryz.func108, Tryz.ntmps108
      go_wp2_with (first | ((with_reducible refine gd_ 3 ?_); refine bx_ 3 34 #[iv_ m, .slice y s.length T, .slice z u.length U, iv_ D, iv_ E, iv_ G, iv_ I, iv_ J, .slice B x.length X, iv_ L] ?_; intro Y hg g9 hbox hb; refine sh3_ (below_step (bl_ HB) hb) hbox (ge_ hg (bl_ HB)) ?_; clear HB hb hbox hg; intro HB l j; have g0 := cf10_ l) | (go_at_call 51; (with_reducible refine (impl_InRange.calls M 1 4 f0 _ b5.out).mono ?_); rintro e w' ⟨rfl, ⟨nd, rfl⟩⟩))
      go_ret
      exact ⟨er_, bl1_ HB j⟩
     ·rw [if_neg c9] at H
      obtain ⟨e8, e9⟩ := bn_ c9
      obtain rfl := Option.some.inj H
      go_enter Tryz.func108, Tryz.ntmps108
      go_wp2_with (first | ((with_reducible refine gd_ 3 ?_); refine bx_ 3 34 #[iv_ m, .slice y s.length T, .slice z u.length U, iv_ D, iv_ E, iv_ G, iv_ I, iv_ J, .slice B x.length X, iv_ L] ?_; intro Y hg h0 hbox hb; refine sh3_ (below_step (bl_ HB) hb) hbox (ge_ hg (bl_ HB)) ?_; clear HB hb hbox hg; intro HB l j; have g1 := cf10_ l))
      go_ret
      exact ⟨er_, bl1_ HB j⟩
    ·rw [if_neg c8] at H
     obtain ⟨e6, e7⟩ := bn_ c8
     obtain rfl := Option.some.inj H
     go_enter Tryz.func108, Tryz.ntmps108
     go_wp2_with (first | ((with_reducible refine gd_ 3 ?_); refine bx_ 3 34 #[iv_ m, .slice y s.length T, .slice z u.length U, iv_ D, iv_ E, iv_ G, iv_ I, iv_ J, .slice B x.length X, iv_ L] ?_; intro Y hg h1 hbox hb; refine sh3_ (below_step (bl_ HB) hb) hbox (ge_ hg (bl_ HB)) ?_; clear HB hb hbox hg; intro HB l j))
     go_ret
     exact ⟨er_, bl1_ HB j⟩
  ·rw [if_neg c5] at H
   have e3 : decide (0 ≤ O) = false := decide_eq_false c5
   clear c5
   by_cases a0 : O = 0
   ·rw [if_pos a0] at H
    obtain ⟨b9, c0⟩ := bt_ a0
    clear a0
    by_cases a3 : M = (wrap64 (m - 1))
    ·rw [if_pos a3] at H
     obtain ⟨c1, d0⟩ := bt_ a3
     clear a3
     replace H := bs_ H
     obtain ⟨f1, b6, H⟩ := H
     obtain rfl := Option.some.inj H
     go_enter Tryz.func108, Tryz.ntmps108
     go_wp2_with (first | ((with_reducible refine gd_ 3 ?_); refine bx_ 3 34 #[iv_ m, .slice y s.length T, .slice z u.length U, iv_ D, iv_ E, iv_ G, iv_ I, iv_ J, .slice B x.length X, iv_ L] ?_; intro Y hg h2 hbox hb; refine sh3_ (below_step (bl_ HB) hb) hbox (ge_ hg (bl_ HB)) ?_; clear HB hb hbox hg; intro HB l j; have g2 := cf10_ l) | (go_at_call 51; (with_reducible refine (impl_InRange.calls M 1 4 f1 _ b6.out).mono ?_); rintro e w' ⟨rfl, ⟨nd, rfl⟩⟩))
     go_ret
     exact ⟨er_, bl1_ HB j⟩
    ·rw [if_neg a3] at H
     obtain ⟨c1, d0⟩ := bn_ a3
     obtain rfl := Option.some.inj H
     go_enter Tryz.func108, Tryz.ntmps108
     go_wp2_with (first | ((with_reducible refine gd_ 3 ?_); refine bx_ 3 34 #[iv_ m, .slice y s.length T, .slice z u.length U, iv_ D, iv_ E, iv_ G, iv_ I, iv_ J, .slice B x.length X, iv_ L] ?_; intro Y hg h3 hbox hb; refine sh3_ (below_step (bl_ HB) hb) hbox (ge_ hg (bl_ HB)) ?_; clear HB hb hbox hg; intro HB l j; have g3 := cf10_ l))
     go_ret
     exact ⟨er_, bl1_ HB j⟩
   ·rw [if_neg a0] at H
    obtain ⟨b9, c0⟩ := bn_ a0
    obtain rfl := Option.some.inj H
    go_enter Tryz.func108, Tryz.ntmps108
    go_wp2_with (first | ((with_reducible refine gd_ 3 ?_); refine bx_ 3 34 #[iv_ m, .slice y s.length T, .slice z u.length U, iv_ D, iv_ E, iv_ G, iv_ I, iv_ J, .slice B x.length X, iv_ L] ?_; intro Y hg h4 hbox hb; refine sh3_ (below_step (bl_ HB) hb) hbox (ge_ hg (bl_ HB)) ?_; clear HB hb hbox hg; intro HB l j))
    go_ret
    exact ⟨er_, bl1_ HB j⟩
 ·rw [if_neg c4] at H
  have e2 : decide (O < M) = false := decide_eq_false c4
  clear c4
  by_cases Z : M ≥ 0
  ·rw [if_pos Z] at H
   have d1 : decide (0 ≤ M) = true := decide_eq_true Z
   clear Z
   by_cases a4 : (wrap64 (O - M)) = 1
   ·rw [if_pos a4] at H
    obtain ⟨d2, d3⟩ := bt_ a4
    clear a4
    obtain rfl := Option.some.inj H
    go_enter Tryz.func108, Tryz.ntmps108
    go_wp2_with (first | ((with_reducible refine gd_ 3 ?_); refine bx_ 3 34 #[iv_ m, .slice y s.length T, .slice z u.length U, iv_ D, iv_ E, iv_ G, iv_ I, iv_ J, .slice B x.length X, iv_ L] ?_; intro Y hg h5 hbox hb; refine sh3_ (below_step (bl_ HB) hb) hbox (ge_ hg (bl_ HB)) ?_; clear HB hb hbox hg; intro HB l j))
    go_ret
    exact ⟨er_, bl1_ HB j⟩
   ·rw [if_neg a4] at H
    obtain ⟨d2, d3⟩ := bn_ a4
    by_cases a5 : M = 0
    ·rw [if_pos a5] at H
     obtain ⟨d4, d5⟩ := bt_ a5
     clear a5
     by_cases a6 : O = (wrap64 (m - 1))
     ·rw [if_pos a6] at H
      obtain ⟨d6, d7⟩ := bt_ a6
      clear a6
      replace H := bs_ H
      obtain ⟨f2, b7, H⟩ := H
      obtain rfl := Option.some.inj H
      go_enter Tryz.func108, Tryz.ntmps108
      go_wp2_with (first | ((with_reducible refine gd_ 3 ?_); refine bx_ 3 34 #[iv_ m, .slice y s.length T, .slice z u.length U, iv_ D, iv_ E, iv_ G, iv_ I, iv_ J, .slice B x.length X, iv_ L] ?_; intro Y hg h6 hbox hb; refine sh3_ (below_step (bl_ HB) hb) hbox (ge_ hg (bl_ HB)) ?_; clear HB hb hbox hg; intro HB l j; have g4 := cf10_ l) | (go_at_call 51; (with_reducible refine (impl_InRange.calls O 1 4 f2 _ b7.out).mono ?_); rintro e w' ⟨rfl, ⟨nd, rfl⟩⟩))
      go_ret
      exact ⟨er_, bl1_ HB j⟩
     ·rw [if_neg a6] at H
      obtain ⟨d6, d7⟩ := bn_ a6
      obtain rfl := Option.some.inj H
      go_enter Tryz.func108, Tryz.ntmps108
      go_wp2_with (first | ((with_reducible refine gd_ 3 ?_); refine bx_ 3 34 #[iv_ m, .slice y s.length T, .slice z u.length U, iv_ D, iv_ E, iv_ G, iv_ I, iv_ J, .slice B x.length X, iv_ L] ?_; intro Y hg h7 hbox hb; refine sh3_ (below_step (bl_ HB) hb) hbox (ge_ hg (bl_ HB)) ?_; clear HB hb hbox hg; intro HB l j; have g5 := cf10_ l))
      go_ret
      exact ⟨er_, bl1_ HB j⟩
    ·rw [if_neg a5] at H
     obtain ⟨d4, d5⟩ := bn_ a5
     obtain rfl := Option.some.inj H
     go_enter Tryz.func108, Tryz.ntmps108
     go_wp2_with (first | ((with_reducible refine gd_ 3 ?_); refine bx_ 3 34 #[iv_ m, .slice y s.length T, .slice z u.length U, iv_ D, iv_ E, iv_ G, iv_ I, iv_ J, .slice B x.length X, iv_ L] ?_; intro Y hg h8 hbox hb; refine sh3_ (below_step (bl_ HB) hb) hbox (ge_ hg (bl_ HB)) ?_; clear HB hb hbox hg; intro HB l j))
     go_ret
     exact ⟨er_, bl1_ HB j⟩
  ·rw [if_neg Z] at H
   have d1 : decide (0 ≤ M) = false := decide_eq_false Z
   clear Z
   by_cases a7 : M = 0
   ·rw [if_pos a7] at H
    obtain ⟨d8, d9⟩ := bt_ a7
    clear a7
    by_cases a8 : O = (wrap64 (m - 1))
    ·rw [if_pos a8] at H
     obtain ⟨e0, e1⟩ := bt_ a8
     clear a8
     replace H := bs_ H
     obtain ⟨f3, b8, H⟩ := H
     obtain rfl := Option.some.inj H
     go_enter Tryz.func108, Tryz.ntmps108
     go_wp2_with (first | ((with_reducible refine gd_ 3 ?_); refine bx_ 3 34 #[iv_ m, .slice y s.length T, .slice z u.length U, iv_ D, iv_ E, iv_ G, iv_ I, iv_ J, .slice B x.length X, iv_ L] ?_; intro Y hg h9 hbox hb; refine sh3_ (below_step (bl_ HB) hb) hbox (ge_ hg (bl_ HB)) ?_; clear HB hb hbox hg; intro HB l j; have g6 := cf10_ l) | (go_at_call 51; (with_reducible refine (impl_InRange.calls O 1 4 f3 _ b8.out).mono ?_); rintro e w' ⟨rfl, ⟨nd, rfl⟩⟩))
     go_ret
     exact ⟨er_, bl1_ HB j⟩
    ·rw [if_neg a8] at H
     obtain ⟨e0, e1⟩ := bn_ a8
     obtain rfl := Option.some.inj H
     go_enter Tryz.func108, Tryz.ntmps108
     go_wp2_with (first | ((with_reducible refine gd_ 3 ?_); refine bx_ 3 34 #[iv_ m, .slice y s.length T, .slice z u.length U, iv_ D, iv_ E, iv_ G, iv_ I, iv_ J, .slice B x.length X, iv_ L] ?_; intro Y hg i0 hbox hb; refine sh3_ (below_step (bl_ HB) hb) hbox (ge_ hg (bl_ HB)) ?_; clear HB hb hbox hg; intro HB l j; have g7 := cf10_ l))
     go_ret
     exact ⟨er_, bl1_ HB j⟩
   ·rw [if_neg a7] at H
    obtain ⟨d8, d9⟩ := bn_ a7
    obtain rfl := Option.some.inj H
    go_enter Tryz.func108, Tryz.ntmps108
    go_wp2_with (first | ((with_reducible refine gd_ 3 ?_); refine bx_ 3 34 #[iv_ m, .slice y s.length T, .slice z u.length U, iv_ D, iv_ E, iv_ G, iv_ I, iv_ J, .slice B x.length X, iv_ L] ?_; intro Y hg i1 hbox hb; refine sh3_ (below_step (bl_ HB) hb) hbox (ge_ hg (bl_ HB)) ?_; clear HB hb hbox hg; intro HB l j))
    go_ret
    exact ⟨er_, bl1_ HB j⟩

end Go.Proofs.YtpjhdehbikohmaaGreat.PFnExactPlanOf
