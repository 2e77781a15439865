-- Written by a program of this session for this claim (the kit's printer with changes).
import Derived.Test.YtpjhdehbikohmaaGreatQFnExactPlanOfx0
import Derived.Test.YtpjhdehbikohmaaGreatQFnExactPlanOfx3
import Derived.Test.YtpjhdehbikohmaaGreatQFnExactPlanOfx5
import Derived.Test.YtpjhdehbikohmaaGreatQFnExactPlanOfx6
namespace Go.Proofs.YtpjhdehbikohmaaGreat.PFnExactPlanOf
open Go.RowKit Go.Proofs.YtpjhdehbikohmaaGreatW.PrintWords Go.Proofs.YtpjhdehbikohmaaGreatW.PrintLast Go.Proofs.YtpjhdehbikohmaaGreatW.PrintMore
attribute [local go_sem] max2_int min2_int max_two min_two max_three min_three max_four min_four   -- for this text's walks alone
set_option linter.unusedVariables false
set_option maxHeartbeats 8000000
set_option maxRecDepth 100000
set_option linter.unusedSimpArgs false

/-! ### spec_WidenArc: function 105 -/
def spec_WidenArc.j0 : Nat → Int → Bool → Int → Int → Option (Int × Int)
 | 0, _, _, _, _ => none
 | k + 1, j, z, l, m => if z = true then ((spec_AngleOf.f l).bind fun s => (some (s, m))) else ((spec_AngleOf.f l).bind fun u => ((spec_AngleOf.f (wrap64 (u - j))).bind fun x => ((spec_Min.f 359 (wrap64 (m + (wrap64 (2 * j))))).bind fun y => (some (x, y)))))
def spec_WidenArc.f (k : Nat) (m j l : Int) : Option (Int × Int) := (spec_l1In.f l 0 360).bind fun s => (if s = true then ((spec_l1In.f j 0 359).bind fun u => (spec_WidenArc.j0 k l (!u) m j)) else (spec_WidenArc.j0 k l true m j))
def spec_WidenArc.T3 : Bool × List (List Nat × List Nat) := (true, [([], []), ([0], [0]), ([1], [1]), ([], []), ([2, 3], [2, 3]), ([4, 2], [4]), ([], []), ([6], [6]), ([], []), ([8], [8]), ([7, 9], [7, 9]), ([10, 5], [10]), ([5, 11], [5, 11]), ([12, 11, 0, 1, 2, 3, 4, 5, 6, 7, 8, 9, 10, 11, 12], [12])])
def spec_WidenArc.B3 : List Nat := [0, 1, 3, 0, 15, 31, 0, 64, 0, 256, 960, 2047, 4095, 8191]
theorem spec_WidenArc.tab3 : rtab .any (opsOf Tryz.f105 3) = spec_WidenArc.T3 := by kernel_rfl
theorem spec_WidenArc.bits3 : waitsOk spec_WidenArc.T3.2 spec_WidenArc.B3 = true := by kernel_rfl
theorem spec_WidenArc.calls (k : Nat) (u m z B D : Int) (w : World) (h : spec_WidenArc.f k u m z = some (B, D)) :
  Calls Tryz.prog 105 #[.agg #[iv_ u, iv_ m], iv_ z] w fun e w' => e = .returned (.agg #[iv_ B, iv_ D]) ∧ Below w.heap.size w w' := by
 have e1 := Tryz.underlying74
 have HB := Aside0.mk (Below.refl w.heap.size w)
 have H := h
 clear h
 unfold spec_WidenArc.f at H
 have Y := Aside0.mk H
 clear H
 go_enter Tryz.func105, Tryz.ntmps105
 go_upto_region 1 with (first | ((with_reducible refine gd_ 2 ?_); refine bx_ 2 74 #[iv_ u, iv_ m] ?_; intro Z hg w4 hbox hb; refine sh3_ (below_step (bl_ HB) hb) hbox (ge_ hg (bl_ HB)) ?_; clear HB hb hbox hg; intro HB j E) | ((with_reducible refine gd_ 4 ?_); refine bx_ 4 74 #[iv_ 0, iv_ 0] ?_; intro s hg w5 hbox hb; refine sh6_ (blk_below (bk_ j) hb) (below_step (bl1_ HB E) hb) hbox (ge_ hg (bl1_ HB E)) (nl_ hg (bk_ j)) (ng_ hg (bk_ j)) ?_; clear j HB hb hbox hg; intro j HB l I x G))
 (try simp only [Act.put, List.setIfInBounds_toArray, List.set_cons_zero, List.set_cons_succ])
 go_cut [13] (fun b2 wc => ∃ (kq : Nat) (X : Bool), b2 = .bool X ∧ Aside0 (spec_WidenArc.j0 kq z X u m = some (B, D)) ∧ Aside0 (kq ≤ k) ∧ Aside0 (wc.heap[Z]? = some (.cells #[iv_ u, iv_ m] 74 (0, 0))) ∧ Aside0 (wc.heap[s]? = some (.cells #[iv_ 0, iv_ 0] 74 (0, 0))) ∧ Aside0 (Below w.heap.size w wc))
 case first =>
  have H := Y.out
  clear Y
  replace H := bs_ H
  obtain ⟨b1, A6, H⟩ := H
  by_cases c7 : b1 = true
  ·subst c7
   have y : ((spec_l1In.f m 0 359).bind fun L => (spec_WidenArc.j0 k z (!L) u m)) = some (B, D) := by rw [if_pos rfl] at H; exact H
   clear H
   have H := y
   clear y
   replace H := bs_ H
   obtain ⟨L, A8, H⟩ := H
   have H' := Aside0.mk H
   clear H
   go_wp2_with (first | ((with_reducible refine gate_callee (f := 40) rfl ?_); refine gl_ 6 Tryz.func40 (spec_l1In.calls z 0 360 true _ A6.out) ?_; rintro e w' ⟨rfl, ⟨nd, rfl⟩⟩; refine ⟨_, rfl, ?_⟩; have d1 := x.out; have d2 := G.out; have b4 := cf2_ j) | (go_at_call 40; (with_reducible refine (spec_l1In.calls m 0 359 L _ A8.out).mono ?_); rintro e w' ⟨rfl, ⟨nd, rfl⟩⟩))
   go_meet
   case rel => exact ⟨_, (!L), (by first | rfl | (simp; done) | (simp [*]; done)), H', ⟨by first | omega | exact Nat.le_refl _⟩, ⟨by (with_reducible repeat (first | refine blk_drewN ?_ _ | refine blk_drew ?_ | refine blk_alloc ?_ _)); exact j.out⟩, ⟨by (with_reducible repeat (first | refine blk_drewN ?_ _ | refine blk_drew ?_ | refine blk_alloc ?_ _)); exact l.out⟩, ⟨bl2_ HB E I⟩⟩
  ·replace c7 := Bool.eq_false_iff.mpr c7
   subst c7
   have y : (spec_WidenArc.j0 k z true u m) = some (B, D) := by rw [if_neg (show ¬ (false = true) by decide)] at H; exact H
   clear H
   have H := y
   clear y
   have H' := Aside0.mk H
   clear H
   go_wp2_with (first | ((with_reducible refine gate_callee (f := 40) rfl ?_); refine gl_ 6 Tryz.func40 (spec_l1In.calls z 0 360 false _ A6.out) ?_; rintro e w' ⟨rfl, ⟨nd, rfl⟩⟩; refine ⟨_, rfl, ?_⟩))
   go_meet
   case rel => exact ⟨_, (true), (by first | rfl | (simp; done) | (simp [*]; done)), H', ⟨by first | omega | exact Nat.le_refl _⟩, ⟨by (with_reducible repeat (first | refine blk_drewN ?_ _ | refine blk_drew ?_ | refine blk_alloc ?_ _)); exact j.out⟩, ⟨by (with_reducible repeat (first | refine blk_drewN ?_ _ | refine blk_drew ?_ | refine blk_alloc ?_ _)); exact l.out⟩, ⟨bl2_ HB E I⟩⟩
 case rest =>
  clear Y
  obtain ⟨kq, X, rfl, HA, b3, j, l, HB⟩ := hcut
  cases kq with
  | zero => exact absurd HA.out (by simp [spec_WidenArc.j0])
  | succ e2 =>
   have H := HA.out
   clear HA
   simp only [spec_WidenArc.j0] at H
   by_cases J : X = true
   ·subst J
    have y : ((spec_AngleOf.f u).bind fun M => (some (M, m))) = some (B, D) := by rw [if_pos rfl] at H; exact H
    clear H
    have H := y
    clear y
    replace H := bs_ H
    obtain ⟨M, a4, H⟩ := H
    simp only [Option.some.injEq, Prod.mk.injEq] at H
    obtain ⟨rfl, rfl⟩ := H
    try go_wp2
    refine sh3_ (blk_drew j.out) (blk_drew l.out) (below_drew1 HB.out) ?_
    clear j l HB
    intro j l HB
    refine start_ (n := 7) (S := fun w' => Cz2 w' Z (iv_ u) (iv_ m)) (ds := []) (bo_ 7 0) (by kernel_rfl) rfl rfl (cz2_ j) (fun hHeld => ?_)
    generalize wc.drew = a2 at j l HB hHeld ⊢
    refine pu0_ 0 (bo_ 7 1) (some 14) ?_
    refine pu0_ 3 (bo_ 7 9) (some 17) ?_
    refine take_ (i := 1) (N := some 15) (v := ?_) (a' := ?_) (bo_ 7 11) rfl rfl (by kernel_rfl) (fun _ _ _ h => h) (Or.inl ⟨by rfl, ?_⟩) hHeld ?_ ?_
    rotate_left
    ·rintro w' ⟨s0, s1⟩
     go_simp
     with_reducible rfl
    rotate_left
    ·simp only [Act.put, List.setIfInBounds_toArray, List.set_cons_zero, List.set_cons_succ, i64_w, i32_w]
     rfl
    refine take_ (i := 4) (N := some 18) (v := ?_) (a' := ?_) (bo_ 7 27) rfl rfl (by kernel_rfl) (fun _ _ _ h => h) (Or.inl ⟨by rfl, ?_⟩) hHeld ?_ ?_
    rotate_left
    ·rintro w' ⟨s0, s1⟩
     go_simp
     with_reducible rfl
    rotate_left
    ·simp only [Act.put, List.setIfInBounds_toArray, List.set_cons_zero, List.set_cons_succ, i64_w, i32_w]
     rfl
    refine one_ (i := 2) (N := some 16) (bo_ 7 31) rfl rfl (by kernel_rfl) (by decide) (fun K hK => ?_)
    refine goes_ Tryz.func104 (by kernel_rfl) rfl #[iv_ u] (by rfl) rfl rfl mp_ ?_
    with_reducible refine (spec_AngleOf.calls u M _ a4.out).mono ?_
    rintro e w' ⟨rfl, ⟨nd, rfl⟩⟩
    refine ⟨_, rfl, ?_⟩
    refine hK.out _ _ (cz2_ j) (fun hHeld => ?_)
    clear hK K
    refine norm_ (show Act.put _ (some 16) _ = _ from pt_) ?_
    refine pu0_ 5 (bo_ 7 63) (some 19) ?_
    refine one_ (i := 6) (N := none) (bo_ 7 127) rfl rfl (by kernel_rfl) (by decide) (fun K hK => ?_)
    have d7 : a2.cell? ⟨s, 0, none⟩ = some (iv_ 0) := bc_ l 0 rfl
    have b5 := bf_ l 0
    have d3 := x.out
    have b9 := G.out
    have d8 : a2.cell? ⟨s, 1, none⟩ = some (iv_ 0) := bc_ l 1 rfl
    have b6 := bf_ l 1
    have d4 := x.out
    have c0 := G.out
    refine skip_ (w1 := ?_) (by rfl) rfl ?_ ?_
    rotate_left
    ·go_simp
     rfl
    refine hK.out _ _ ⟨((cell_far (p := ⟨s, _, none⟩) x.out _).trans (((cell_far (p := ⟨s, _, none⟩) x.out _).trans (hHeld.1)))), ((cell_far (p := ⟨s, _, none⟩) x.out _).trans (((cell_far (p := ⟨s, _, none⟩) x.out _).trans (hHeld.2))))⟩ (fun hHeld => ?_)
    clear hK K
    refine done_ (by kernel_rfl) ?_
    try go_wp2
    refine bodyPost_ret (results_cell_row rfl _ _ s 74 #[iv_ M, iv_ m] (0, 0) _ rfl (bp_ l) Tryz.underlying74 rfl (by kernel_rfl)) rfl ?_
    exact ⟨er_, bl2_ HB E I⟩
   ·replace J := Bool.eq_false_iff.mpr J
    subst J
    have y : ((spec_AngleOf.f u).bind fun O => ((spec_AngleOf.f (wrap64 (O - z))).bind fun T => ((spec_Min.f 359 (wrap64 (m + (wrap64 (2 * z))))).bind fun U => (some (T, U))))) = some (B, D) := by rw [if_neg (show ¬ (false = true) by decide)] at H; exact H
    clear H
    have H := y
    clear y
    replace H := bs_ H
    obtain ⟨O, a5, H⟩ := H
    replace H := bs_ H
    obtain ⟨T, a6, H⟩ := H
    replace H := bs_ H
    obtain ⟨U, a7, H⟩ := H
    simp only [Option.some.injEq, Prod.mk.injEq] at H
    obtain ⟨rfl, rfl⟩ := H
    try go_wp2
    refine sh3_ (blk_drew j.out) (blk_drew l.out) (below_drew1 HB.out) ?_
    clear j l HB
    intro j l HB
    refine start_ (n := 14) (S := fun w' => Cz2 w' Z (iv_ u) (iv_ m)) (ds := []) (bo_ 14 0) (by kernel_rfl) rfl rfl (cz2_ j) (fun hHeld => ?_); refine with_tabW spec_WidenArc.tab3 spec_WidenArc.bits3 (fun HT_ HW_ => ?_)
    generalize wc.drew = a3 at j l HB hHeld ⊢
    refine pur_ 0 (bo_ 14 1) (some 20) HT_ ?_
    refine pur_ 3 (bo_ 14 9) (some 23) HT_ ?_
    refine pur_ 6 (bo_ 14 73) (some 26) HT_ ?_
    refine pur_ 8 (bo_ 14 329) (some 28) HT_ ?_
    refine pur_ 9 (bo_ 14 841) (some 29) HT_ ?_
    refine tak_ 1 (bo_ 14 843) (some 21) HT_ HW_ hHeld ?_
    refine tak_ 7 (bo_ 14 971) (some 27) HT_ HW_ hHeld ?_
    refine pur_ 10 (bo_ 14 1995) (some 30) HT_ ?_
    refine onc_ 2 (bo_ 14 1999) (some 22) HT_ Tryz.func104 (spec_AngleOf.calls u O _ a5.out) ?_
    rintro e w' ⟨rfl, ⟨nd, rfl⟩⟩
    refine ⟨_, _, rfl, (cz2_ j), pt_, fun hHeld => ?_⟩
    refine pur_ 4 (bo_ 14 2015) (some 24) HT_ ?_
    refine onc_ 5 (bo_ 14 2047) (some 25) HT_ Tryz.func104 (spec_AngleOf.calls (wrap64 (O - z)) T _ a6.out) ?_
    rintro e w' ⟨rfl, ⟨nd, rfl⟩⟩
    refine ⟨_, _, rfl, (cz2_ j), pt_, fun hHeld => ?_⟩
    refine onc_ 11 (bo_ 14 4095) (some 31) HT_ Tryz.func22 (spec_Min.calls 359 (wrap64 (m + (wrap64 (2 * z)))) U _ a7.out) ?_
    rintro e w' ⟨rfl, ⟨nd, rfl⟩⟩
    refine ⟨_, _, rfl, (cz2_ j), pt_, fun hHeld => ?_⟩
    refine pur_ 12 (bo_ 14 8191) (some 32) HT_ ?_
    refine one_ (i := 13) (N := none) (bo_ 14 16383) rfl rfl (one_of HT_.out (by kernel_rfl)) (by decide) (fun K hK => ?_)
    have d9 : a3.cell? ⟨s, 0, none⟩ = some (iv_ 0) := bc_ l 0 rfl
    have b7 := bf_ l 0
    have d5 := x.out
    have c1 := G.out
    have e0 : a3.cell? ⟨s, 1, none⟩ = some (iv_ 0) := bc_ l 1 rfl
    have b8 := bf_ l 1
    have d6 := x.out
    have d0 := G.out
    refine skip_ (w1 := ?_) (by rfl) rfl ?_ ?_
    rotate_left
    ·go_simp
     rfl
    refine hK.out _ _ ⟨((cell_far (p := ⟨s, _, none⟩) x.out _).trans (((cell_far (p := ⟨s, _, none⟩) x.out _).trans (hHeld.1)))), ((cell_far (p := ⟨s, _, none⟩) x.out _).trans (((cell_far (p := ⟨s, _, none⟩) x.out _).trans (hHeld.2))))⟩ (fun hHeld => ?_)
    clear hK K
    refine done_ (done_of HT_.out (by kernel_rfl)) ?_
    try go_wp2
    refine bodyPost_ret (results_cell_row rfl _ _ s 74 #[iv_ T, iv_ U] (0, 0) _ rfl (bp_ l) Tryz.underlying74 rfl (by kernel_rfl)) rfl ?_
    exact ⟨er_, bl2_ HB E I⟩

/-! ### spec_PlacesAt: function 92 -/
def spec_PlacesAt.f (k : Nat) (m s u j x : Int) : Option (Int × Int) := (spec_PlaceAt.f m s u j x).bind fun y => ((spec_WidenArc.f k y 0 j).bind fun l => (some (l.1, l.2)))
def spec_PlacesAt.T1 : Bool × List (List Nat × List Nat) := (true, [([], []), ([], []), ([0, 1], [0, 1]), ([2], [2]), ([], []), ([4], [4]), ([3, 5, 2], [3, 5]), ([6, 6, 0, 1, 2, 3, 4, 5, 6], [6])])
def spec_PlacesAt.B1 : List Nat := [0, 0, 3, 7, 0, 16, 63, 127]
theorem spec_PlacesAt.tab1 : rtab .any (opsOf Tryz.f92 1) = spec_PlacesAt.T1 := by kernel_rfl
theorem spec_PlacesAt.bits1 : waitsOk spec_PlacesAt.T1.2 spec_PlacesAt.B1 = true := by kernel_rfl
theorem spec_PlacesAt.calls (k : Nat) (y z B u E I J : Int) (w : World) (h : spec_PlacesAt.f k y z B u E = some (I, J)) :
  Calls Tryz.prog 92 #[.agg #[iv_ y, iv_ z, iv_ B, iv_ u], iv_ E] w fun e w' => e = .returned (.agg #[iv_ I, iv_ J]) ∧ Below w.heap.size w w' := by
 have a9 := Tryz.underlying68
 have b0 := Tryz.underlying74
 have HB := Aside0.mk (Below.refl w.heap.size w)
 have H := h
 clear h
 unfold spec_PlacesAt.f at H
 replace H := bs_ H
 obtain ⟨L, U, H⟩ := H
 replace H := bs_ H
 obtain ⟨⟨M, O⟩, X, H⟩ := H
 dsimp only at H
 simp only [Option.some.injEq, Prod.mk.injEq] at H
 obtain ⟨rfl, rfl⟩ := H
 go_enter Tryz.func92, Tryz.ntmps92
 try go_wp2_with (first | ((with_reducible refine gd_ 2 ?_); refine bx_ 2 68 #[iv_ y, iv_ z, iv_ B, iv_ u] ?_; intro Y hg w5 hbox hb; refine sh3_ (below_step (bl_ HB) hb) hbox (ge_ hg (bl_ HB)) ?_; clear HB hb hbox hg; intro HB j x) | ((with_reducible refine gd_ 4 ?_); refine bx_ 4 74 #[iv_ 0, iv_ 0] ?_; intro m hg Z hbox hb; refine sh6_ (blk_below (bk_ j) hb) (below_step (bl1_ HB x) hb) hbox (ge_ hg (bl1_ HB x)) (nl_ hg (bk_ j)) (ng_ hg (bk_ j)) ?_; clear j HB hb hbox hg; intro j HB l D s G))
 refine sh3_ (blk_drew j.out) (blk_drew l.out) (below_drew1 HB.out) ?_
 clear j l HB
 intro j l HB
 refine start_ (n := 8) (S := fun w' => Cz4 w' Y (iv_ y) (iv_ z) (iv_ B) (iv_ u)) (ds := []) (bo_ 8 0) (by kernel_rfl) rfl rfl (cz4_ j) (fun hHeld => ?_); refine with_tabW spec_PlacesAt.tab1 spec_PlacesAt.bits1 (fun HT_ HW_ => ?_)
 generalize Z.drew = w7 at j l HB hHeld ⊢
 refine pur_ 1 (bo_ 8 2) (some 6) HT_ ?_
 refine pur_ 4 (bo_ 8 18) (some 9) HT_ ?_
 refine tak_ 0 (bo_ 8 19) (some 5) HT_ HW_ hHeld ?_
 refine tak_ 5 (bo_ 8 51) (some 10) HT_ HW_ hHeld ?_
 refine onc_ 2 (bo_ 8 55) (some 7) HT_ Tryz.func94 (spec_PlaceAt.calls y z B u E L _ U.out) ?_
 rintro e w8 ⟨rfl, hb⟩
 refine sh3_ (blk_below (bk_ j) hb) (blk_below (bk_ l) hb) (below_step (bl2_ HB x D) hb) ?_
 clear j l HB hb
 intro j l HB
 refine ⟨_, _, rfl, (cz4_ j), pt_, fun hHeld => ?_⟩
 refine pur_ 3 (bo_ 8 63) (some 8) HT_ ?_
 refine onc_ 6 (bo_ 8 127) (some 11) HT_ Tryz.func105 (spec_WidenArc.calls k L 0 u M O _ X.out) ?_
 rintro e T ⟨rfl, hb⟩
 refine sh3_ (blk_below (bk_ j) hb) (blk_below (bk_ l) hb) (below_step (bl2_ HB x D) hb) ?_
 clear j l HB hb
 intro j l HB
 refine ⟨_, _, rfl, (cz4_ j), pt_, fun hHeld => ?_⟩
 refine one_ (i := 7) (N := none) (bo_ 8 255) rfl rfl (one_of HT_.out (by kernel_rfl)) (by decide) (fun K hK => ?_)
 have a7 : T.cell? ⟨m, 0, none⟩ = some (iv_ 0) := bc_ l 0 rfl
 have a0 := bf_ l 0
 have a5 := s.out
 have a3 := G.out
 have a8 : T.cell? ⟨m, 1, none⟩ = some (iv_ 0) := bc_ l 1 rfl
 have a2 := bf_ l 1
 have a6 := s.out
 have a4 := G.out
 refine skip_ (w1 := ?_) (by rfl) rfl ?_ ?_
 rotate_left
 ·go_simp
  rfl
 refine hK.out _ _ ⟨((cell_far (p := ⟨m, _, none⟩) s.out _).trans (((cell_far (p := ⟨m, _, none⟩) s.out _).trans (hHeld.1)))), ((cell_far (p := ⟨m, _, none⟩) s.out _).trans (((cell_far (p := ⟨m, _, none⟩) s.out _).trans (hHeld.2.1)))), ((cell_far (p := ⟨m, _, none⟩) s.out _).trans (((cell_far (p := ⟨m, _, none⟩) s.out _).trans (hHeld.2.2.1)))), ((cell_far (p := ⟨m, _, none⟩) s.out _).trans (((cell_far (p := ⟨m, _, none⟩) s.out _).trans (hHeld.2.2.2))))⟩ (fun hHeld => ?_)
 clear hK K
 refine done_ (done_of HT_.out (by kernel_rfl)) ?_
 try go_wp2
 refine bodyPost_ret (results_cell_row rfl _ _ m 74 #[iv_ M, iv_ O] (0, 0) _ rfl (bp_ l) Tryz.underlying74 rfl (by kernel_rfl)) rfl ?_
 exact ⟨er_, bl2_ HB x D⟩

/-! ### spec_NodesOf: function 37 -/
def spec_NodesOf.f (m : Int) (j : List S68) (l : List S70) (s u x y z : Int) (D : List S76) (B : Int) : Option (Int) := some (wrap64 ((j.length : Int) + (l.length : Int)))
theorem spec_NodesOf.calls (y : Int) (s : Option Addr) (J : Nat) (j : List S68) (u : Option Addr) (L : Nat) (l : List S70) (z B D E G : Int) (x : Option Addr) (M : Nat) (m : List S76) (I r : Int) (w : World) (X : Kd.C k68 w s j.length j) (O : j.length ≤ J) (Y : Kd.C k70 w u l.length l) (T : l.length ≤ L) (Z : Kd.C k76 w x m.length m) (U : m.length ≤ M) (h : spec_NodesOf.f y j l z B D E G m I = some r) :
  Calls Tryz.prog 37 #[.agg #[iv_ y, .slice s j.length J, .slice u l.length L, iv_ z, iv_ B, iv_ D, iv_ E, iv_ G, .slice x m.length M, iv_ I]] w fun e w' => e = .returned (iv_ r) ∧ Below w.heap.size w w' := by
 have b0 := Tryz.underlying34
 have a5 := Aside0.mk X
 have a2 := Aside0.mk O
 clear X O
 have a6 := Aside0.mk Y
 have a3 := Aside0.mk T
 clear Y T
 have a7 := Aside0.mk Z
 have a4 := Aside0.mk U
 clear Z U
 have HB := Aside0.mk (Below.refl w.heap.size w)
 have H := h
 clear h
 unfold spec_NodesOf.f at H
 obtain rfl := Option.some.inj H
 go_enter Tryz.func37, Tryz.ntmps37
 go_wp2_with (first | ((with_reducible refine gd_ 1 ?_); refine bx_ 1 34 #[iv_ y, .slice s j.length J, .slice u l.length L, iv_ z, iv_ B, iv_ D, iv_ E, iv_ G, .slice x m.length M, iv_ I] ?_; intro a8 hg w2 hbox hb; refine sh3_ (below_step (bl_ HB) hb) hbox (ge_ hg (bl_ HB)) ?_; clear HB hb hbox hg; intro HB a0 a1; have a9 := cf10_ a0))
 go_ret
 exact ⟨er_, bl1_ HB a1⟩

/-! ### spec_IsSite: function 93 -/
def spec_IsSite.f (l : Int) (j : List S68) (D : List S70) (m s u x y : Int) (E : List S76) (z B : Int) : Option (Bool) := (spec_NodesOf.f l j D m s u x y E z).bind fun G => ((spec_l1In.f B (j.length : Int) (wrap64 (G - 1))).bind fun I => (some I))
def spec_IsSite.T1 : Bool × List (List Nat × List Nat) := (true, [([], []), ([], []), ([1], [1]), ([2], [2]), ([], []), ([4], [4]), ([5], [5]), ([0, 3, 6, 5], [0, 3, 6]), ([7, 7, 0, 1, 2, 3, 4, 5, 6, 7], [7])])
def spec_IsSite.B1 : List Nat := [0, 0, 2, 6, 0, 16, 48, 127, 255]
theorem spec_IsSite.tab1 : rtab .any (opsOf Tryz.f93 1) = spec_IsSite.T1 := by kernel_rfl
theorem spec_IsSite.bits1 : waitsOk spec_IsSite.T1.2 spec_IsSite.B1 = true := by kernel_rfl
theorem spec_IsSite.calls (u : Int) (G : Option Addr) (L : Nat) (l : List S68) (I : Option Addr) (M : Nat) (m : List S70) (x y z B D : Int) (J : Option Addr) (O : Nat) (s : List S76) (E T : Int) (r : Bool) (w : World) (a0 : Kd.C k68 w G l.length l) (X : l.length ≤ L) (a2 : Kd.C k70 w I m.length m) (Y : m.length ≤ M) (a3 : Kd.C k76 w J s.length s) (Z : s.length ≤ O) (h : spec_IsSite.f u l m x y z B D s E T = some r) :
  Calls Tryz.prog 93 #[.agg #[iv_ u, .slice G l.length L, .slice I m.length M, iv_ x, iv_ y, iv_ z, iv_ B, iv_ D, .slice J s.length O, iv_ E], iv_ T] w fun e w' => e = .returned (.bool r) ∧ Below w.heap.size w w' := by
 have b6 := Tryz.underlying34
 have b0 := Aside0.mk a0
 have a7 := Aside0.mk X
 clear a0 X
 have b1 := Aside0.mk a2
 have a8 := Aside0.mk Y
 clear a2 Y
 have b2 := Aside0.mk a3
 have a9 := Aside0.mk Z
 clear a3 Z
 have HB := Aside0.mk (Below.refl w.heap.size w)
 have H := h
 clear h
 unfold spec_IsSite.f at H
 replace H := bs_ H
 obtain ⟨a4, A3, H⟩ := H
 replace H := bs_ H
 obtain ⟨b4, A4, H⟩ := H
 obtain rfl := Option.some.inj H
 go_enter Tryz.func93, Tryz.ntmps93
 try go_wp2_with (first | ((with_reducible refine gd_ 2 ?_); refine bx_ 2 34 #[iv_ u, .slice G l.length L, .slice I m.length M, iv_ x, iv_ y, iv_ z, iv_ B, iv_ D, .slice J s.length O, iv_ E] ?_; intro b3 hg w5 hbox hb; refine sh3_ (below_step (bl_ HB) hb) hbox (ge_ hg (bl_ HB)) ?_; clear HB hb hbox hg; intro HB j U))
 refine sh2_ (blk_drew j.out) (below_drew1 HB.out) ?_
 clear j HB
 intro j HB
 refine start_ (n := 9) (S := fun w' => Cz10 w' b3 (iv_ u) (.slice G l.length L) (.slice I m.length M) (iv_ x) (iv_ y) (iv_ z) (iv_ B) (iv_ D) (.slice J s.length O) (iv_ E)) (ds := []) (bo_ 9 0) (by kernel_rfl) rfl rfl (cz10_ j) (fun hHeld => ?_); refine with_tabW spec_IsSite.tab1 spec_IsSite.bits1 (fun HT_ HW_ => ?_)
 generalize w5.drew = w6 at j HB hHeld ⊢
 refine pur_ 0 (bo_ 9 1) (some 5) HT_ ?_
 refine pur_ 1 (bo_ 9 3) (some 6) HT_ ?_
 refine tak_ 2 (bo_ 9 7) (some 7) HT_ HW_ hHeld ?_
 refine pur_ 3 (bo_ 9 15) (some 8) HT_ ?_
 refine tak_ 4 (bo_ 9 31) (some 9) HT_ HW_ hHeld ?_
 refine onc_ 5 (bo_ 9 63) (some 10) HT_ Tryz.func37 (spec_NodesOf.calls u _ _ l _ _ m x y z B D _ _ s E a4 _ (ck_ b0 HB) a7.out (ck_ b1 HB) a8.out (ck_ b2 HB) a9.out A3.out) ?_
 rintro e w7 ⟨rfl, hb⟩
 refine sh2_ (blk_below (bk_ j) hb) (below_step (bl1_ HB U) hb) ?_
 clear j HB hb
 intro j HB
 refine ⟨_, _, rfl, (cz10_ j), pt_, fun hHeld => ?_⟩
 refine pur_ 6 (bo_ 9 127) (some 11) HT_ ?_
 refine onc_ 7 (bo_ 9 255) (some 12) HT_ Tryz.func40 (spec_l1In.calls T (l.length : Int) (wrap64 (a4 - 1)) b4 _ A4.out) ?_
 rintro e w' ⟨rfl, ⟨nd, rfl⟩⟩
 refine ⟨_, _, rfl, (cz10_ j), pt_, fun hHeld => ?_⟩
 refine pur_ 8 (bo_ 9 511) (some 4) HT_ ?_
 refine done_ (done_of HT_.out (by kernel_rfl)) ?_
 try go_wp2
 go_ret
 exact ⟨er_, bl1_ HB U⟩

/-! ### spec_NodeAt: function 82 -/
def spec_NodeAt.f (k : Nat) (x : Int) (l : List S68) (m : List S70) (y z B D E : Int) (I : List S76) (G j s : Int) : Option (Int × Int) := (spec_l1In.f j 0 (wrap64 ((l.length : Int) - 1))).bind fun J => (if J = true then (if 0 ≤ j then (if j < (l.length : Int) then ((spec_PlacesAt.f k ((rd_T68 l j).f0) ((rd_T68 l j).f1) ((rd_T68 l j).f2) ((rd_T68 l j).f3) s).bind fun u => (some (u.1, u.2))) else (none)) else (none)) else ((spec_IsSite.f x l m y z B D E I G j).bind fun L => (if L = true then (if 0 ≤ (wrap64 (j - (l.length : Int))) then (if (wrap64 (j - (l.length : Int))) < (m.length : Int) then ((spec_PlaceAt.f 0 ((rd_T70 m (wrap64 (j - (l.length : Int)))).f1) ((rd_T70 m (wrap64 (j - (l.length : Int)))).f2) 0 s).bind fun M => (some (M, 0))) else (none)) else (none)) else (some (0, 0)))))
theorem spec_NodeAt.calls (k : Nat) (B : Int) (O : Option Addr) (X : Nat) (l : List S68) (a3 : Option Addr) (Y : Nat) (s : List S70) (D E G I J : Int) (T : Option Addr) (Z : Nat) (y : List S76) (L u U r1 r2 : Int) (w : World) (e6 : Kd.C k68 w O l.length l) (e3 : l.length ≤ X) (e7 : Kd.C k70 w a3 s.length s) (e4 : s.length ≤ Y) (e8 : Kd.C k76 w T y.length y) (e5 : y.length ≤ Z) (h : spec_NodeAt.f k B l s D E G I J y L u U = some (r1, r2)) :
  Calls Tryz.prog 82 #[.agg #[iv_ B, .slice O l.length X, .slice a3 s.length Y, iv_ D, iv_ E, iv_ G, iv_ I, iv_ J, .slice T y.length Z, iv_ L], iv_ u, iv_ U] w fun e w' => e = .returned (.agg #[iv_ r1, iv_ r2]) ∧ Below w.heap.size w w' := by
 have k0 := Tryz.underlying34
 have k3 := Tryz.underlying74
 have k1 := Tryz.underlying68
 have k2 := Tryz.underlying70
 have c0 := Aside0.mk e6
 have d6 := Aside0.mk e3
 clear e6 e3
 have c1 := Aside0.mk e7
 have d7 := Aside0.mk e4
 clear e7 e4
 have d9 := Aside0.mk e8
 have d8 := Aside0.mk e5
 clear e8 e5
 have HB := Aside0.mk (Below.refl w.heap.size w)
 have H := h
 clear h
 unfold spec_NodeAt.f at H
 replace H := bs_ H
 obtain ⟨h2, A4, H⟩ := H
 by_cases c5 : h2 = true
 ·subst c5
  have M : (if 0 ≤ u then (if u < (l.length : Int) then ((spec_PlacesAt.f k ((rd_T68 l u).f0) ((rd_T68 l u).f1) ((rd_T68 l u).f2) ((rd_T68 l u).f3) U).bind fun e0 => (some (e0.1, e0.2))) else (none)) else (none)) = some (r1, r2) := by rw [if_pos rfl] at H; exact H
  clear H
  have H := M
  clear M
  replace H := ifn_ H
  obtain ⟨c6, H⟩ := H
  have h6 := decide_eq_true c6
  clear c6
  replace H := ifn_ H
  obtain ⟨c7, H⟩ := H
  have h7 := decide_eq_true c7
  clear c7
  replace H := bs_ H
  obtain ⟨⟨g0, g1⟩, A8, H⟩ := H
  dsimp only at H
  simp only [Option.some.injEq, Prod.mk.injEq] at H
  obtain ⟨rfl, rfl⟩ := H
  go_enter Tryz.func82, Tryz.ntmps82
  go_wp2_with (first | ((with_reducible refine gd_ 3 ?_); refine bx_ 3 34 #[iv_ B, .slice O l.length X, .slice a3 s.length Y, iv_ D, iv_ E, iv_ G, iv_ I, iv_ J, .slice T y.length Z, iv_ L] ?_; intro b0 hg w9 hbox hb; refine sh3_ (below_step (bl_ HB) hb) hbox (ge_ hg (bl_ HB)) ?_; clear HB hb hbox hg; intro HB j x) | ((with_reducible refine gd_ 6 ?_); refine bx_ 6 74 #[iv_ 0, iv_ 0] ?_; intro a0 hg b1 hbox hb; refine sh6_ (blk_below (bk_ j) hb) (below_step (bl1_ HB x) hb) hbox (ge_ hg (bl1_ HB x)) (nl_ hg (bk_ j)) (ng_ hg (bk_ j)) ?_; clear j HB hb hbox hg; intro j HB m z b4 b5; have j0 := b4.out; have j5 := b5.out; have h8 := cf10_ j) | ((with_reducible refine gate_callee (f := 40) rfl ?_); refine gl_ 13 Tryz.func40 (spec_l1In.calls u 0 (wrap64 ((l.length : Int) - 1)) true _ A4.out) ?_; rintro e w' ⟨rfl, ⟨nd, rfl⟩⟩; refine ⟨_, rfl, ?_⟩; (try (rw [drewN_self b1]; generalize hq_ : World.drewN b1 _ = b1; have a4 : Aside0 (b1.heap[b0]? = some (.cells #[iv_ B, .slice O l.length X, .slice a3 s.length Y, iv_ D, iv_ E, iv_ G, iv_ I, iv_ J, .slice T y.length Z, iv_ L] 34 (0, 0))) := ⟨by rw [← hq_]; exact (bk_ j)⟩; have a5 : Aside0 (b1.heap[a0]? = some (.cells #[iv_ 0, iv_ 0] 74 (0, 0))) := ⟨by rw [← hq_]; exact (bk_ m)⟩; have a6 : Aside0 (Below w.heap.size w b1) := ⟨by rw [← hq_]; exact (bl2_ HB x z)⟩; clear j m HB hq_; have j := a4; have m := a5; have HB := a6; clear a4 a5 a6)); have h9 := cf10_ j; have d0 : 0 ≤ (u : Int) := od_; have d2 : u < (l.length : Int) := od_; obtain ⟨h3, g9, e9, f4, f5, f6⟩ := at_T68 c0.out u d0 d2; cases g9; replace e9 := hbc_ HB e9; replace f4 := hbc_ HB f4; replace f5 := hbc_ HB f5; replace f6 := hbc_ HB f6; replace d0 := eq_true d0; replace d2 := eq_true d2) | ((with_reducible refine gate_callee (f := 92) rfl ?_); refine gl_ 20 Tryz.func92 (spec_PlacesAt.calls k ((rd_T68 l u).f0) ((rd_T68 l u).f1) ((rd_T68 l u).f2) ((rd_T68 l u).f3) U g0 g1 _ A8.out) ?_; rintro e k4 ⟨rfl, hb⟩; refine ⟨_, rfl, sh3_ (blk_below (bk_ j) hb) (blk_below (bk_ m) hb) (below_step (bl2_ HB x z) hb) ?_⟩; clear j m HB hb; intro j m HB; have i0 := cf2_ m))
  refine bodyPost_ret (results_cell_row rfl _ _ a0 74 #[iv_ g0, iv_ g1] (0, 0) _ rfl (bp_ m) Tryz.underlying74 rfl (by kernel_rfl)) rfl ?_
  exact ⟨er_, bl2_ HB x z⟩
 ·replace c5 := Bool.eq_false_iff.mpr c5
  subst c5
  have M : ((spec_IsSite.f B l s D E G I J y L u).bind fun d4 => (if d4 = true then (if 0 ≤ (wrap64 (u - (l.length : Int))) then (if (wrap64 (u - (l.length : Int))) < (s.length : Int) then ((spec_PlaceAt.f 0 ((rd_T70 s (wrap64 (u - (l.length : Int)))).f1) ((rd_T70 s (wrap64 (u - (l.length : Int)))).f2) 0 U).bind fun a7 => (some (a7, 0))) else (none)) else (none)) else (some (0, 0)))) = some (r1, r2) := by rw [if_neg (show ¬ (false = true) by decide)] at H; exact H
  clear H
  have H := M
  clear M
  replace H := bs_ H
  obtain ⟨d4, b9, H⟩ := H
  by_cases b8 : d4 = true
  ·subst b8
   have M : (if 0 ≤ (wrap64 (u - (l.length : Int))) then (if (wrap64 (u - (l.length : Int))) < (s.length : Int) then ((spec_PlaceAt.f 0 ((rd_T70 s (wrap64 (u - (l.length : Int)))).f1) ((rd_T70 s (wrap64 (u - (l.length : Int)))).f2) 0 U).bind fun a7 => (some (a7, 0))) else (none)) else (none)) = some (r1, r2) := by rw [if_pos rfl] at H; exact H
   clear H
   have H := M
   clear M
   obtain ⟨ji18, hji18⟩ : ∃ j_ : Int, (wrap64 (u - (l.length : Int))) = j_ := ⟨_, rfl⟩
   replace H : (if 0 ≤ (ji18) then (if (ji18) < (s.length : Int) then ((spec_PlaceAt.f 0 ((rd_T70 s (ji18)).f1) ((rd_T70 s (ji18)).f2) 0 U).bind fun a7 => (some (a7, 0))) else (none)) else (none)) = some (r1, r2) := by first | (rw [hji18] at H; exact H) | (simp only [hji18] at H ⊢; exact H)
   (try rw [hji18] at A4)
   (try rw [hji18] at b9)
   have i9 : (IntKind.i64.wrap (u - (l.length : Int))) = ji18 := (i64_w _).trans hji18
   replace H := ifn_ H
   obtain ⟨e1, H⟩ := H
   have h4 := decide_eq_true e1
   clear e1
   replace H := ifn_ H
   obtain ⟨e2, H⟩ := H
   have h5 := decide_eq_true e2
   clear e2
   replace H := bs_ H
   obtain ⟨a7, g2, H⟩ := H
   simp only [Option.some.injEq, Prod.mk.injEq] at H
   obtain ⟨rfl, rfl⟩ := H
   go_enter Tryz.func82, Tryz.ntmps82
   go_wp2_with (first | ((with_reducible refine gd_ 3 ?_); refine bx_ 3 34 #[iv_ B, .slice O l.length X, .slice a3 s.length Y, iv_ D, iv_ E, iv_ G, iv_ I, iv_ J, .slice T y.length Z, iv_ L] ?_; intro b0 hg k5 hbox hb; refine sh3_ (below_step (bl_ HB) hb) hbox (ge_ hg (bl_ HB)) ?_; clear HB hb hbox hg; intro HB j x) | ((with_reducible refine gd_ 6 ?_); refine bx_ 6 74 #[iv_ 0, iv_ 0] ?_; intro a0 hg b2 hbox hb; refine sh6_ (blk_below (bk_ j) hb) (below_step (bl1_ HB x) hb) hbox (ge_ hg (bl1_ HB x)) (nl_ hg (bk_ j)) (ng_ hg (bk_ j)) ?_; clear j HB hb hbox hg; intro j HB m z b4 b5; have j1 := b4.out; have j6 := b5.out; have i1 := cf10_ j) | ((with_reducible refine gate_callee (f := 40) rfl ?_); refine gl_ 13 Tryz.func40 (spec_l1In.calls u 0 (wrap64 ((l.length : Int) - 1)) false _ A4.out) ?_; rintro e w' ⟨rfl, ⟨nd, rfl⟩⟩; refine ⟨_, rfl, ?_⟩; (try (rw [drewN_self b2]; generalize hq_ : World.drewN b2 _ = b2; have a4 : Aside0 (b2.heap[b0]? = some (.cells #[iv_ B, .slice O l.length X, .slice a3 s.length Y, iv_ D, iv_ E, iv_ G, iv_ I, iv_ J, .slice T y.length Z, iv_ L] 34 (0, 0))) := ⟨by rw [← hq_]; exact (bk_ j)⟩; have a5 : Aside0 (b2.heap[a0]? = some (.cells #[iv_ 0, iv_ 0] 74 (0, 0))) := ⟨by rw [← hq_]; exact (bk_ m)⟩; have a6 : Aside0 (Below w.heap.size w b2) := ⟨by rw [← hq_]; exact (bl2_ HB x z)⟩; clear j m HB hq_; have j := a4; have m := a5; have HB := a6; clear a4 a5 a6)); have i2 := cf10_ j) | ((with_reducible refine gate_callee (f := 93) rfl ?_); refine gl_ 23 Tryz.func93 (spec_IsSite.calls B _ _ l _ _ s D E G I J _ _ y L u true _ (ck_ c0 HB) d6.out (ck_ c1 HB) d7.out (ck_ d9 HB) d8.out b9.out) ?_; rintro e k6 ⟨rfl, hb⟩; refine ⟨_, rfl, sh3_ (blk_below (bk_ j) hb) (blk_below (bk_ m) hb) (below_step (bl2_ HB x z) hb) ?_⟩; clear j m HB hb; intro j m HB; have i3 := cf10_ j; have d1 : 0 ≤ ((ji18) : Int) := od_; have d3 : (ji18) < (s.length : Int) := od_; obtain ⟨g8, h0, f7, f8, f9⟩ := at_T70 c1.out (ji18) d1 d3; cases h0; replace f7 := hbc_ HB f7; replace f8 := hbc_ HB f8; replace f9 := hbc_ HB f9; replace d1 := eq_true d1; replace d3 := eq_true d3) | ((with_reducible refine gd_ 7 ?_); refine bx_ 7 70 #[iv_ 0, iv_ 0, iv_ 0] ?_; intro h1 hg k7 hbox hb; refine sh9_ (blk_below (bk_ j) hb) (blk_below (bk_ m) hb) (below_step (bl2_ HB x z) hb) hbox (ge_ hg (bl2_ HB x z)) (nl_ hg (bk_ j)) (ng_ hg (bk_ j)) (nl_ hg (bk_ m)) (ng_ hg (bk_ m)) ?_; clear j m HB hb hbox hg; intro j m HB b7 d5 g4 g6 g5 g7; have j2 := g6.out; have j7 := g4.out; have j3 := g7.out; have j8 := g5.out; have i4 := cf3_ b7) | ((with_reducible refine gate_callee (f := 94) rfl ?_); refine goesL_ (some 41) rfl rfl Tryz.func94 (by kernel_rfl) rfl #[.agg #[iv_ 0, iv_ ((rd_T70 s (ji18)).f1), iv_ ((rd_T70 s (ji18)).f2), iv_ 0], iv_ U] rfl (by (try simp only [List.map_toArray, List.map_cons, List.map_nil]); first | done | (simp only [hji18]; rfl) | rfl | (simp only [List.length_drop, List.length_take]; rfl)) ?_; (with_reducible refine (spec_PlaceAt.calls 0 ((rd_T70 s (ji18)).f1) ((rd_T70 s (ji18)).f2) 0 U a7 _ g2.out).mono ?_); rintro e k8 ⟨rfl, hb⟩; refine ⟨_, rfl, sh4_ (blk_below (g := b0) (o := .cells #[iv_ B, .slice O l.length X, .slice (some g8) s.length Y, iv_ D, iv_ E, iv_ G, iv_ I, iv_ J, .slice T y.length Z, iv_ L] 34 (0, 0)) (bp_ j) hb) (blk_below (g := a0) (o := .cells #[iv_ 0, iv_ 0] 74 (0, 0)) (bp_ m) hb) (blk_below (g := h1) (o := .cells #[iv_ ((rd_T70 s (ji18)).f0), iv_ ((rd_T70 s (ji18)).f1), iv_ ((rd_T70 s (ji18)).f2)] 70 (0, 0)) (bp_ b7) hb) (below_step (bl3_ HB x z d5) hb) ?_⟩; clear j m b7 HB hb; intro j m b7 HB; have i5 := cf2_ m))
   refine bodyPost_ret (results_cell_row rfl _ _ a0 74 #[iv_ a7, iv_ 0] (0, 0) _ rfl (bp_ m) Tryz.underlying74 rfl (by kernel_rfl)) rfl ?_
   exact ⟨by first | rfl | (simp [errW_none, errW_some] <;> rfl) | (simp only [← hji18]; first | rfl | (simp [errW_none, errW_some] <;> rfl)) | (simp [*, errW_none, errW_some] <;> rfl), bl3_ HB x z d5⟩
  ·replace b8 := Bool.eq_false_iff.mpr b8
   subst b8
   have M : (some (0, 0)) = some (r1, r2) := by rw [if_neg (show ¬ (false = true) by decide)] at H; exact H
   clear H
   have H := M
   clear M
   simp only [Option.some.injEq, Prod.mk.injEq] at H
   obtain ⟨rfl, rfl⟩ := H
   go_enter Tryz.func82, Tryz.ntmps82
   go_wp2_with (first | ((with_reducible refine gd_ 3 ?_); refine bx_ 3 34 #[iv_ B, .slice O l.length X, .slice a3 s.length Y, iv_ D, iv_ E, iv_ G, iv_ I, iv_ J, .slice T y.length Z, iv_ L] ?_; intro b0 hg k9 hbox hb; refine sh3_ (below_step (bl_ HB) hb) hbox (ge_ hg (bl_ HB)) ?_; clear HB hb hbox hg; intro HB j x) | ((with_reducible refine gd_ 6 ?_); refine bx_ 6 74 #[iv_ 0, iv_ 0] ?_; intro a0 hg b3 hbox hb; refine sh6_ (blk_below (bk_ j) hb) (below_step (bl1_ HB x) hb) hbox (ge_ hg (bl1_ HB x)) (nl_ hg (bk_ j)) (ng_ hg (bk_ j)) ?_; clear j HB hb hbox hg; intro j HB m z b4 b5; have j4 := b4.out; have j9 := b5.out; have i6 := cf10_ j) | ((with_reducible refine gate_callee (f := 40) rfl ?_); refine gl_ 13 Tryz.func40 (spec_l1In.calls u 0 (wrap64 ((l.length : Int) - 1)) false _ A4.out) ?_; rintro e w' ⟨rfl, ⟨nd, rfl⟩⟩; refine ⟨_, rfl, ?_⟩; (try (rw [drewN_self b3]; generalize hq_ : World.drewN b3 _ = b3; have a4 : Aside0 (b3.heap[b0]? = some (.cells #[iv_ B, .slice O l.length X, .slice a3 s.length Y, iv_ D, iv_ E, iv_ G, iv_ I, iv_ J, .slice T y.length Z, iv_ L] 34 (0, 0))) := ⟨by rw [← hq_]; exact (bk_ j)⟩; have a5 : Aside0 (b3.heap[a0]? = some (.cells #[iv_ 0, iv_ 0] 74 (0, 0))) := ⟨by rw [← hq_]; exact (bk_ m)⟩; have a6 : Aside0 (Below w.heap.size w b3) := ⟨by rw [← hq_]; exact (bl2_ HB x z)⟩; clear j m HB hq_; have j := a4; have m := a5; have HB := a6; clear a4 a5 a6)); have i7 := cf10_ j) | ((with_reducible refine gate_callee (f := 93) rfl ?_); refine gl_ 23 Tryz.func93 (spec_IsSite.calls B _ _ l _ _ s D E G I J _ _ y L u false _ (ck_ c0 HB) d6.out (ck_ c1 HB) d7.out (ck_ d9 HB) d8.out b9.out) ?_; rintro e l0 ⟨rfl, hb⟩; refine ⟨_, rfl, sh3_ (blk_below (bk_ j) hb) (blk_below (bk_ m) hb) (below_step (bl2_ HB x z) hb) ?_⟩; clear j m HB hb; intro j m HB; have i8 := cf2_ m))
   refine bodyPost_ret (results_cell_row rfl _ _ a0 74 #[iv_ 0, iv_ 0] (0, 0) _ rfl (bp_ m) Tryz.underlying74 rfl (by kernel_rfl)) rfl ?_
   exact ⟨er_, bl2_ HB x z⟩

/-! ### spec_PlaneOf: function 102 -/
def spec_PlaneOf.f (s : Int) (l : List S68) (m : List S70) (u x y z B : Int) (E : List S76) (D j : Int) : Option (Int) := (spec_l1In.f j 0 (wrap64 ((l.length : Int) - 1))).bind fun G => (if G = true then (if 0 ≤ j then (if j < (l.length : Int) then (some ((rd_T68 l j).f0)) else (none)) else (none)) else ((spec_IsSite.f s l m u x y z B E D j).bind fun I => (if I = true then (if 0 ≤ (wrap64 (j - (l.length : Int))) then (if (wrap64 (j - (l.length : Int))) < (m.length : Int) then (some ((rd_T70 m (wrap64 (j - (l.length : Int)))).f0)) else (none)) else (none)) else (some (-1)))))
theorem spec_PlaneOf.calls (y : Int) (J : Option Addr) (O : Nat) (j : List S68) (L : Option Addr) (T : Nat) (m : List S70) (z B D E G : Int) (M : Option Addr) (U : Nat) (u : List S76) (I l r : Int) (w : World) (b8 : Kd.C k68 w J j.length j) (b5 : j.length ≤ O) (b9 : Kd.C k70 w L m.length m) (b6 : m.length ≤ T) (c0 : Kd.C k76 w M u.length u) (b7 : u.length ≤ U) (h : spec_PlaneOf.f y j m z B D E G u I l = some r) :
  Calls Tryz.prog 102 #[.agg #[iv_ y, .slice J j.length O, .slice L m.length T, iv_ z, iv_ B, iv_ D, iv_ E, iv_ G, .slice M u.length U, iv_ I], iv_ l] w fun e w' => e = .returned (iv_ r) ∧ Below w.heap.size w w' := by
 have f1 := Tryz.underlying34
 have a0 := Aside0.mk b8
 have a8 := Aside0.mk b5
 clear b8 b5
 have a2 := Aside0.mk b9
 have a9 := Aside0.mk b6
 clear b9 b6
 have b1 := Aside0.mk c0
 have b0 := Aside0.mk b7
 clear c0 b7
 have HB := Aside0.mk (Below.refl w.heap.size w)
 have H := h
 clear h
 unfold spec_PlaneOf.f at H
 replace H := bs_ H
 obtain ⟨d8, Y, H⟩ := H
 by_cases c4 : d8 = true
 ·subst c4
  rw [if_pos rfl] at H
  replace H := ifn_ H
  obtain ⟨c5, H⟩ := H
  have e3 := decide_eq_true c5
  clear c5
  replace H := ifn_ H
  obtain ⟨c6, H⟩ := H
  have e4 := decide_eq_true c6
  clear c6
  obtain rfl := Option.some.inj H
  go_enter Tryz.func102, Tryz.ntmps102
  go_wp2_with (first | ((with_reducible refine gd_ 2 ?_); refine bx_ 2 34 #[iv_ y, .slice J j.length O, .slice L m.length T, iv_ z, iv_ B, iv_ D, iv_ E, iv_ G, .slice M u.length U, iv_ I] ?_; intro b4 hg w7 hbox hb; refine sh3_ (below_step (bl_ HB) hb) hbox (ge_ hg (bl_ HB)) ?_; clear HB hb hbox hg; intro HB x s; have e8 := cf10_ x) | ((with_reducible refine gate_callee (f := 40) rfl ?_); refine gl_ 10 Tryz.func40 (spec_l1In.calls l 0 (wrap64 ((j.length : Int) - 1)) true _ Y.out) ?_; rintro e w' ⟨rfl, ⟨nd, rfl⟩⟩; refine ⟨_, rfl, ?_⟩; have a3 : 0 ≤ (l : Int) := od_; have a5 : l < (j.length : Int) := od_; obtain ⟨d9, d6, c1, d0, d1, d2⟩ := at_T68 a0.out l a3 a5; cases d6; replace c1 := hbc_ HB c1; replace d0 := hbc_ HB d0; replace d1 := hbc_ HB d1; replace d2 := hbc_ HB d2; replace a3 := eq_true a3; replace a5 := eq_true a5))
  go_ret
  exact ⟨er_, bl1_ HB s⟩
 ·replace c4 := Bool.eq_false_iff.mpr c4
  subst c4
  have X : ((spec_IsSite.f y j m z B D E G u I l).bind fun a7 => (if a7 = true then (if 0 ≤ (wrap64 (l - (j.length : Int))) then (if (wrap64 (l - (j.length : Int))) < (m.length : Int) then (some ((rd_T70 m (wrap64 (l - (j.length : Int)))).f0)) else (none)) else (none)) else (some (-1)))) = some r := by rw [if_neg (show ¬ (false = true) by decide)] at H; exact H
  clear H
  have H := X
  clear X
  replace H := bs_ H
  obtain ⟨a7, Z, H⟩ := H
  by_cases c10 : a7 = true
  ·subst c10
   rw [if_pos rfl] at H
   obtain ⟨ji11, hji11⟩ : ∃ j_ : Int, (wrap64 (l - (j.length : Int))) = j_ := ⟨_, rfl⟩
   replace H : (if 0 ≤ (ji11) then (if (ji11) < (m.length : Int) then (some ((rd_T70 m (ji11)).f0)) else (none)) else (none)) = some r := by first | (rw [hji11] at H; exact H) | (simp only [hji11] at H ⊢; exact H)
   (try rw [hji11] at Y)
   (try rw [hji11] at Z)
   have e9 : (IntKind.i64.wrap (l - (j.length : Int))) = ji11 := (i64_w _).trans hji11
   replace H := ifn_ H
   obtain ⟨b2, H⟩ := H
   have e1 := decide_eq_true b2
   clear b2
   replace H := ifn_ H
   obtain ⟨b3, H⟩ := H
   have e2 := decide_eq_true b3
   clear b3
   obtain rfl := Option.some.inj H
   go_enter Tryz.func102, Tryz.ntmps102
   go_wp2_with (first | ((with_reducible refine gd_ 2 ?_); refine bx_ 2 34 #[iv_ y, .slice J j.length O, .slice L m.length T, iv_ z, iv_ B, iv_ D, iv_ E, iv_ G, .slice M u.length U, iv_ I] ?_; intro b4 hg f2 hbox hb; refine sh3_ (below_step (bl_ HB) hb) hbox (ge_ hg (bl_ HB)) ?_; clear HB hb hbox hg; intro HB x s; have e5 := cf10_ x) | ((with_reducible refine gate_callee (f := 40) rfl ?_); refine gl_ 10 Tryz.func40 (spec_l1In.calls l 0 (wrap64 ((j.length : Int) - 1)) false _ Y.out) ?_; rintro e w' ⟨rfl, ⟨nd, rfl⟩⟩; refine ⟨_, rfl, ?_⟩) | ((with_reducible refine gate_callee (f := 93) rfl ?_); refine goesL_ (some 19) rfl rfl Tryz.func93 (by kernel_rfl) rfl #[.agg #[iv_ y, .slice J j.length O, .slice L m.length T, iv_ z, iv_ B, iv_ D, iv_ E, iv_ G, .slice M u.length U, iv_ I], iv_ l] rfl mp_ ?_; (with_reducible refine (spec_IsSite.calls y _ _ j _ _ m z B D E G _ _ u I l true _ ?side1 ?side2 ?side3 ?side4 ?side5 ?side6 Z.out).mono ?_); (case side1 => repeat (first | exact (Kd.C_below a0.out (bl1_ HB s)) | (with_reducible refine Kd.C_alloc ?_ _) | (with_reducible refine Kd.C_drewN ?_ _) | (with_reducible refine Kd.C_drew ?_))); (case side2 => exact a8.out); (case side3 => repeat (first | exact (Kd.C_below a2.out (bl1_ HB s)) | (with_reducible refine Kd.C_alloc ?_ _) | (with_reducible refine Kd.C_drewN ?_ _) | (with_reducible refine Kd.C_drew ?_))); (case side4 => exact a9.out); (case side5 => repeat (first | exact (Kd.C_below b1.out (bl1_ HB s)) | (with_reducible refine Kd.C_alloc ?_ _) | (with_reducible refine Kd.C_drewN ?_ _) | (with_reducible refine Kd.C_drew ?_))); (case side6 => exact b0.out); rintro e f3 ⟨rfl, hb⟩; refine ⟨_, rfl, sh2_ (blk_below (bk_ x) hb) (below_step (bl1_ HB s) hb) ?_⟩; clear x HB hb; intro x HB; have e6 := cf10_ x; have a4 : 0 ≤ ((ji11) : Int) := od_; have a6 : (ji11) < (m.length : Int) := od_; obtain ⟨e0, d7, d3, d4, d5⟩ := at_T70 a2.out (ji11) a4 a6; cases d7; replace d3 := hbc_ HB d3; replace d4 := hbc_ HB d4; replace d5 := hbc_ HB d5; replace a4 := eq_true a4; replace a6 := eq_true a6))
   go_ret
   exact ⟨by first | rfl | (simp [errW_none, errW_some] <;> rfl) | (simp only [← hji11]; first | rfl | (simp [errW_none, errW_some] <;> rfl)) | (simp [*, errW_none, errW_some] <;> rfl), bl1_ HB s⟩
  ·replace c10 := Bool.eq_false_iff.mpr c10
   subst c10
   have X : (some (-1)) = some r := by rw [if_neg (show ¬ (false = true) by decide)] at H; exact H
   clear H
   have H := X
   clear X
   obtain rfl := Option.some.inj H
   go_enter Tryz.func102, Tryz.ntmps102
   go_wp2_with (first | ((with_reducible refine gd_ 2 ?_); refine bx_ 2 34 #[iv_ y, .slice J j.length O, .slice L m.length T, iv_ z, iv_ B, iv_ D, iv_ E, iv_ G, .slice M u.length U, iv_ I] ?_; intro b4 hg f4 hbox hb; refine sh3_ (below_step (bl_ HB) hb) hbox (ge_ hg (bl_ HB)) ?_; clear HB hb hbox hg; intro HB x s; have e7 := cf10_ x) | ((with_reducible refine gate_callee (f := 40) rfl ?_); refine gl_ 10 Tryz.func40 (spec_l1In.calls l 0 (wrap64 ((j.length : Int) - 1)) false _ Y.out) ?_; rintro e w' ⟨rfl, ⟨nd, rfl⟩⟩; refine ⟨_, rfl, ?_⟩) | ((with_reducible refine gate_callee (f := 93) rfl ?_); refine goesL_ (some 19) rfl rfl Tryz.func93 (by kernel_rfl) rfl #[.agg #[iv_ y, .slice J j.length O, .slice L m.length T, iv_ z, iv_ B, iv_ D, iv_ E, iv_ G, .slice M u.length U, iv_ I], iv_ l] rfl mp_ ?_; (with_reducible refine (spec_IsSite.calls y _ _ j _ _ m z B D E G _ _ u I l false _ ?side1 ?side2 ?side3 ?side4 ?side5 ?side6 Z.out).mono ?_); (case side1 => repeat (first | exact (Kd.C_below a0.out (bl1_ HB s)) | (with_reducible refine Kd.C_alloc ?_ _) | (with_reducible refine Kd.C_drewN ?_ _) | (with_reducible refine Kd.C_drew ?_))); (case side2 => exact a8.out); (case side3 => repeat (first | exact (Kd.C_below a2.out (bl1_ HB s)) | (with_reducible refine Kd.C_alloc ?_ _) | (with_reducible refine Kd.C_drewN ?_ _) | (with_reducible refine Kd.C_drew ?_))); (case side4 => exact a9.out); (case side5 => repeat (first | exact (Kd.C_below b1.out (bl1_ HB s)) | (with_reducible refine Kd.C_alloc ?_ _) | (with_reducible refine Kd.C_drewN ?_ _) | (with_reducible refine Kd.C_drew ?_))); (case side6 => exact b0.out); rintro e f5 ⟨rfl, hb⟩; refine ⟨_, rfl, sh2_ (blk_below (bk_ x) hb) (below_step (bl1_ HB s) hb) ?_⟩; clear x HB hb; intro x HB))
   go_ret
   exact ⟨er_, bl1_ HB s⟩

/-! ### spec_l7Near: function 103 -/
def spec_l7Near.f (u : Int) (G : List S68) (I : List S70) (x y z B D : Int) (J : List S76) (E m s : Int) : Option (Bool) := (spec_Min.f m s).bind fun j => ((spec_Max.f m s).bind fun l => (if j ≥ 0 then (if l > j then (if (wrap64 (l - j)) = 1 then (some true) else (if j = 0 then (if l ≤ 4 then (some ((wrap64 (l + 1)) == u)) else (some false)) else (some false))) else (some false)) else (some false)))
theorem spec_l7Near.calls (G : Int) (B : Option Addr) (U : Nat) (u : List S68) (D : Option Addr) (X : Nat) (x : List S70) (I J L M O : Int) (E : Option Addr) (Y : Nat) (y : List S76) (T j l : Int) (r : Bool) (w : World) (a9 : Kd.C k68 w B u.length u) (a6 : u.length ≤ U) (b0 : Kd.C k70 w D x.length x) (a7 : x.length ≤ X) (b1 : Kd.C k76 w E y.length y) (a8 : y.length ≤ Y) (h : spec_l7Near.f G u x I J L M O y T j l = some r) :
  Calls Tryz.prog 103 #[.agg #[iv_ G, .slice B u.length U, .slice D x.length X, iv_ I, iv_ J, iv_ L, iv_ M, iv_ O, .slice E y.length Y, iv_ T], iv_ j, iv_ l] w fun e w' => e = .returned (.bool r) ∧ Below w.heap.size w w' := by
 have d4 := Tryz.underlying34
 have d0 := Aside0.mk a9
 have b9 := Aside0.mk a6
 clear a9 a6
 have d1 := Aside0.mk b0
 have c0 := Aside0.mk a7
 clear b0 a7
 have d2 := Aside0.mk b1
 have c1 := Aside0.mk a8
 clear b1 a8
 have HB := Aside0.mk (Below.refl w.heap.size w)
 have H := h
 clear h
 unfold spec_l7Near.f at H
 replace H := bs_ H
 obtain ⟨m, Z, H⟩ := H
 replace H := bs_ H
 obtain ⟨z, A5, H⟩ := H
 by_cases c6 : m ≥ 0
 ·rw [if_pos c6] at H
  have b5 : decide (0 ≤ m) = true := decide_eq_true c6
  clear c6
  by_cases c7 : z > m
  ·rw [if_pos c7] at H
   have b6 : decide (m < z) = true := decide_eq_true c7
   clear c7
   by_cases c8 : (wrap64 (z - m)) = 1
   ·rw [if_pos c8] at H
    obtain ⟨b7, b8⟩ := bt_ c8
    clear c8
    obtain rfl := Option.some.inj H
    go_enter Tryz.func103, Tryz.ntmps103
    go_wp2_with (first | ((with_reducible refine gd_ 3 ?_); refine bx_ 3 34 #[iv_ G, .slice B u.length U, .slice D x.length X, iv_ I, iv_ J, iv_ L, iv_ M, iv_ O, .slice E y.length Y, iv_ T] ?_; intro a5 hg w9 hbox hb; refine sh3_ (below_step (bl_ HB) hb) hbox (ge_ hg (bl_ HB)) ?_; clear HB hb hbox hg; intro HB a3 s) | ((with_reducible refine gate_callee (f := 22) rfl ?_); refine gl_ 11 Tryz.func22 (spec_Min.calls j l m _ Z.out) ?_; rintro e w' ⟨rfl, ⟨nd, rfl⟩⟩; refine ⟨_, rfl, ?_⟩) | ((with_reducible refine gate_callee (f := 23) rfl ?_); refine gl_ 14 Tryz.func23 (spec_Max.calls j l z _ A5.out) ?_; rintro e w' ⟨rfl, ⟨nd, rfl⟩⟩; refine ⟨_, rfl, ?_⟩))
    go_ret
    exact ⟨er_, bl1_ HB s⟩
   ·rw [if_neg c8] at H
    obtain ⟨b7, b8⟩ := bn_ c8
    by_cases c10 : m = 0
    ·rw [if_pos c10] at H
     obtain ⟨b2, b3⟩ := bt_ c10
     clear c10
     by_cases a4 : z ≤ 4
     ·rw [if_pos a4] at H
      have b4 := decide_eq_true a4
      clear a4
      obtain rfl := Option.some.inj H
      go_enter Tryz.func103, Tryz.ntmps103
      go_wp2_with (first | ((with_reducible refine gd_ 3 ?_); refine bx_ 3 34 #[iv_ G, .slice B u.length U, .slice D x.length X, iv_ I, iv_ J, iv_ L, iv_ M, iv_ O, .slice E y.length Y, iv_ T] ?_; intro a5 hg d5 hbox hb; refine sh3_ (below_step (bl_ HB) hb) hbox (ge_ hg (bl_ HB)) ?_; clear HB hb hbox hg; intro HB a3 s) | ((with_reducible refine gate_callee (f := 22) rfl ?_); refine gl_ 11 Tryz.func22 (spec_Min.calls j l m _ Z.out) ?_; rintro e w' ⟨rfl, ⟨nd, rfl⟩⟩; refine ⟨_, rfl, ?_⟩) | ((with_reducible refine gate_callee (f := 23) rfl ?_); refine gl_ 14 Tryz.func23 (spec_Max.calls j l z _ A5.out) ?_; rintro e w' ⟨rfl, ⟨nd, rfl⟩⟩; refine ⟨_, rfl, ?_⟩; have d3 := cf10_ a3))
      go_ret
      exact ⟨er_, bl1_ HB s⟩
     ·rw [if_neg a4] at H
      have b4 := decide_eq_false a4
      clear a4
      obtain rfl := Option.some.inj H
      go_enter Tryz.func103, Tryz.ntmps103
      go_wp2_with (first | ((with_reducible refine gd_ 3 ?_); refine bx_ 3 34 #[iv_ G, .slice B u.length U, .slice D x.length X, iv_ I, iv_ J, iv_ L, iv_ M, iv_ O, .slice E y.length Y, iv_ T] ?_; intro a5 hg d6 hbox hb; refine sh3_ (below_step (bl_ HB) hb) hbox (ge_ hg (bl_ HB)) ?_; clear HB hb hbox hg; intro HB a3 s) | ((with_reducible refine gate_callee (f := 22) rfl ?_); refine gl_ 11 Tryz.func22 (spec_Min.calls j l m _ Z.out) ?_; rintro e w' ⟨rfl, ⟨nd, rfl⟩⟩; refine ⟨_, rfl, ?_⟩) | ((with_reducible refine gate_callee (f := 23) rfl ?_); refine gl_ 14 Tryz.func23 (spec_Max.calls j l z _ A5.out) ?_; rintro e w' ⟨rfl, ⟨nd, rfl⟩⟩; refine ⟨_, rfl, ?_⟩))
      go_ret
      exact ⟨er_, bl1_ HB s⟩
    ·rw [if_neg c10] at H
     obtain ⟨b2, b3⟩ := bn_ c10
     obtain rfl := Option.some.inj H
     go_enter Tryz.func103, Tryz.ntmps103
     go_wp2_with (first | ((with_reducible refine gd_ 3 ?_); refine bx_ 3 34 #[iv_ G, .slice B u.length U, .slice D x.length X, iv_ I, iv_ J, iv_ L, iv_ M, iv_ O, .slice E y.length Y, iv_ T] ?_; intro a5 hg d7 hbox hb; refine sh3_ (below_step (bl_ HB) hb) hbox (ge_ hg (bl_ HB)) ?_; clear HB hb hbox hg; intro HB a3 s) | ((with_reducible refine gate_callee (f := 22) rfl ?_); refine gl_ 11 Tryz.func22 (spec_Min.calls j l m _ Z.out) ?_; rintro e w' ⟨rfl, ⟨nd, rfl⟩⟩; refine ⟨_, rfl, ?_⟩) | ((with_reducible refine gate_callee (f := 23) rfl ?_); refine gl_ 14 Tryz.func23 (spec_Max.calls j l z _ A5.out) ?_; rintro e w' ⟨rfl, ⟨nd, rfl⟩⟩; refine ⟨_, rfl, ?_⟩))
     go_ret
     exact ⟨er_, bl1_ HB s⟩
  ·rw [if_neg c7] at H
   have b6 : decide (m < z) = false := decide_eq_false c7
   clear c7
   obtain rfl := Option.some.inj H
   go_enter Tryz.func103, Tryz.ntmps103
   go_wp2_with (first | ((with_reducible refine gd_ 3 ?_); refine bx_ 3 34 #[iv_ G, .slice B u.length U, .slice D x.length X, iv_ I, iv_ J, iv_ L, iv_ M, iv_ O, .slice E y.length Y, iv_ T] ?_; intro a5 hg d8 hbox hb; refine sh3_ (below_step (bl_ HB) hb) hbox (ge_ hg (bl_ HB)) ?_; clear HB hb hbox hg; intro HB a3 s) | ((with_reducible refine gate_callee (f := 22) rfl ?_); refine gl_ 11 Tryz.func22 (spec_Min.calls j l m _ Z.out) ?_; rintro e w' ⟨rfl, ⟨nd, rfl⟩⟩; refine ⟨_, rfl, ?_⟩) | ((with_reducible refine gate_callee (f := 23) rfl ?_); refine gl_ 14 Tryz.func23 (spec_Max.calls j l z _ A5.out) ?_; rintro e w' ⟨rfl, ⟨nd, rfl⟩⟩; refine ⟨_, rfl, ?_⟩))
   go_ret
   exact ⟨er_, bl1_ HB s⟩
 ·rw [if_neg c6] at H
  have b5 : decide (0 ≤ m) = false := decide_eq_false c6
  clear c6
  obtain rfl := Option.some.inj H
  go_enter Tryz.func103, Tryz.ntmps103
  go_wp2_with (first | ((with_reducible refine gd_ 3 ?_); refine bx_ 3 34 #[iv_ G, .slice B u.length U, .slice D x.length X, iv_ I, iv_ J, iv_ L, iv_ M, iv_ O, .slice E y.length Y, iv_ T] ?_; intro a5 hg d9 hbox hb; refine sh3_ (below_step (bl_ HB) hb) hbox (ge_ hg (bl_ HB)) ?_; clear HB hb hbox hg; intro HB a3 s) | ((with_reducible refine gate_callee (f := 22) rfl ?_); refine gl_ 11 Tryz.func22 (spec_Min.calls j l m _ Z.out) ?_; rintro e w' ⟨rfl, ⟨nd, rfl⟩⟩; refine ⟨_, rfl, ?_⟩) | ((with_reducible refine gate_callee (f := 23) rfl ?_); refine gl_ 14 Tryz.func23 (spec_Max.calls j l z _ A5.out) ?_; rintro e w' ⟨rfl, ⟨nd, rfl⟩⟩; refine ⟨_, rfl, ?_⟩))
  go_ret
  exact ⟨er_, bl1_ HB s⟩

end Go.Proofs.YtpjhdehbikohmaaGreat.PFnExactPlanOf
