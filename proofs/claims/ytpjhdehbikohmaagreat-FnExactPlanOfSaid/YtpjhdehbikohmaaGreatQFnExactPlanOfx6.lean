-- Written by a program of this session for this claim (the kit's printer with changes).
import Derived.Test.YtpjhdehbikohmaaGreatQFnExactPlanOfx0
import Derived.Test.YtpjhdehbikohmaaGreatQFnExactPlanOfx3
import Derived.Test.YtpjhdehbikohmaaGreatQFnExactPlanOfx5
namespace Go.Proofs.YtpjhdehbikohmaaGreat.PFnExactPlanOf
open Go.RowKit Go.Proofs.YtpjhdehbikohmaaGreatW.PrintWords Go.Proofs.YtpjhdehbikohmaaGreatW.PrintLast Go.Proofs.YtpjhdehbikohmaaGreatW.PrintMore
attribute [local go_sem] max2_int min2_int max_two min_two max_three min_three max_four min_four   -- for this text's walks alone
set_option linter.unusedVariables false
set_option maxHeartbeats 8000000
set_option maxRecDepth 100000
set_option linter.unusedSimpArgs false

/-! ### spec_ShortenSpans: function 20 -/
mutual
def spec_ShortenSpans.j0 : Nat → List S52 → Int → Int → List S52 → Bool → Option (List S52)
 | 0, _, _, _, _, _ => none
 | k + 1, D, s, u, l, E => if E = true then (some l) else ((spec_JoinSpans.f k D).bind fun z => (spec_ShortenSpans.l0 k s u l z 0))
def spec_ShortenSpans.l0 : Nat → Int → Int → List S52 → List S52 → Int → Option (List S52)
 | 0, _, _, _, _, _ => none
 | k + 1, s, u, l, m, j => if j < (m.length : Int) then (if 0 ≤ j then ((spec_Min.f s 1000).bind fun x => ((spec_Min.f u 1000).bind fun y => ((spec_IsSpan.f (wrap64 (((rd_T52 m j).f0) + x)) (wrap64 (((rd_T52 m j).f1) - y))).bind fun B => (if B = true then (if l.length < 8796093022208 then (spec_ShortenSpans.l0 k s u (l ++ [(⟨wrap64 (((rd_T52 m j).f0) + x), wrap64 (((rd_T52 m j).f1) - y)⟩ : S52)]) m (wrap64 (j + 1))) else (none)) else (spec_ShortenSpans.l0 k s u l m (wrap64 (j + 1))))))) else (none)) else (some l)
end
def spec_ShortenSpans.f (k : Nat) (m : List S52) (j l : Int) : Option (List S52) := (some (([] : List S52) : List S52)).bind fun s => (if j < 0 then (spec_ShortenSpans.j0 k m j l s true) else (spec_ShortenSpans.j0 k m j l s (decide (l < 0))))
def spec_ShortenSpans.T8 : Bool × List (List Nat × List Nat) := (true, [([], []), ([], []), ([0, 1], [0, 1]), ([2], [2]), ([3], [3]), ([], []), ([5], [5]), ([4, 6], [4, 6]), ([], []), ([], []), ([8, 9], [8, 9]), ([10], [10]), ([11], [11]), ([], []), ([13, 6], [13]), ([12, 14], [12, 14]), ([7, 15], [7, 15]), ([], []), ([17, 16, 14, 0, 1, 2, 3, 4, 5, 6, 7, 8, 9, 10, 11, 12, 13, 14, 15, 16, 17], [16, 17])])
def spec_ShortenSpans.B8 : List Nat := [0, 0, 3, 7, 15, 0, 32, 127, 0, 0, 768, 1792, 3840, 0, 8288, 32608, 65535, 0, 262143]
theorem spec_ShortenSpans.tab8 : rtab .any (opsOf Tryz.f20 8) = spec_ShortenSpans.T8 := by kernel_rfl
theorem spec_ShortenSpans.bits8 : waitsOk spec_ShortenSpans.T8.2 spec_ShortenSpans.B8 = true := by kernel_rfl
theorem spec_ShortenSpans.calls (k : Nat) (A0 : Option Addr) (c0 : Nat) (X : List S52) (I G : Int) (r : List S52) (w : World) (g2 : Kd.C k52 w A0 X.length X) (g1 : X.length ≤ c0) (h : spec_ShortenSpans.f k X I G = some r) :
  Calls Tryz.prog 20 #[.slice A0 X.length c0, iv_ I, iv_ G] w fun e w' => ∃ g3 : Value, e = .returned (g3) ∧ Kd.R k52 52 w' w.heap.size (fun _ => True) g3 r ∧ Below w.heap.size w w' := by
 have k1 := Tryz.underlying52
 have h2 := Aside0.mk g2
 have g9 := Aside0.mk g1
 clear g2 g1
 have HB := Aside0.mk (Below.refl w.heap.size w)
 have H := h
 clear h
 unfold spec_ShortenSpans.f at H
 replace H : ∃ y_ : List S52, Aside0 (y_ = (([] : List S52))) ∧ (if I < 0 then (spec_ShortenSpans.j0 k X I G y_ true) else (spec_ShortenSpans.j0 k X I G y_ (decide (G < 0)))) = some r := ⟨_, ⟨rfl⟩, yh_ H⟩
 obtain ⟨e6, f7, H⟩ := H
 have e7 := Aside0.mk H
 clear H
 go_enter Tryz.func20, Tryz.ntmps20
 go_upto_region 2 with (first | ((with_reducible refine gate_dst (N := 11) rfl ?_); refine Kd.R_lit k52 _ 52 ?hg (N := 11) ?hd (xs := ([] : List S52)) (inner := []) (ok := fun _ => True) (okp := fun _ => True) ?hr ?hp (fun _ hk => hk) trivial (Below.refl _ _) (Nat.le_refl _) (by simp) ?_; (case hd => rfl); (case hg => rfl); (case hr => first | (go_simp; done) | (go_simp; rfl)); (case hp => exact (Reps.none _ _)); intro i1 w5 b8 hb hg_ hnew_; clear hg_ hnew_; (first | rw [← f7.out] at b8 | (simp only [Int.reduceToNat] at b8; rw [← f7.out] at b8)); refine sh2_ (Kd.R_lower b8 (below_size (bl_ HB))) (below_step (bl_ HB) hb) ?_; clear HB hb b8; intro f6 HB))
 (try simp only [Act.put, List.setIfInBounds_toArray, List.set_cons_zero, List.set_cons_succ])
 go_cut [17] (fun i0 wc => ∃ (kq : Nat) (e5 : Bool), i0 = .bool e5 ∧ Aside0 (spec_ShortenSpans.j0 kq X I G e6 e5 = some r) ∧ Aside0 (kq ≤ k) ∧ Aside0 (Kd.R k52 52 wc w.heap.size (fun _ => True) i1 e6) ∧ Aside0 (Below w.heap.size w wc))
 case first =>
  have H := e7.out
  clear e7
  by_cases c7 : I < 0
  ·rw [if_pos c7] at H
   have b0 := decide_eq_true c7
   clear c7
   (first | rw [b0] | (simp only [i64_w, i32_w]; rw [b0]) | skip)
   have H' := Aside0.mk H
   clear H
   go_wp2
   go_meet
   case rel => exact ⟨_, (true), (by first | rfl | (simp; done) | (simp [*]; done)), H', ⟨by first | omega | exact Nat.le_refl _⟩, ⟨ra_ f6⟩, ⟨bl_ HB⟩⟩
  ·rw [if_neg c7] at H
   have b0 := decide_eq_false c7
   clear c7
   (first | rw [b0] | (simp only [i64_w, i32_w]; rw [b0]) | skip)
   have H' := Aside0.mk H
   clear H
   go_wp2
   go_meet
   case rel => exact ⟨_, (decide (G < 0)), (by first | rfl | (simp; done) | (simp [*]; done)), H', ⟨by first | omega | exact Nat.le_refl _⟩, ⟨ra_ f6⟩, ⟨bl_ HB⟩⟩
 case rest =>
  clear e7
  obtain ⟨kq, e5, rfl, HA, e0, x, HB⟩ := hcut
  cases kq with
  | zero => exact absurd HA.out (by simp [spec_ShortenSpans.j0])
  | succ d2 =>
   have H := HA.out
   clear HA
   simp only [spec_ShortenSpans.j0] at H
   by_cases c8 : e5 = true
   ·subst c8
    rw [if_pos rfl] at H
    obtain rfl := Option.some.inj H
    go_wp2
    go_ret
    exact ⟨_, er_, ra_ x, bl_ HB⟩
   ·replace c8 := Bool.eq_false_iff.mpr c8
    subst c8
    have H1 : ((spec_JoinSpans.f d2 X).bind fun s => (spec_ShortenSpans.l0 d2 I G e6 s 0)) = some r := by rw [if_neg (show ¬ (false = true) by decide)] at H; exact H
    clear H
    have H := H1
    clear H1
    replace H := bs_ H
    obtain ⟨s, A9, H⟩ := H
    have H' := Aside0.mk H
    clear H
    go_wp2_with (first | ((with_reducible refine gate_callee (f := 43) rfl ?_); refine gl_ 20 Tryz.func43 (spec_JoinSpans.calls d2 _ _ X s _ (ck_ h2 HB) g9.out A9.out) ?_; rintro e k4 ⟨g4, rfl, f3, hb⟩; refine ⟨_, rfl, sh3_ (Kd.R_elder' (ra_ x) (Kd.R_base f3) hb) (Kd.R_lower (Kd.R_new' f3 (Kd.R_lt (ra_ x))) (below_size (bl_ HB))) (below_step (bl_ HB) hb) ?_⟩; clear x HB hb f3; intro x h0 HB))
    go_loopg [7, 9] d2 (fun kq v7 v9 w' => ∃ (U : List S52) (m : Int), v9 = iv_ m ∧ Aside0 (spec_ShortenSpans.l0 kq I G U s m = some r) ∧ Aside0 (kq ≤ d2) ∧ Aside0 (Kd.R k52 52 w' w.heap.size (fun k_ => some k_ ≠ (g4 : Value).ownBlock) v7 U) ∧ Aside0 (Kd.R k52 52 w' w.heap.size (fun k_ => some k_ ≠ (v7 : Value).ownBlock) g4 s) ∧ Aside0 (Below w.heap.size w w'))
    case atStart => exact ⟨(e6), (0), (by first | rfl | (simp; done) | (simp [*]; done)), H', ⟨Nat.le_refl _⟩, ⟨by (with_reducible repeat (first | apply Kd.R_alloc | apply Kd.R_drewN | apply Kd.R_drew)); exact Kd.R_mono x.out (fun _ hk => hk.2)⟩, ⟨by (with_reducible repeat (first | apply Kd.R_alloc | apply Kd.R_drewN | apply Kd.R_drew)); exact Kd.R_mono h0.out (fun _ hk => hk.2)⟩, ⟨bl_ HB⟩⟩
    case round =>
     clear H'
     obtain ⟨U, m, rfl, HA, e1, x, l, HB⟩ := hrel
     cases gk with
     | zero => exact absurd HA.out (by simp [spec_ShortenSpans.l0])
     | succ k2 =>
      have H := HA.out
      clear HA
      simp only [spec_ShortenSpans.l0] at H
      by_cases a8 : m < (s.length : Int)
      ·rw [if_pos a8] at H
       have h5 := decide_eq_true a8
       clear a8
       replace H := ifn_ H
       obtain ⟨f9, H⟩ := H
       have i7 := decide_eq_true f9
       clear f9
       replace H := bs_ H
       obtain ⟨E, d9, H⟩ := H
       replace H := bs_ H
       obtain ⟨B, a7, H⟩ := H
       replace H := bs_ H
       obtain ⟨h9, f5, H⟩ := H
       by_cases e2 : h9 = true
       ·subst e2
        rw [if_pos rfl] at H
        replace H := ifn_ H
        obtain ⟨g0, H⟩ := H
        have h3 := Aside0.mk g0
        clear g0
        replace H : ∃ y_ : List S52, Aside0 (y_ = (U ++ [(⟨wrap64 (((rd_T52 s m).f0) + E), wrap64 (((rd_T52 s m).f1) - B)⟩ : S52)])) ∧ (spec_ShortenSpans.l0 k2 I G y_ s (wrap64 (m + 1))) = some r := ⟨_, ⟨rfl⟩, yh_ H⟩
        obtain ⟨i3, h4, H⟩ := H
        have H' := Aside0.mk H
        clear H
        obtain ⟨i4, b1, h6⟩ := Kd.R_slice l.out
        subst h6
        try go_wp2
        refine sh3_ (Kd.R_drew x.out) (Kd.R_drew l.out) (below_drew1 HB.out) ?_
        clear x l HB
        intro x l HB
        have a3 : 0 ≤ (m : Int) := od_
        have a5 : m < (s.length : Int) := od_
        obtain ⟨y, e9, b9, c1⟩ := at_T52 (Kd.R_reads' l.out).2.2 m a3 a5
        cases e9
        replace a3 := eq_true a3
        replace a5 := eq_true a5
        have a4 : 0 ≤ (m : Int) := od_
        have a6 : m < (s.length : Int) := od_
        obtain ⟨e8, f2, d0, d1⟩ := at_T52 (Kd.R_reads' l.out).2.2 m a4 a6
        obtain rfl : y = e8 := (by injection f2)
        replace a4 := eq_true a4
        replace a6 := eq_true a6
        refine start_ (n := 19) (S := fun w' => w'.cell? (y.add ((m).toNat * 2)) = some (iv_ ((rd_T52 s m).f0)) ∧ w'.cell? ⟨(y.add ((m).toNat * 2)).block, (y.add ((m).toNat * 2)).off + 1, none⟩ = some (iv_ ((rd_T52 s m).f1)) ∧ w'.cell? (y.add ((m).toNat * 2)) = some (iv_ ((rd_T52 s m).f0)) ∧ w'.cell? ⟨(y.add ((m).toNat * 2)).block, (y.add ((m).toNat * 2)).off + 1, none⟩ = some (iv_ ((rd_T52 s m).f1))) (ds := []) (bo_ 19 0) (by kernel_rfl) rfl rfl ⟨b9, c1, d0, d1⟩ (fun hHeld => ?_); refine with_tabW spec_ShortenSpans.tab8 spec_ShortenSpans.bits8 (fun HT_ HW_ => ?_)
        generalize wr.drew = k5 at x l HB b9 c1 d0 d1 hHeld ⊢
        refine pur_ 0 (bo_ 19 1) (some 27) HT_ ?_
        refine pur_ 1 (bo_ 19 3) (some 28) HT_ ?_
        refine pur_ 2 (bo_ 19 7) (some 29) HT_ ?_
        refine pur_ 3 (bo_ 19 15) (some 30) HT_ ?_
        refine pur_ 5 (bo_ 19 47) (some 32) HT_ ?_
        refine pur_ 8 (bo_ 19 303) (some 35) HT_ ?_
        refine pur_ 9 (bo_ 19 815) (some 36) HT_ ?_
        refine pur_ 10 (bo_ 19 1839) (some 37) HT_ ?_
        refine pur_ 11 (bo_ 19 3887) (some 38) HT_ ?_
        refine pur_ 13 (bo_ 19 12079) (some 40) HT_ ?_
        refine tak_ 4 (bo_ 19 12095) (some 31) HT_ HW_ hHeld ?_
        refine tak_ 12 (bo_ 19 16191) (some 39) HT_ HW_ hHeld ?_
        refine join_ (σ := Nat) 1 (bo_ 19 262143) (fun s_ => [(33, iv_ E), (41, iv_ B), (10, .pointer (some ⟨s_, 0, none⟩)), (34, iv_ (wrap64 (((rd_T52 s m).f0) + E))), (42, iv_ (wrap64 (((rd_T52 s m).f1) - B))), (43, .agg #[iv_ (wrap64 (((rd_T52 s m).f0) + E)), iv_ (wrap64 (((rd_T52 s m).f1) - B))])]) (fun s_ w' => (w'.cell? (y.add ((m).toNat * 2)) = some (iv_ ((rd_T52 s m).f0)) ∧ w'.cell? ⟨(y.add ((m).toNat * 2)).block, (y.add ((m).toNat * 2)).off + 1, none⟩ = some (iv_ ((rd_T52 s m).f1)) ∧ w'.cell? (y.add ((m).toNat * 2)) = some (iv_ ((rd_T52 s m).f0)) ∧ w'.cell? ⟨(y.add ((m).toNat * 2)).block, (y.add ((m).toNat * 2)).off + 1, none⟩ = some (iv_ ((rd_T52 s m).f1))) ∧ (Kd.R k52 52 w' w.heap.size (fun k_ => some k_ ≠ (.slice (some y) s.length b1 : Value).ownBlock ∧ k_ ≠ s_) u7 U) ∧ (Kd.R k52 52 w' w.heap.size (fun k_ => some k_ ≠ (u7 : Value).ownBlock ∧ k_ ≠ s_) (.slice (some y) s.length b1) s) ∧ (w'.heap[s_]? = some (.cells #[iv_ 0, iv_ 0] 52 (0, 0))) ∧ (w.heap.size ≤ s_) ∧ (w.heap.size ≤ s_) ∧ (Below w.heap.size w w')) ?_ ?_
        rotate_left
        ·intro hCont
         refine two_ (i := 6) (j := 17) (Ni := some 33) (Nj := some 10) (bo_ 19 16255) (bo_ 19 147263) rfl rfl rfl rfl (two_of HT_.out (by kernel_rfl)) (by decide) (by decide) (fun K hK => ?_) (fun K hK => ?_)
         ·skip
          refine goes_ Tryz.func22 (by kernel_rfl) rfl #[iv_ I, iv_ 1000] (by rfl) rfl rfl mp_ ?_
          with_reducible refine (spec_Min.calls I 1000 E _ d9.out).mono ?_
          rintro e w' ⟨rfl, ⟨nd, rfl⟩⟩
          refine ⟨_, rfl, ?_⟩
          refine hK.out _ _ ⟨hHeld.1, hHeld.2.1, hHeld.2.2.1, hHeld.2.2.2⟩ (fun hHeld => ?_)
          clear hK K
          refine norm_ (show Act.put _ (some 33) _ = _ from pt_) ?_
          refine pur_ 7 (bo_ 19 16383) (some 34) HT_ ?_
          refine two_ (i := 14) (j := 17) (Ni := some 41) (Nj := some 10) (bo_ 19 32767) (bo_ 19 147455) rfl rfl rfl rfl (two_of HT_.out (by kernel_rfl)) (by decide) (by decide) (fun K hK => ?_) (fun K hK => ?_)
          ·skip
           refine goes_ Tryz.func22 (by kernel_rfl) rfl #[iv_ G, iv_ 1000] (by rfl) rfl rfl mp_ ?_
           with_reducible refine (spec_Min.calls G 1000 B _ a7.out).mono ?_
           rintro e w' ⟨rfl, ⟨nd, rfl⟩⟩
           refine ⟨_, rfl, ?_⟩
           refine hK.out _ _ ⟨hHeld.1, hHeld.2.1, hHeld.2.2.1, hHeld.2.2.2⟩ (fun hHeld => ?_)
           clear hK K
           refine norm_ (show Act.put _ (some 41) _ = _ from pt_) ?_
           refine pur_ 15 (bo_ 19 65535) (some 42) HT_ ?_
           refine pur_ 16 (bo_ 19 131071) (some 43) HT_ ?_
           refine one_ (i := 17) (N := some 10) (bo_ 19 262143) rfl rfl (one_of HT_.out (by kernel_rfl)) (by decide) (fun K hK => ?_)
           refine bxs_ 10 52 #[iv_ 0, iv_ 0] ?_
           intro u hg g6 hbox hb
           have L := (hb.cell (World.block_lt_of_cell? _ _ (hHeld.1))).trans (hHeld.1)
           have M := (hb.cell (World.block_lt_of_cell? _ _ (hHeld.2.1))).trans (hHeld.2.1)
           have O := (hb.cell (World.block_lt_of_cell? _ _ (hHeld.2.2.1))).trans (hHeld.2.2.1)
           have T := (hb.cell (World.block_lt_of_cell? _ _ (hHeld.2.2.2))).trans (hHeld.2.2.2)
           refine sh6_ (Kd.R_below (Kd.R_elderB (ra_ x) u (Nat.le_of_eq hg.symm)) hb) (Kd.R_below (Kd.R_elderB (ra_ l) u (Nat.le_of_eq hg.symm)) hb) (below_step (bl_ HB) hb) hbox (ge_ hg (bl_ HB)) (ge_ hg (bl_ HB)) ?_
           clear x l HB hb hbox hg
           intro x l HB z J D
           refine hK.out _ _ ⟨L, M, O, T⟩ (fun hHeld => ?_)
           clear hK K
           refine norm_ (show Act.put _ (some 10) _ = _ from pt_) ?_
           exact norm_ (by simp only [putAll, Act.put, List.setIfInBounds_toArray, List.set_cons_zero, List.set_cons_succ]) (hCont (u) _ ⟨hHeld, (ra_ x), (ra_ l), (bk_ z), J.out, D.out, (bl1_ HB D)⟩)
          ·skip
           refine bxs_ 10 52 #[iv_ 0, iv_ 0] ?_
           intro u hg g6 hbox hb
           have L := (hb.cell (World.block_lt_of_cell? _ _ (hHeld.1))).trans (hHeld.1)
           have M := (hb.cell (World.block_lt_of_cell? _ _ (hHeld.2.1))).trans (hHeld.2.1)
           have O := (hb.cell (World.block_lt_of_cell? _ _ (hHeld.2.2.1))).trans (hHeld.2.2.1)
           have T := (hb.cell (World.block_lt_of_cell? _ _ (hHeld.2.2.2))).trans (hHeld.2.2.2)
           refine sh6_ (Kd.R_below (Kd.R_elderB (ra_ x) u (Nat.le_of_eq hg.symm)) hb) (Kd.R_below (Kd.R_elderB (ra_ l) u (Nat.le_of_eq hg.symm)) hb) (below_step (bl_ HB) hb) hbox (ge_ hg (bl_ HB)) (ge_ hg (bl_ HB)) ?_
           clear x l HB hb hbox hg
           intro x l HB z J D
           refine hK.out _ _ ⟨L, M, O, T⟩ (fun hHeld => ?_)
           clear hK K
           refine norm_ (show Act.put _ (some 10) _ = _ from pt_) ?_
           refine onc_ 14 (bo_ 19 163839) (some 41) HT_ Tryz.func22 (spec_Min.calls G 1000 B _ a7.out) ?_
           rintro e w' ⟨rfl, ⟨nd, rfl⟩⟩
           refine ⟨_, _, rfl, ⟨hHeld.1, hHeld.2.1, hHeld.2.2.1, hHeld.2.2.2⟩, pt_, fun hHeld => ?_⟩
           refine pur_ 15 (bo_ 19 196607) (some 42) HT_ ?_
           refine pur_ 16 (bo_ 19 262143) (some 43) HT_ ?_
           exact norm_ (by simp only [putAll, Act.put, List.setIfInBounds_toArray, List.set_cons_zero, List.set_cons_succ]) (hCont (u) _ ⟨hHeld, (ra_ x), (ra_ l), (bk_ z), J.out, D.out, (bl1_ HB D)⟩)
         ·skip
          refine bxs_ 10 52 #[iv_ 0, iv_ 0] ?_
          intro u hg g6 hbox hb
          have L := (hb.cell (World.block_lt_of_cell? _ _ (hHeld.1))).trans (hHeld.1)
          have M := (hb.cell (World.block_lt_of_cell? _ _ (hHeld.2.1))).trans (hHeld.2.1)
          have O := (hb.cell (World.block_lt_of_cell? _ _ (hHeld.2.2.1))).trans (hHeld.2.2.1)
          have T := (hb.cell (World.block_lt_of_cell? _ _ (hHeld.2.2.2))).trans (hHeld.2.2.2)
          refine sh6_ (Kd.R_below (Kd.R_elderB (ra_ x) u (Nat.le_of_eq hg.symm)) hb) (Kd.R_below (Kd.R_elderB (ra_ l) u (Nat.le_of_eq hg.symm)) hb) (below_step (bl_ HB) hb) hbox (ge_ hg (bl_ HB)) (ge_ hg (bl_ HB)) ?_
          clear x l HB hb hbox hg
          intro x l HB z J D
          refine hK.out _ _ ⟨L, M, O, T⟩ (fun hHeld => ?_)
          clear hK K
          refine norm_ (show Act.put _ (some 10) _ = _ from pt_) ?_
          refine onc_ 6 (bo_ 19 147327) (some 33) HT_ Tryz.func22 (spec_Min.calls I 1000 E _ d9.out) ?_
          rintro e w' ⟨rfl, ⟨nd, rfl⟩⟩
          refine ⟨_, _, rfl, ⟨hHeld.1, hHeld.2.1, hHeld.2.2.1, hHeld.2.2.2⟩, pt_, fun hHeld => ?_⟩
          refine pur_ 7 (bo_ 19 147455) (some 34) HT_ ?_
          refine onc_ 14 (bo_ 19 163839) (some 41) HT_ Tryz.func22 (spec_Min.calls G 1000 B _ a7.out) ?_
          rintro e w' ⟨rfl, ⟨nd, rfl⟩⟩
          refine ⟨_, _, rfl, ⟨hHeld.1, hHeld.2.1, hHeld.2.2.1, hHeld.2.2.2⟩, pt_, fun hHeld => ?_⟩
          refine pur_ 15 (bo_ 19 196607) (some 42) HT_ ?_
          refine pur_ 16 (bo_ 19 262143) (some 43) HT_ ?_
          exact norm_ (by simp only [putAll, Act.put, List.setIfInBounds_toArray, List.set_cons_zero, List.set_cons_succ]) (hCont (u) _ ⟨hHeld, (ra_ x), (ra_ l), (bk_ z), J.out, D.out, (bl1_ HB D)⟩)
        rintro u Y ⟨hS_, b2, b3, b4, b5, b6, b7⟩
        have d3 : Aside0 (Kd.R k52 52 Y w.heap.size (fun k_ => some k_ ≠ (.slice (some y) s.length b1 : Value).ownBlock ∧ k_ ≠ u) u7 U) := ⟨b2⟩
        have d4 : Aside0 (Kd.R k52 52 Y w.heap.size (fun k_ => some k_ ≠ (u7 : Value).ownBlock ∧ k_ ≠ u) (.slice (some y) s.length b1) s) := ⟨b3⟩
        have d5 : Aside0 (Y.heap[u]? = some (.cells #[iv_ 0, iv_ 0] 52 (0, 0))) := ⟨b4⟩
        have d6 : Aside0 (w.heap.size ≤ u) := ⟨b5⟩
        have d7 : Aside0 (w.heap.size ≤ u) := ⟨b6⟩
        have d8 : Aside0 (Below w.heap.size w Y) := ⟨b7⟩
        clear x
        clear l
        clear HB
        clear b2 b3 b4 b5 b6 b7
        have x := d3
        have l := d4
        have z := d5
        have J := d6
        have D := d7
        have HB := d8
        clear d3 d4 d5 d6 d7 d8
        have hHeld : Y.cell? (y.add ((m).toNat * 2)) = some (iv_ ((rd_T52 s m).f0)) ∧ Y.cell? ⟨(y.add ((m).toNat * 2)).block, (y.add ((m).toNat * 2)).off + 1, none⟩ = some (iv_ ((rd_T52 s m).f1)) ∧ Y.cell? (y.add ((m).toNat * 2)) = some (iv_ ((rd_T52 s m).f0)) ∧ Y.cell? ⟨(y.add ((m).toNat * 2)).block, (y.add ((m).toNat * 2)).off + 1, none⟩ = some (iv_ ((rd_T52 s m).f1)) := hS_
        refine norm_ (a' := ?_) ?_ ?_
        rotate_left
        ·simp only [putAll, Act.put, List.setIfInBounds_toArray, List.set_cons_zero, List.set_cons_succ]
         rfl
        refine one_ (i := 18) (N := none) (bo_ 19 524287) rfl rfl (one_of HT_.out (by kernel_rfl)) (by decide) (fun K hK => ?_)
        have j7 : Y.cell? ⟨u, 0, none⟩ = some (iv_ 0) := bc_ z 0 rfl
        have j3 := bf_ z 0
        have j8 : Y.cell? ⟨u, 1, none⟩ = some (iv_ 0) := bc_ z 1 rfl
        have j4 := bf_ z 1
        refine skip_ (w1 := ?_) (by rfl) rfl ?_ ?_
        rotate_left
        ·go_simp
         rfl
        refine hK.out _ _ ⟨((cell_far (p := ⟨u, _, none⟩) (by first | exact Kd.own_blk (Kd.R_away l.out (fun _ hk => hk.2)) | (rw [add_block]; exact Kd.own_blk (Kd.R_away l.out (fun _ hk => hk.2))) | (show (Addr.add _ _).block ≠ _; rw [add_block]; exact Kd.own_blk (Kd.R_away l.out (fun _ hk => hk.2))) | (dsimp only; exact Kd.own_blk (Kd.R_away l.out (fun _ hk => hk.2)))) _).trans (((cell_far (p := ⟨u, _, none⟩) (by first | exact Kd.own_blk (Kd.R_away l.out (fun _ hk => hk.2)) | (rw [add_block]; exact Kd.own_blk (Kd.R_away l.out (fun _ hk => hk.2))) | (show (Addr.add _ _).block ≠ _; rw [add_block]; exact Kd.own_blk (Kd.R_away l.out (fun _ hk => hk.2))) | (dsimp only; exact Kd.own_blk (Kd.R_away l.out (fun _ hk => hk.2)))) _).trans (hHeld.1)))), ((cell_far (p := ⟨u, _, none⟩) (by first | exact Kd.own_blk (Kd.R_away l.out (fun _ hk => hk.2)) | (rw [add_block]; exact Kd.own_blk (Kd.R_away l.out (fun _ hk => hk.2))) | (show (Addr.add _ _).block ≠ _; rw [add_block]; exact Kd.own_blk (Kd.R_away l.out (fun _ hk => hk.2))) | (dsimp only; exact Kd.own_blk (Kd.R_away l.out (fun _ hk => hk.2)))) _).trans (((cell_far (p := ⟨u, _, none⟩) (by first | exact Kd.own_blk (Kd.R_away l.out (fun _ hk => hk.2)) | (rw [add_block]; exact Kd.own_blk (Kd.R_away l.out (fun _ hk => hk.2))) | (show (Addr.add _ _).block ≠ _; rw [add_block]; exact Kd.own_blk (Kd.R_away l.out (fun _ hk => hk.2))) | (dsimp only; exact Kd.own_blk (Kd.R_away l.out (fun _ hk => hk.2)))) _).trans (hHeld.2.1)))), ((cell_far (p := ⟨u, _, none⟩) (by first | exact Kd.own_blk (Kd.R_away l.out (fun _ hk => hk.2)) | (rw [add_block]; exact Kd.own_blk (Kd.R_away l.out (fun _ hk => hk.2))) | (show (Addr.add _ _).block ≠ _; rw [add_block]; exact Kd.own_blk (Kd.R_away l.out (fun _ hk => hk.2))) | (dsimp only; exact Kd.own_blk (Kd.R_away l.out (fun _ hk => hk.2)))) _).trans (((cell_far (p := ⟨u, _, none⟩) (by first | exact Kd.own_blk (Kd.R_away l.out (fun _ hk => hk.2)) | (rw [add_block]; exact Kd.own_blk (Kd.R_away l.out (fun _ hk => hk.2))) | (show (Addr.add _ _).block ≠ _; rw [add_block]; exact Kd.own_blk (Kd.R_away l.out (fun _ hk => hk.2))) | (dsimp only; exact Kd.own_blk (Kd.R_away l.out (fun _ hk => hk.2)))) _).trans (hHeld.2.2.1)))), ((cell_far (p := ⟨u, _, none⟩) (by first | exact Kd.own_blk (Kd.R_away l.out (fun _ hk => hk.2)) | (rw [add_block]; exact Kd.own_blk (Kd.R_away l.out (fun _ hk => hk.2))) | (show (Addr.add _ _).block ≠ _; rw [add_block]; exact Kd.own_blk (Kd.R_away l.out (fun _ hk => hk.2))) | (dsimp only; exact Kd.own_blk (Kd.R_away l.out (fun _ hk => hk.2)))) _).trans (((cell_far (p := ⟨u, _, none⟩) (by first | exact Kd.own_blk (Kd.R_away l.out (fun _ hk => hk.2)) | (rw [add_block]; exact Kd.own_blk (Kd.R_away l.out (fun _ hk => hk.2))) | (show (Addr.add _ _).block ≠ _; rw [add_block]; exact Kd.own_blk (Kd.R_away l.out (fun _ hk => hk.2))) | (dsimp only; exact Kd.own_blk (Kd.R_away l.out (fun _ hk => hk.2)))) _).trans (hHeld.2.2.2))))⟩ (fun hHeld => ?_)
        clear hK K
        refine done_ (done_of HT_.out (by kernel_rfl)) ?_
        have i9 := cf2_ z
        try go_wp2_with (first | ((with_reducible refine gate_callee (f := 44) rfl ?_); refine gl_ 45 Tryz.func44 (spec_IsSpan.calls (wrap64 (((rd_T52 s m).f0) + E)) (wrap64 (((rd_T52 s m).f1) - B)) true _ f5.out) ?_; rintro e k6 ⟨rfl, hb⟩; refine ⟨_, rfl, sh4_ (Kd.R_below (by (with_reducible repeat (first | apply Kd.R_alloc | apply Kd.R_drewN | apply Kd.R_drew)); exact (Kd.R_mono (Kd.R_far (p := ⟨u, 1, none⟩) (Kd.R_far (p := ⟨u, 0, none⟩) (Kd.R_mono x.out (fun k_ hk => (⟨hk, hk.2⟩ : _ ∧ k_ ≠ u))) (fun _ hk => hk.2) (iv_ (wrap64 (((rd_T52 s m).f0) + E)))) (fun _ hk => hk.2) (iv_ (wrap64 (((rd_T52 s m).f1) - B)))) (fun _ h_ => h_.1))) hb) (Kd.R_below (by (with_reducible repeat (first | apply Kd.R_alloc | apply Kd.R_drewN | apply Kd.R_drew)); exact (Kd.R_mono (Kd.R_far (p := ⟨u, 1, none⟩) (Kd.R_far (p := ⟨u, 0, none⟩) (Kd.R_mono l.out (fun k_ hk => (⟨hk, hk.2⟩ : _ ∧ k_ ≠ u))) (fun _ hk => hk.2) (iv_ (wrap64 (((rd_T52 s m).f0) + E)))) (fun _ hk => hk.2) (iv_ (wrap64 (((rd_T52 s m).f1) - B)))) (fun _ h_ => h_.1))) hb) (blk_below (g := u) (o := .cells #[iv_ (wrap64 (((rd_T52 s m).f0) + E)), iv_ (wrap64 (((rd_T52 s m).f1) - B))] 52 (0, 0)) (bp_ z) hb) (below_step (bl1_ HB D) hb) ?_⟩; clear x l z HB hb; intro x l z HB; have j1 := cf2_ z) | ((with_reducible refine gate_builtin (b := .append) (xs := #[.tmp 46, .tmp 48]) rfl ?_); at_builtin; refine Kd.R_append k52 (w0 := w) w.heap.size rfl (.tmp 46) (.tmp 48) 47 52 (.agg #[(iv_ 0), (iv_ 0)]) 16 rfl Tryz.underlying47 info52 rfl (by decide) (by omega) u7 U (⟨wrap64 (((rd_T52 s m).f0) + E), wrap64 (((rd_T52 s m).f1) - B)⟩ : S52) [iv_ (wrap64 (((rd_T52 s m).f0) + E)), iv_ (wrap64 (((rd_T52 s m).f1) - B))] (fun k_ => some k_ ≠ (.slice (some y) s.length b1 : Value).ownBlock ∧ k_ ≠ u) (fun _ => False) rfl rfl ?aP (fun _ hk => hk.elim) ?aF ?aO ?aB ?aS ?aL ?_; (case aP => exact k52_mkM _ _ _ (⟨wrap64 (((rd_T52 s m).f0) + E), wrap64 (((rd_T52 s m).f1) - B)⟩ : S52)); (case aB => exact (bl1_ HB D)); (case aF => exact (fun k_ hk => ⟨Kd.fresh' (Kd.R_lt (ra_ l)) k_ hk, Kd.freshB (g := u) (o := .cells #[iv_ (wrap64 (((rd_T52 s m).f0) + E)), iv_ (wrap64 (((rd_T52 s m).f1) - B))] 52 (0, 0)) (bk_ z) k_ hk⟩)); (case aO => exact (ra_ x)); (case aS => exact (below_size (bl1_ HB D))); (case aL => have := h3.out; omega); intro k3 k7 ho hb hg hat; rw [← h4.out] at ho; refine sh4_ (Kd.R_after (ok := (fun k_ => k_ ≠ u)) (by (with_reducible repeat (first | apply Kd.R_alloc | apply Kd.R_drewN | apply Kd.R_drew)); exact Kd.R_mono l.out (fun _ hk => ⟨hk.2, hk.1⟩)) hg hat) (blk_grown (g := u) (o := .cells #[iv_ (wrap64 (((rd_T52 s m).f0) + E)), iv_ (wrap64 (((rd_T52 s m).f1) - B))] 52 (0, 0)) (bk_ z) hg (Kd.R_away x.out (fun _ hk => hk.2))) hb ho ?_; clear l z HB x ho hb hg hat; intro l z HB h1))
        go_roundg k2
        case measure => have := e0.out; have := e1.out; omega
        case rel => exact ⟨(i3), (wrap64 (m + 1)), (by first | rfl | (simp; done) | (simp [*]; done)), H', ⟨by have := e0.out; have := e1.out; omega⟩, ⟨by (with_reducible repeat (first | apply Kd.R_alloc | apply Kd.R_drewN | apply Kd.R_drew)); exact Kd.R_mono h1.out (fun _ hk => hk.1)⟩, ⟨by (with_reducible repeat (first | apply Kd.R_alloc | apply Kd.R_drewN | apply Kd.R_drew)); exact Kd.R_mono l.out (fun _ hk => hk.2)⟩, ⟨bl1_ HB D⟩⟩
       ·replace e2 := Bool.eq_false_iff.mpr e2
        subst e2
        have H1 : (spec_ShortenSpans.l0 k2 I G U s (wrap64 (m + 1))) = some r := by rw [if_neg (show ¬ (false = true) by decide)] at H; exact H
        clear H
        have H := H1
        clear H1
        have H' := Aside0.mk H
        clear H
        obtain ⟨i5, e3, h7⟩ := Kd.R_slice l.out
        subst h7
        try go_wp2
        refine sh3_ (Kd.R_drew x.out) (Kd.R_drew l.out) (below_drew1 HB.out) ?_
        clear x l HB
        intro x l HB
        have a3 : 0 ≤ (m : Int) := od_
        have a5 : m < (s.length : Int) := od_
        obtain ⟨y, e9, b9, c1⟩ := at_T52 (Kd.R_reads' l.out).2.2 m a3 a5
        cases e9
        replace a3 := eq_true a3
        replace a5 := eq_true a5
        have a4 : 0 ≤ (m : Int) := od_
        have a6 : m < (s.length : Int) := od_
        obtain ⟨e8, f2, d0, d1⟩ := at_T52 (Kd.R_reads' l.out).2.2 m a4 a6
        obtain rfl : y = e8 := (by injection f2)
        replace a4 := eq_true a4
        replace a6 := eq_true a6
        refine start_ (n := 19) (S := fun w' => w'.cell? (y.add ((m).toNat * 2)) = some (iv_ ((rd_T52 s m).f0)) ∧ w'.cell? ⟨(y.add ((m).toNat * 2)).block, (y.add ((m).toNat * 2)).off + 1, none⟩ = some (iv_ ((rd_T52 s m).f1)) ∧ w'.cell? (y.add ((m).toNat * 2)) = some (iv_ ((rd_T52 s m).f0)) ∧ w'.cell? ⟨(y.add ((m).toNat * 2)).block, (y.add ((m).toNat * 2)).off + 1, none⟩ = some (iv_ ((rd_T52 s m).f1))) (ds := []) (bo_ 19 0) (by kernel_rfl) rfl rfl ⟨b9, c1, d0, d1⟩ (fun hHeld => ?_); refine with_tabW spec_ShortenSpans.tab8 spec_ShortenSpans.bits8 (fun HT_ HW_ => ?_)
        generalize wr.drew = k8 at x l HB b9 c1 d0 d1 hHeld ⊢
        refine pur_ 0 (bo_ 19 1) (some 27) HT_ ?_
        refine pur_ 1 (bo_ 19 3) (some 28) HT_ ?_
        refine pur_ 2 (bo_ 19 7) (some 29) HT_ ?_
        refine pur_ 3 (bo_ 19 15) (some 30) HT_ ?_
        refine pur_ 5 (bo_ 19 47) (some 32) HT_ ?_
        refine pur_ 8 (bo_ 19 303) (some 35) HT_ ?_
        refine pur_ 9 (bo_ 19 815) (some 36) HT_ ?_
        refine pur_ 10 (bo_ 19 1839) (some 37) HT_ ?_
        refine pur_ 11 (bo_ 19 3887) (some 38) HT_ ?_
        refine pur_ 13 (bo_ 19 12079) (some 40) HT_ ?_
        refine tak_ 4 (bo_ 19 12095) (some 31) HT_ HW_ hHeld ?_
        refine tak_ 12 (bo_ 19 16191) (some 39) HT_ HW_ hHeld ?_
        refine join_ (σ := Nat) 1 (bo_ 19 262143) (fun s_ => [(33, iv_ E), (41, iv_ B), (10, .pointer (some ⟨s_, 0, none⟩)), (34, iv_ (wrap64 (((rd_T52 s m).f0) + E))), (42, iv_ (wrap64 (((rd_T52 s m).f1) - B))), (43, .agg #[iv_ (wrap64 (((rd_T52 s m).f0) + E)), iv_ (wrap64 (((rd_T52 s m).f1) - B))])]) (fun s_ w' => (w'.cell? (y.add ((m).toNat * 2)) = some (iv_ ((rd_T52 s m).f0)) ∧ w'.cell? ⟨(y.add ((m).toNat * 2)).block, (y.add ((m).toNat * 2)).off + 1, none⟩ = some (iv_ ((rd_T52 s m).f1)) ∧ w'.cell? (y.add ((m).toNat * 2)) = some (iv_ ((rd_T52 s m).f0)) ∧ w'.cell? ⟨(y.add ((m).toNat * 2)).block, (y.add ((m).toNat * 2)).off + 1, none⟩ = some (iv_ ((rd_T52 s m).f1))) ∧ (Kd.R k52 52 w' w.heap.size (fun k_ => some k_ ≠ (.slice (some y) s.length e3 : Value).ownBlock ∧ k_ ≠ s_) u7 U) ∧ (Kd.R k52 52 w' w.heap.size (fun k_ => some k_ ≠ (u7 : Value).ownBlock ∧ k_ ≠ s_) (.slice (some y) s.length e3) s) ∧ (w'.heap[s_]? = some (.cells #[iv_ 0, iv_ 0] 52 (0, 0))) ∧ (w.heap.size ≤ s_) ∧ (w.heap.size ≤ s_) ∧ (Below w.heap.size w w')) ?_ ?_
        rotate_left
        ·intro hCont
         refine two_ (i := 6) (j := 17) (Ni := some 33) (Nj := some 10) (bo_ 19 16255) (bo_ 19 147263) rfl rfl rfl rfl (two_of HT_.out (by kernel_rfl)) (by decide) (by decide) (fun K hK => ?_) (fun K hK => ?_)
         ·skip
          refine goes_ Tryz.func22 (by kernel_rfl) rfl #[iv_ I, iv_ 1000] (by rfl) rfl rfl mp_ ?_
          with_reducible refine (spec_Min.calls I 1000 E _ d9.out).mono ?_
          rintro e w' ⟨rfl, ⟨nd, rfl⟩⟩
          refine ⟨_, rfl, ?_⟩
          refine hK.out _ _ ⟨hHeld.1, hHeld.2.1, hHeld.2.2.1, hHeld.2.2.2⟩ (fun hHeld => ?_)
          clear hK K
          refine norm_ (show Act.put _ (some 33) _ = _ from pt_) ?_
          refine pur_ 7 (bo_ 19 16383) (some 34) HT_ ?_
          refine two_ (i := 14) (j := 17) (Ni := some 41) (Nj := some 10) (bo_ 19 32767) (bo_ 19 147455) rfl rfl rfl rfl (two_of HT_.out (by kernel_rfl)) (by decide) (by decide) (fun K hK => ?_) (fun K hK => ?_)
          ·skip
           refine goes_ Tryz.func22 (by kernel_rfl) rfl #[iv_ G, iv_ 1000] (by rfl) rfl rfl mp_ ?_
           with_reducible refine (spec_Min.calls G 1000 B _ a7.out).mono ?_
           rintro e w' ⟨rfl, ⟨nd, rfl⟩⟩
           refine ⟨_, rfl, ?_⟩
           refine hK.out _ _ ⟨hHeld.1, hHeld.2.1, hHeld.2.2.1, hHeld.2.2.2⟩ (fun hHeld => ?_)
           clear hK K
           refine norm_ (show Act.put _ (some 41) _ = _ from pt_) ?_
           refine pur_ 15 (bo_ 19 65535) (some 42) HT_ ?_
           refine pur_ 16 (bo_ 19 131071) (some 43) HT_ ?_
           refine one_ (i := 17) (N := some 10) (bo_ 19 262143) rfl rfl (one_of HT_.out (by kernel_rfl)) (by decide) (fun K hK => ?_)
           refine bxs_ 10 52 #[iv_ 0, iv_ 0] ?_
           intro u hg g7 hbox hb
           have L := (hb.cell (World.block_lt_of_cell? _ _ (hHeld.1))).trans (hHeld.1)
           have M := (hb.cell (World.block_lt_of_cell? _ _ (hHeld.2.1))).trans (hHeld.2.1)
           have O := (hb.cell (World.block_lt_of_cell? _ _ (hHeld.2.2.1))).trans (hHeld.2.2.1)
           have T := (hb.cell (World.block_lt_of_cell? _ _ (hHeld.2.2.2))).trans (hHeld.2.2.2)
           refine sh6_ (Kd.R_below (Kd.R_elderB (ra_ x) u (Nat.le_of_eq hg.symm)) hb) (Kd.R_below (Kd.R_elderB (ra_ l) u (Nat.le_of_eq hg.symm)) hb) (below_step (bl_ HB) hb) hbox (ge_ hg (bl_ HB)) (ge_ hg (bl_ HB)) ?_
           clear x l HB hb hbox hg
           intro x l HB z J D
           refine hK.out _ _ ⟨L, M, O, T⟩ (fun hHeld => ?_)
           clear hK K
           refine norm_ (show Act.put _ (some 10) _ = _ from pt_) ?_
           exact norm_ (by simp only [putAll, Act.put, List.setIfInBounds_toArray, List.set_cons_zero, List.set_cons_succ]) (hCont (u) _ ⟨hHeld, (ra_ x), (ra_ l), (bk_ z), J.out, D.out, (bl1_ HB D)⟩)
          ·skip
           refine bxs_ 10 52 #[iv_ 0, iv_ 0] ?_
           intro u hg g7 hbox hb
           have L := (hb.cell (World.block_lt_of_cell? _ _ (hHeld.1))).trans (hHeld.1)
           have M := (hb.cell (World.block_lt_of_cell? _ _ (hHeld.2.1))).trans (hHeld.2.1)
           have O := (hb.cell (World.block_lt_of_cell? _ _ (hHeld.2.2.1))).trans (hHeld.2.2.1)
           have T := (hb.cell (World.block_lt_of_cell? _ _ (hHeld.2.2.2))).trans (hHeld.2.2.2)
           refine sh6_ (Kd.R_below (Kd.R_elderB (ra_ x) u (Nat.le_of_eq hg.symm)) hb) (Kd.R_below (Kd.R_elderB (ra_ l) u (Nat.le_of_eq hg.symm)) hb) (below_step (bl_ HB) hb) hbox (ge_ hg (bl_ HB)) (ge_ hg (bl_ HB)) ?_
           clear x l HB hb hbox hg
           intro x l HB z J D
           refine hK.out _ _ ⟨L, M, O, T⟩ (fun hHeld => ?_)
           clear hK K
           refine norm_ (show Act.put _ (some 10) _ = _ from pt_) ?_
           refine onc_ 14 (bo_ 19 163839) (some 41) HT_ Tryz.func22 (spec_Min.calls G 1000 B _ a7.out) ?_
           rintro e w' ⟨rfl, ⟨nd, rfl⟩⟩
           refine ⟨_, _, rfl, ⟨hHeld.1, hHeld.2.1, hHeld.2.2.1, hHeld.2.2.2⟩, pt_, fun hHeld => ?_⟩
           refine pur_ 15 (bo_ 19 196607) (some 42) HT_ ?_
           refine pur_ 16 (bo_ 19 262143) (some 43) HT_ ?_
           exact norm_ (by simp only [putAll, Act.put, List.setIfInBounds_toArray, List.set_cons_zero, List.set_cons_succ]) (hCont (u) _ ⟨hHeld, (ra_ x), (ra_ l), (bk_ z), J.out, D.out, (bl1_ HB D)⟩)
         ·skip
          refine bxs_ 10 52 #[iv_ 0, iv_ 0] ?_
          intro u hg g7 hbox hb
          have L := (hb.cell (World.block_lt_of_cell? _ _ (hHeld.1))).trans (hHeld.1)
          have M := (hb.cell (World.block_lt_of_cell? _ _ (hHeld.2.1))).trans (hHeld.2.1)
          have O := (hb.cell (World.block_lt_of_cell? _ _ (hHeld.2.2.1))).trans (hHeld.2.2.1)
          have T := (hb.cell (World.block_lt_of_cell? _ _ (hHeld.2.2.2))).trans (hHeld.2.2.2)
          refine sh6_ (Kd.R_below (Kd.R_elderB (ra_ x) u (Nat.le_of_eq hg.symm)) hb) (Kd.R_below (Kd.R_elderB (ra_ l) u (Nat.le_of_eq hg.symm)) hb) (below_step (bl_ HB) hb) hbox (ge_ hg (bl_ HB)) (ge_ hg (bl_ HB)) ?_
          clear x l HB hb hbox hg
          intro x l HB z J D
          refine hK.out _ _ ⟨L, M, O, T⟩ (fun hHeld => ?_)
          clear hK K
          refine norm_ (show Act.put _ (some 10) _ = _ from pt_) ?_
          refine onc_ 6 (bo_ 19 147327) (some 33) HT_ Tryz.func22 (spec_Min.calls I 1000 E _ d9.out) ?_
          rintro e w' ⟨rfl, ⟨nd, rfl⟩⟩
          refine ⟨_, _, rfl, ⟨hHeld.1, hHeld.2.1, hHeld.2.2.1, hHeld.2.2.2⟩, pt_, fun hHeld => ?_⟩
          refine pur_ 7 (bo_ 19 147455) (some 34) HT_ ?_
          refine onc_ 14 (bo_ 19 163839) (some 41) HT_ Tryz.func22 (spec_Min.calls G 1000 B _ a7.out) ?_
          rintro e w' ⟨rfl, ⟨nd, rfl⟩⟩
          refine ⟨_, _, rfl, ⟨hHeld.1, hHeld.2.1, hHeld.2.2.1, hHeld.2.2.2⟩, pt_, fun hHeld => ?_⟩
          refine pur_ 15 (bo_ 19 196607) (some 42) HT_ ?_
          refine pur_ 16 (bo_ 19 262143) (some 43) HT_ ?_
          exact norm_ (by simp only [putAll, Act.put, List.setIfInBounds_toArray, List.set_cons_zero, List.set_cons_succ]) (hCont (u) _ ⟨hHeld, (ra_ x), (ra_ l), (bk_ z), J.out, D.out, (bl1_ HB D)⟩)
        rintro u Z ⟨hS_, b2, b3, b4, b5, b6, b7⟩
        have d3 : Aside0 (Kd.R k52 52 Z w.heap.size (fun k_ => some k_ ≠ (.slice (some y) s.length e3 : Value).ownBlock ∧ k_ ≠ u) u7 U) := ⟨b2⟩
        have d4 : Aside0 (Kd.R k52 52 Z w.heap.size (fun k_ => some k_ ≠ (u7 : Value).ownBlock ∧ k_ ≠ u) (.slice (some y) s.length e3) s) := ⟨b3⟩
        have d5 : Aside0 (Z.heap[u]? = some (.cells #[iv_ 0, iv_ 0] 52 (0, 0))) := ⟨b4⟩
        have d6 : Aside0 (w.heap.size ≤ u) := ⟨b5⟩
        have d7 : Aside0 (w.heap.size ≤ u) := ⟨b6⟩
        have d8 : Aside0 (Below w.heap.size w Z) := ⟨b7⟩
        clear x
        clear l
        clear HB
        clear b2 b3 b4 b5 b6 b7
        have x := d3
        have l := d4
        have z := d5
        have J := d6
        have D := d7
        have HB := d8
        clear d3 d4 d5 d6 d7 d8
        have hHeld : Z.cell? (y.add ((m).toNat * 2)) = some (iv_ ((rd_T52 s m).f0)) ∧ Z.cell? ⟨(y.add ((m).toNat * 2)).block, (y.add ((m).toNat * 2)).off + 1, none⟩ = some (iv_ ((rd_T52 s m).f1)) ∧ Z.cell? (y.add ((m).toNat * 2)) = some (iv_ ((rd_T52 s m).f0)) ∧ Z.cell? ⟨(y.add ((m).toNat * 2)).block, (y.add ((m).toNat * 2)).off + 1, none⟩ = some (iv_ ((rd_T52 s m).f1)) := hS_
        refine norm_ (a' := ?_) ?_ ?_
        rotate_left
        ·simp only [putAll, Act.put, List.setIfInBounds_toArray, List.set_cons_zero, List.set_cons_succ]
         rfl
        refine one_ (i := 18) (N := none) (bo_ 19 524287) rfl rfl (one_of HT_.out (by kernel_rfl)) (by decide) (fun K hK => ?_)
        have j9 : Z.cell? ⟨u, 0, none⟩ = some (iv_ 0) := bc_ z 0 rfl
        have j5 := bf_ z 0
        have k0 : Z.cell? ⟨u, 1, none⟩ = some (iv_ 0) := bc_ z 1 rfl
        have j6 := bf_ z 1
        refine skip_ (w1 := ?_) (by rfl) rfl ?_ ?_
        rotate_left
        ·go_simp
         rfl
        refine hK.out _ _ ⟨((cell_far (p := ⟨u, _, none⟩) (by first | exact Kd.own_blk (Kd.R_away l.out (fun _ hk => hk.2)) | (rw [add_block]; exact Kd.own_blk (Kd.R_away l.out (fun _ hk => hk.2))) | (show (Addr.add _ _).block ≠ _; rw [add_block]; exact Kd.own_blk (Kd.R_away l.out (fun _ hk => hk.2))) | (dsimp only; exact Kd.own_blk (Kd.R_away l.out (fun _ hk => hk.2)))) _).trans (((cell_far (p := ⟨u, _, none⟩) (by first | exact Kd.own_blk (Kd.R_away l.out (fun _ hk => hk.2)) | (rw [add_block]; exact Kd.own_blk (Kd.R_away l.out (fun _ hk => hk.2))) | (show (Addr.add _ _).block ≠ _; rw [add_block]; exact Kd.own_blk (Kd.R_away l.out (fun _ hk => hk.2))) | (dsimp only; exact Kd.own_blk (Kd.R_away l.out (fun _ hk => hk.2)))) _).trans (hHeld.1)))), ((cell_far (p := ⟨u, _, none⟩) (by first | exact Kd.own_blk (Kd.R_away l.out (fun _ hk => hk.2)) | (rw [add_block]; exact Kd.own_blk (Kd.R_away l.out (fun _ hk => hk.2))) | (show (Addr.add _ _).block ≠ _; rw [add_block]; exact Kd.own_blk (Kd.R_away l.out (fun _ hk => hk.2))) | (dsimp only; exact Kd.own_blk (Kd.R_away l.out (fun _ hk => hk.2)))) _).trans (((cell_far (p := ⟨u, _, none⟩) (by first | exact Kd.own_blk (Kd.R_away l.out (fun _ hk => hk.2)) | (rw [add_block]; exact Kd.own_blk (Kd.R_away l.out (fun _ hk => hk.2))) | (show (Addr.add _ _).block ≠ _; rw [add_block]; exact Kd.own_blk (Kd.R_away l.out (fun _ hk => hk.2))) | (dsimp only; exact Kd.own_blk (Kd.R_away l.out (fun _ hk => hk.2)))) _).trans (hHeld.2.1)))), ((cell_far (p := ⟨u, _, none⟩) (by first | exact Kd.own_blk (Kd.R_away l.out (fun _ hk => hk.2)) | (rw [add_block]; exact Kd.own_blk (Kd.R_away l.out (fun _ hk => hk.2))) | (show (Addr.add _ _).block ≠ _; rw [add_block]; exact Kd.own_blk (Kd.R_away l.out (fun _ hk => hk.2))) | (dsimp only; exact Kd.own_blk (Kd.R_away l.out (fun _ hk => hk.2)))) _).trans (((cell_far (p := ⟨u, _, none⟩) (by first | exact Kd.own_blk (Kd.R_away l.out (fun _ hk => hk.2)) | (rw [add_block]; exact Kd.own_blk (Kd.R_away l.out (fun _ hk => hk.2))) | (show (Addr.add _ _).block ≠ _; rw [add_block]; exact Kd.own_blk (Kd.R_away l.out (fun _ hk => hk.2))) | (dsimp only; exact Kd.own_blk (Kd.R_away l.out (fun _ hk => hk.2)))) _).trans (hHeld.2.2.1)))), ((cell_far (p := ⟨u, _, none⟩) (by first | exact Kd.own_blk (Kd.R_away l.out (fun _ hk => hk.2)) | (rw [add_block]; exact Kd.own_blk (Kd.R_away l.out (fun _ hk => hk.2))) | (show (Addr.add _ _).block ≠ _; rw [add_block]; exact Kd.own_blk (Kd.R_away l.out (fun _ hk => hk.2))) | (dsimp only; exact Kd.own_blk (Kd.R_away l.out (fun _ hk => hk.2)))) _).trans (((cell_far (p := ⟨u, _, none⟩) (by first | exact Kd.own_blk (Kd.R_away l.out (fun _ hk => hk.2)) | (rw [add_block]; exact Kd.own_blk (Kd.R_away l.out (fun _ hk => hk.2))) | (show (Addr.add _ _).block ≠ _; rw [add_block]; exact Kd.own_blk (Kd.R_away l.out (fun _ hk => hk.2))) | (dsimp only; exact Kd.own_blk (Kd.R_away l.out (fun _ hk => hk.2)))) _).trans (hHeld.2.2.2))))⟩ (fun hHeld => ?_)
        clear hK K
        refine done_ (done_of HT_.out (by kernel_rfl)) ?_
        have j2 := cf2_ z
        try go_wp2_with (first | ((with_reducible refine gate_callee (f := 44) rfl ?_); refine gl_ 45 Tryz.func44 (spec_IsSpan.calls (wrap64 (((rd_T52 s m).f0) + E)) (wrap64 (((rd_T52 s m).f1) - B)) false _ f5.out) ?_; rintro e k9 ⟨rfl, hb⟩; refine ⟨_, rfl, sh4_ (Kd.R_below (by (with_reducible repeat (first | apply Kd.R_alloc | apply Kd.R_drewN | apply Kd.R_drew)); exact (Kd.R_mono (Kd.R_far (p := ⟨u, 1, none⟩) (Kd.R_far (p := ⟨u, 0, none⟩) (Kd.R_mono x.out (fun k_ hk => (⟨hk, hk.2⟩ : _ ∧ k_ ≠ u))) (fun _ hk => hk.2) (iv_ (wrap64 (((rd_T52 s m).f0) + E)))) (fun _ hk => hk.2) (iv_ (wrap64 (((rd_T52 s m).f1) - B)))) (fun _ h_ => h_.1))) hb) (Kd.R_below (by (with_reducible repeat (first | apply Kd.R_alloc | apply Kd.R_drewN | apply Kd.R_drew)); exact (Kd.R_mono (Kd.R_far (p := ⟨u, 1, none⟩) (Kd.R_far (p := ⟨u, 0, none⟩) (Kd.R_mono l.out (fun k_ hk => (⟨hk, hk.2⟩ : _ ∧ k_ ≠ u))) (fun _ hk => hk.2) (iv_ (wrap64 (((rd_T52 s m).f0) + E)))) (fun _ hk => hk.2) (iv_ (wrap64 (((rd_T52 s m).f1) - B)))) (fun _ h_ => h_.1))) hb) (blk_below (g := u) (o := .cells #[iv_ (wrap64 (((rd_T52 s m).f0) + E)), iv_ (wrap64 (((rd_T52 s m).f1) - B))] 52 (0, 0)) (bp_ z) hb) (below_step (bl1_ HB D) hb) ?_⟩; clear x l z HB hb; intro x l z HB))
        go_roundg k2
        case measure => have := e0.out; have := e1.out; omega
        case rel => exact ⟨(U), (wrap64 (m + 1)), (by first | rfl | (simp; done) | (simp [*]; done)), H', ⟨by have := e0.out; have := e1.out; omega⟩, ⟨by (with_reducible repeat (first | apply Kd.R_alloc | apply Kd.R_drewN | apply Kd.R_drew)); exact Kd.R_mono x.out (fun _ hk => hk.1)⟩, ⟨by (with_reducible repeat (first | apply Kd.R_alloc | apply Kd.R_drewN | apply Kd.R_drew)); exact Kd.R_mono l.out (fun _ hk => hk.1)⟩, ⟨bl1_ HB D⟩⟩
      ·rw [if_neg a8] at H
       have h5 : decide (m < (s.length : Int)) = false := decide_eq_false a8
       clear a8
       obtain rfl := Option.some.inj H
       obtain ⟨i6, i8, h8⟩ := Kd.R_slice l.out
       subst h8
       go_wp2
       go_ret
       exact ⟨_, er_, by (with_reducible repeat (first | apply Kd.R_alloc | apply Kd.R_drewN | apply Kd.R_drew)); exact Kd.R_mono x.out (fun _ hk => trivial), bl_ HB⟩

/-! ### spec_CutSpans: function 45 -/
def spec_CutSpans.l0 : Nat → List S52 → List S52 → List S52 → Int → Int → Option (List S52)
 | 0, _, _, _, _, _ => none
 | k + 1, l, m, s, u, j => if j < u then ((spec_InSpans.f k l j).bind fun x => (if x = true then ((spec_InSpans.f k m j).bind fun y => (if y = true then (spec_CutSpans.l0 k l m s u (wrap64 (j + 1))) else ((spec_l4Put.f s j).bind fun z => (spec_CutSpans.l0 k l m z u (wrap64 (j + 1)))))) else (spec_CutSpans.l0 k l m s u (wrap64 (j + 1))))) else (some s)
def spec_CutSpans.f (k : Nat) (j l : List S52) : Option (List S52) := (spec_l4Last.f k j).bind fun m => (spec_CutSpans.l0 k j l (([] : List S52)) m 0)
theorem spec_CutSpans.calls (k : Nat) (U : Option Addr) (c0 : Nat) (m : List S52) (X : Option Addr) (c1 : Nat) (s r : List S52) (w : World) (a7 : Kd.C k52 w U m.length m) (a4 : m.length ≤ c0) (a8 : Kd.C k52 w X s.length s) (a5 : s.length ≤ c1) (h : spec_CutSpans.f k m s = some r) :
  Calls Tryz.prog 45 #[.slice U m.length c0, .slice X s.length c1] w fun e w' => ∃ a9 : Value, e = .returned (a9) ∧ Kd.R k52 52 w' w.heap.size (fun _ => True) a9 r ∧ Below w.heap.size w w' := by
 have I := Aside0.mk a7
 have E := Aside0.mk a4
 clear a7 a4
 have a0 := Aside0.mk a8
 have Z := Aside0.mk a5
 clear a8 a5
 have HB := Aside0.mk (Below.refl w.heap.size w)
 have H := h
 clear h
 unfold spec_CutSpans.f at H
 replace H : ∃ y_ : List S52, Aside0 (y_ = (([] : List S52))) ∧ ((spec_l4Last.f k m).bind fun y => (spec_CutSpans.l0 k m s y_ y 0)) = some r := ⟨_, ⟨rfl⟩, yh_ H⟩
 obtain ⟨b9, a1, H⟩ := H
 replace H := bs_ H
 obtain ⟨y, A3, H⟩ := H
 have H' := Aside0.mk H
 clear H
 go_enter Tryz.func45, Tryz.ntmps45
 go_wp2_with (first | ((with_reducible refine gate_dst (N := 8) rfl ?_); refine Kd.R_lit k52 _ 52 ?hg (N := 8) ?hd (xs := ([] : List S52)) (inner := []) (ok := fun _ => True) (okp := fun _ => True) ?hr ?hp (fun _ hk => hk) trivial (Below.refl _ _) (Nat.le_refl _) (by simp) ?_; (case hd => rfl); (case hg => rfl); (case hr => first | (go_simp; done) | (go_simp; rfl)); (case hp => exact (Reps.none _ _)); intro d0 w4 D hb hg_ hnew_; clear hg_ hnew_; (first | rw [← a1.out] at D | (simp only [Int.reduceToNat] at D; rw [← a1.out] at D)); refine sh2_ (Kd.R_lower D (below_size (bl_ HB))) (below_step (bl_ HB) hb) ?_; clear HB hb D; intro G HB) | ((with_reducible refine gate_callee (f := 62) rfl ?_); refine gl_ 10 Tryz.func62 (spec_l4Last.calls k _ _ m y _ (ck_ I HB) E.out A3.out) ?_; rintro e w6 ⟨rfl, hb⟩; refine ⟨_, rfl, sh2_ (Kd.R_below (ra_ G) hb) (below_step (bl_ HB) hb) ?_⟩; clear G HB hb; intro G HB))
 go_loopg [5, 7] k (fun kq v5 v7 w' => ∃ (u : List S52) (l : Int), v7 = iv_ l ∧ Aside0 (spec_CutSpans.l0 kq m s u y l = some r) ∧ Aside0 (kq ≤ k) ∧ Aside0 (Kd.R k52 52 w' w.heap.size (fun _ => True) v5 u) ∧ Aside0 (Below w.heap.size w w'))
 case atStart => exact ⟨(b9), (0), (by first | rfl | (simp; done) | (simp [*]; done)), H', ⟨Nat.le_refl _⟩, ⟨ra_ G⟩, ⟨bl_ HB⟩⟩
 case round =>
  clear H'
  obtain ⟨u, l, rfl, HA, z, j, HB⟩ := hrel
  cases gk with
  | zero => exact absurd HA.out (by simp [spec_CutSpans.l0])
  | succ x =>
   have H := HA.out
   clear HA
   simp only [spec_CutSpans.l0] at H
   by_cases c7 : l < y
   ·rw [if_pos c7] at H
    have b3 := decide_eq_true c7
    clear c7
    replace H := bs_ H
    obtain ⟨b5, M, H⟩ := H
    by_cases c9 : b5 = true
    ·subst c9
     rw [if_pos rfl] at H
     replace H := bs_ H
     obtain ⟨b6, Y, H⟩ := H
     by_cases J : b6 = true
     ·subst J
      rw [if_pos rfl] at H
      have H' := Aside0.mk H
      clear H
      go_wp2_with (first | ((with_reducible refine gate_callee (f := 63) rfl ?_); refine gl_ 18 Tryz.func63 (spec_InSpans.calls x _ _ m l true _ (ck_ I HB) E.out M.out) ?_; rintro e d2 ⟨rfl, hb⟩; refine ⟨_, rfl, sh2_ (Kd.R_below (ra_ j) hb) (below_step (bl_ HB) hb) ?_⟩; clear j HB hb; intro j HB) | (go_at_call 63; (with_reducible refine (spec_InSpans.calls x _ _ s l true _ ?side1 ?side2 Y.out).mono ?_); (case side1 => exact ck_ a0 HB); (case side2 => exact Z.out); rintro e d3 ⟨rfl, hb⟩; refine sh2_ (Kd.R_below (ra_ j) hb) (below_step (bl_ HB) hb) ?_; clear j HB hb; intro j HB))
      go_roundg x
      case measure => have := z.out; omega
      case rel => exact ⟨(u), (wrap64 (l + 1)), (by first | rfl | (simp; done) | (simp [*]; done)), H', ⟨by have := z.out; omega⟩, ⟨ra_ j⟩, ⟨bl_ HB⟩⟩
     ·replace J := Bool.eq_false_iff.mpr J
      subst J
      have B : ((spec_l4Put.f u l).bind fun L => (spec_CutSpans.l0 x m s L y (wrap64 (l + 1)))) = some r := by rw [if_neg (show ¬ (false = true) by decide)] at H; exact H
      clear H
      have H := B
      clear B
      replace H := bs_ H
      obtain ⟨L, b0, H⟩ := H
      have H' := Aside0.mk H
      clear H
      go_wp2_with (first | ((with_reducible refine gate_callee (f := 63) rfl ?_); refine gl_ 18 Tryz.func63 (spec_InSpans.calls x _ _ m l true _ (ck_ I HB) E.out M.out) ?_; rintro e d4 ⟨rfl, hb⟩; refine ⟨_, rfl, sh2_ (Kd.R_below (ra_ j) hb) (below_step (bl_ HB) hb) ?_⟩; clear j HB hb; intro j HB) | (go_at_call 63; (with_reducible refine (spec_InSpans.calls x _ _ s l false _ ?side1 ?side2 Y.out).mono ?_); (case side1 => exact ck_ a0 HB); (case side2 => exact Z.out); rintro e d5 ⟨rfl, hb⟩; refine sh2_ (Kd.R_below (ra_ j) hb) (below_step (bl_ HB) hb) ?_; clear j HB hb; intro j HB; obtain ⟨O, T, b4⟩ := Kd.R_slice j.out; subst b4) | ((with_reducible refine gate_callee (f := 64) rfl ?_); refine goesL_ (some 27) rfl rfl Tryz.func64 (by kernel_rfl) rfl #[.slice O u.length T, iv_ l] rfl mp_ ?_; (with_reducible refine (spec_l4Put.calls (fun k_ => some k_ = (.slice O u.length T : Value).ownBlock) (.slice O u.length T) u l L w _ ?side1 ?side2 b0.out).mono ?_); (case side1 => repeat (first | (with_reducible first | exact HB.out | apply below_alloc | apply pw_below_drewN | apply below_drew1) | exact HB.out)); (case side2 => exact Kd.R_tight rfl j.out); rintro e d6 ⟨d1, rfl, a6, hb, hkp⟩; refine ⟨_, rfl, sh2_ (Kd.R_mono (ok' := fun k_ => True) a6 (fun k_ hk_ => trivial)) hb ?_⟩; clear HB j hb hkp a6; intro b2 HB))
      go_roundg x
      case measure => have := z.out; omega
      case rel => exact ⟨(L), (wrap64 (l + 1)), (by first | rfl | (simp; done) | (simp [*]; done)), H', ⟨by have := z.out; omega⟩, ⟨ra_ b2⟩, ⟨bl_ HB⟩⟩
    ·replace c9 := Bool.eq_false_iff.mpr c9
     subst c9
     have B : (spec_CutSpans.l0 x m s u y (wrap64 (l + 1))) = some r := by rw [if_neg (show ¬ (false = true) by decide)] at H; exact H
     clear H
     have H := B
     clear B
     have H' := Aside0.mk H
     clear H
     go_wp2_with (first | ((with_reducible refine gate_callee (f := 63) rfl ?_); refine gl_ 18 Tryz.func63 (spec_InSpans.calls x _ _ m l false _ (ck_ I HB) E.out M.out) ?_; rintro e d7 ⟨rfl, hb⟩; refine ⟨_, rfl, sh2_ (Kd.R_below (ra_ j) hb) (below_step (bl_ HB) hb) ?_⟩; clear j HB hb; intro j HB))
     go_roundg x
     case measure => have := z.out; omega
     case rel => exact ⟨(u), (wrap64 (l + 1)), (by first | rfl | (simp; done) | (simp [*]; done)), H', ⟨by have := z.out; omega⟩, ⟨ra_ j⟩, ⟨bl_ HB⟩⟩
   ·rw [if_neg c7] at H
    have b3 := decide_eq_false c7
    clear c7
    obtain rfl := Option.some.inj H
    go_wp2
    go_ret
    exact ⟨_, er_, ra_ j, bl_ HB⟩

/-! ### spec_l8Ticks: function 65 -/
def spec_l8Ticks.f (j l : Int) : Option (Int × Int) := (spec_Max.f 0 j).bind fun m => ((spec_Min.f 1000 m).bind fun s => ((spec_Min.f 1000 l).bind fun u => ((spec_Max.f 0 u).bind fun x => (some (s, x)))))
theorem spec_l8Ticks.calls (j l m s : Int) (w : World) (h : spec_l8Ticks.f j l = some (m, s)) :
  Calls Tryz.prog 65 #[iv_ j, iv_ l] w fun e w' => e = .returned (.tuple #[iv_ m, iv_ s]) ∧ Drawn0 w w' := by
 have H := h
 clear h
 unfold spec_l8Ticks.f at H
 replace H := bs_ H
 obtain ⟨u, y, H⟩ := H
 replace H := bs_ H
 obtain ⟨E, z, H⟩ := H
 replace H := bs_ H
 obtain ⟨x, B, H⟩ := H
 replace H := bs_ H
 obtain ⟨G, D, H⟩ := H
 simp only [Option.some.injEq, Prod.mk.injEq] at H
 obtain ⟨rfl, rfl⟩ := H
 go_enter Tryz.func65, Tryz.ntmps65
 go_wp2_with (first | ((with_reducible refine gate_callee (f := 23) rfl ?_); refine gl_ 7 Tryz.func23 (spec_Max.calls 0 j u _ y.out) ?_; rintro e w' ⟨rfl, ⟨nd, rfl⟩⟩; refine ⟨_, rfl, ?_⟩) | ((with_reducible refine gate_callee (f := 22) rfl ?_); refine gl_ 8 Tryz.func22 (spec_Min.calls 1000 u E _ z.out) ?_; rintro e w' ⟨rfl, ⟨nd, rfl⟩⟩; refine ⟨_, rfl, ?_⟩) | ((with_reducible refine gate_callee (f := 22) rfl ?_); refine gl_ 10 Tryz.func22 (spec_Min.calls 1000 l x _ B.out) ?_; rintro e w' ⟨rfl, ⟨nd, rfl⟩⟩; refine ⟨_, rfl, ?_⟩) | ((with_reducible refine gate_callee (f := 23) rfl ?_); refine gl_ 11 Tryz.func23 (spec_Max.calls 0 x G _ D.out) ?_; rintro e w' ⟨rfl, ⟨nd, rfl⟩⟩; refine ⟨_, rfl, ?_⟩))
 go_ret2
 exact ⟨by first | rfl | (simp; done) | (simp [*]; done), by repeat (first | exact Drawn0.refl _ | apply Drawn0.step)⟩

/-! ### spec_Mod: function 112 -/
def spec_Mod.f (l j : Int) : Option (Int) := (spec_l1In.f j 1 1000000000000).bind fun m => (if m = true then (if j = 0 then (none) else (some (Int.tmod (wrap64 ((Int.tmod l j) + j)) j))) else (some 0))
theorem spec_Mod.calls (s j r : Int) (w : World) (h : spec_Mod.f s j = some r) :
  Calls Tryz.prog 112 #[iv_ s, iv_ j] w fun e w' => e = .returned (iv_ r) ∧ Drawn0 w w' := by
 have H := h
 clear h
 unfold spec_Mod.f at H
 replace H := bs_ H
 obtain ⟨u, l, H⟩ := H
 by_cases c4 : u = true
 ·subst c4
  rw [if_pos rfl] at H
  by_cases c5 : j = 0
  ·rw [if_pos c5] at H
   exact absurd H (by simp)
  ·rw [if_neg c5] at H
   obtain ⟨x, y⟩ := bn_ c5
   obtain rfl := Option.some.inj H
   go_enter Tryz.func112, Tryz.ntmps112
   go_wp2_with (first | ((with_reducible refine gate_callee (f := 40) rfl ?_); refine gl_ 6 Tryz.func40 (spec_l1In.calls j 1 1000000000000 true _ l.out) ?_; rintro e w' ⟨rfl, ⟨nd, rfl⟩⟩; refine ⟨_, rfl, ?_⟩))
   go_ret
   exact ⟨by first | rfl | (simp; done) | (simp [*]; done), by repeat (first | exact Drawn0.refl _ | apply Drawn0.step)⟩
 ·replace c4 := Bool.eq_false_iff.mpr c4
  subst c4
  have m : (some 0) = some r := by rw [if_neg (show ¬ (false = true) by decide)] at H; exact H
  clear H
  have H := m
  clear m
  obtain rfl := Option.some.inj H
  go_enter Tryz.func112, Tryz.ntmps112
  go_wp2_with (first | ((with_reducible refine gate_callee (f := 40) rfl ?_); refine gl_ 6 Tryz.func40 (spec_l1In.calls j 1 1000000000000 false _ l.out) ?_; rintro e w' ⟨rfl, ⟨nd, rfl⟩⟩; refine ⟨_, rfl, ?_⟩))
  go_ret
  exact ⟨by first | rfl | (simp; done) | (simp [*]; done), by repeat (first | exact Drawn0.refl _ | apply Drawn0.step)⟩

/-! ### spec_AngleOf: function 104 -/
def spec_AngleOf.f (j : Int) : Option (Int) := (spec_Mod.f j 360).bind fun l => (some l)
theorem spec_AngleOf.calls (j r : Int) (w : World) (h : spec_AngleOf.f j = some r) :
  Calls Tryz.prog 104 #[iv_ j] w fun e w' => e = .returned (iv_ r) ∧ Drawn0 w w' := by
 have H := h
 clear h
 unfold spec_AngleOf.f at H
 replace H := bs_ H
 obtain ⟨m, l, H⟩ := H
 obtain rfl := Option.some.inj H
 go_enter Tryz.func104, Tryz.ntmps104
 go_wp2_with (first | ((with_reducible refine gate_callee (f := 112) rfl ?_); refine gl_ 4 Tryz.func112 (spec_Mod.calls j 360 m _ l.out) ?_; rintro e w' ⟨rfl, ⟨nd, rfl⟩⟩; refine ⟨_, rfl, ?_⟩))
 go_ret
 exact ⟨by first | rfl | (simp; done) | (simp [*]; done), by repeat (first | exact Drawn0.refl _ | apply Drawn0.step)⟩

/-! ### spec_l6Speed: function 106 -/
def spec_l6Speed.f (j : Int) : Option (Int) := (spec_l1In.f j (-60) 60).bind fun l => (if l = true then (some j) else (some 0))
theorem spec_l6Speed.calls (j r : Int) (w : World) (h : spec_l6Speed.f j = some r) :
  Calls Tryz.prog 106 #[iv_ j] w fun e w' => e = .returned (iv_ r) ∧ Drawn0 w w' := by
 have H := h
 clear h
 unfold spec_l6Speed.f at H
 replace H := bs_ H
 obtain ⟨s, l, H⟩ := H
 by_cases c3 : s = true
 ·subst c3
  rw [if_pos rfl] at H
  obtain rfl := Option.some.inj H
  go_enter Tryz.func106, Tryz.ntmps106
  go_wp2_with (first | ((with_reducible refine gate_callee (f := 40) rfl ?_); refine gl_ 4 Tryz.func40 (spec_l1In.calls j (-60) 60 true _ l.out) ?_; rintro e w' ⟨rfl, ⟨nd, rfl⟩⟩; refine ⟨_, rfl, ?_⟩))
  go_ret
  exact ⟨by first | rfl | (simp; done) | (simp [*]; done), by repeat (first | exact Drawn0.refl _ | apply Drawn0.step)⟩
 ·replace c3 := Bool.eq_false_iff.mpr c3
  subst c3
  have m : (some 0) = some r := by rw [if_neg (show ¬ (false = true) by decide)] at H; exact H
  clear H
  have H := m
  clear m
  obtain rfl := Option.some.inj H
  go_enter Tryz.func106, Tryz.ntmps106
  go_wp2_with (first | ((with_reducible refine gate_callee (f := 40) rfl ?_); refine gl_ 4 Tryz.func40 (spec_l1In.calls j (-60) 60 false _ l.out) ?_; rintro e w' ⟨rfl, ⟨nd, rfl⟩⟩; refine ⟨_, rfl, ?_⟩))
  go_ret
  exact ⟨by first | rfl | (simp; done) | (simp [*]; done), by repeat (first | exact Drawn0.refl _ | apply Drawn0.step)⟩

/-! ### spec_PlaceAt: function 94 -/
def spec_PlaceAt.f (D j l E m : Int) : Option (Int) := (spec_l1In.f m 0 1000).bind fun s => (if s = true then ((spec_AngleOf.f j).bind fun u => ((spec_l6Speed.f l).bind fun x => ((spec_AngleOf.f (wrap64 (u + (wrap64 (x * m))))).bind fun y => (some y)))) else ((spec_AngleOf.f j).bind fun z => ((spec_l6Speed.f l).bind fun G => ((spec_AngleOf.f (wrap64 (z))).bind fun B => (some B)))))
theorem spec_PlaceAt.calls (u j l x s r : Int) (w : World) (h : spec_PlaceAt.f u j l x s = some r) :
  Calls Tryz.prog 94 #[.agg #[iv_ u, iv_ j, iv_ l, iv_ x], iv_ s] w fun e w' => e = .returned (iv_ r) ∧ Below w.heap.size w w' := by
 have a6 := Tryz.underlying68
 have HB := Aside0.mk (Below.refl w.heap.size w)
 have H := h
 clear h
 unfold spec_PlaceAt.f at H
 replace H := bs_ H
 obtain ⟨a5, B, H⟩ := H
 by_cases c4 : a5 = true
 ·subst c4
  rw [if_pos rfl] at H
  replace H := bs_ H
  obtain ⟨D, T, H⟩ := H
  replace H := bs_ H
  obtain ⟨E, U, H⟩ := H
  replace H := bs_ H
  obtain ⟨Y, X, H⟩ := H
  obtain rfl := Option.some.inj H
  go_enter Tryz.func94, Tryz.ntmps94
  go_wp2_with (first | ((with_reducible refine gd_ 2 ?_); refine bx_ 2 68 #[iv_ u, iv_ j, iv_ l, iv_ x] ?_; intro G hg w8 hbox hb; refine sh3_ (below_step (bl_ HB) hb) hbox (ge_ hg (bl_ HB)) ?_; clear HB hb hbox hg; intro HB m z) | (go_at_call 40; (with_reducible refine (spec_l1In.calls s 0 1000 true _ B.out).mono ?_); rintro e w' ⟨rfl, ⟨nd, rfl⟩⟩; (try exact dd_); have a2 := cf4_ m) | (go_at_call 104; (with_reducible refine (spec_AngleOf.calls j D _ T.out).mono ?_); rintro e w' ⟨rfl, ⟨nd, rfl⟩⟩; (try exact dd_)) | (go_at_call 106; (with_reducible refine (spec_l6Speed.calls l E _ U.out).mono ?_); rintro e w' ⟨rfl, ⟨nd, rfl⟩⟩; (try exact dd_)) | (go_at_call 104; (with_reducible refine (spec_AngleOf.calls (wrap64 (D + (wrap64 (E * s)))) Y _ X.out).mono ?_); rintro e w' ⟨rfl, ⟨nd, rfl⟩⟩; (try exact dd_)))
  repeat (go_quiet (first | ((with_reducible refine gd_ 2 ?_); refine bx_ 2 68 #[iv_ u, iv_ j, iv_ l, iv_ x] ?_; intro G hg w8 hbox hb; refine sh3_ (below_step (bl_ HB) hb) hbox (ge_ hg (bl_ HB)) ?_; clear HB hb hbox hg; intro HB m z) | (go_at_call 40; (with_reducible refine (spec_l1In.calls s 0 1000 true _ B.out).mono ?_); rintro e w' ⟨rfl, ⟨nd, rfl⟩⟩; (try exact dd_); have a2 := cf4_ m) | (go_at_call 104; (with_reducible refine (spec_AngleOf.calls j D _ T.out).mono ?_); rintro e w' ⟨rfl, ⟨nd, rfl⟩⟩; (try exact dd_)) | (go_at_call 106; (with_reducible refine (spec_l6Speed.calls l E _ U.out).mono ?_); rintro e w' ⟨rfl, ⟨nd, rfl⟩⟩; (try exact dd_)) | (go_at_call 104; (with_reducible refine (spec_AngleOf.calls (wrap64 (D + (wrap64 (E * s)))) Y _ X.out).mono ?_); rintro e w' ⟨rfl, ⟨nd, rfl⟩⟩; (try exact dd_))); try go_wp2_with (first | ((with_reducible refine gd_ 2 ?_); refine bx_ 2 68 #[iv_ u, iv_ j, iv_ l, iv_ x] ?_; intro G hg w8 hbox hb; refine sh3_ (below_step (bl_ HB) hb) hbox (ge_ hg (bl_ HB)) ?_; clear HB hb hbox hg; intro HB m z) | (go_at_call 40; (with_reducible refine (spec_l1In.calls s 0 1000 true _ B.out).mono ?_); rintro e w' ⟨rfl, ⟨nd, rfl⟩⟩; (try exact dd_); have a2 := cf4_ m) | (go_at_call 104; (with_reducible refine (spec_AngleOf.calls j D _ T.out).mono ?_); rintro e w' ⟨rfl, ⟨nd, rfl⟩⟩; (try exact dd_)) | (go_at_call 106; (with_reducible refine (spec_l6Speed.calls l E _ U.out).mono ?_); rintro e w' ⟨rfl, ⟨nd, rfl⟩⟩; (try exact dd_)) | (go_at_call 104; (with_reducible refine (spec_AngleOf.calls (wrap64 (D + (wrap64 (E * s)))) Y _ X.out).mono ?_); rintro e w' ⟨rfl, ⟨nd, rfl⟩⟩; (try exact dd_))))
  go_ret
  exact ⟨er_, bl1_ HB z⟩
 ·replace c4 := Bool.eq_false_iff.mpr c4
  subst c4
  have Z : ((spec_AngleOf.f j).bind fun y => ((spec_l6Speed.f l).bind fun J => ((spec_AngleOf.f (wrap64 (y))).bind fun I => (some I)))) = some r := by rw [if_neg (show ¬ (false = true) by decide)] at H; exact H
  clear H
  have H := Z
  clear Z
  replace H := bs_ H
  obtain ⟨y, L, H⟩ := H
  replace H := bs_ H
  obtain ⟨J, M, H⟩ := H
  replace H := bs_ H
  obtain ⟨I, O, H⟩ := H
  obtain rfl := Option.some.inj H
  go_enter Tryz.func94, Tryz.ntmps94
  go_wp2_with (first | ((with_reducible refine gd_ 2 ?_); refine bx_ 2 68 #[iv_ u, iv_ j, iv_ l, iv_ x] ?_; intro G hg a3 hbox hb; refine sh3_ (below_step (bl_ HB) hb) hbox (ge_ hg (bl_ HB)) ?_; clear HB hb hbox hg; intro HB m z) | (go_at_call 40; (with_reducible refine (spec_l1In.calls s 0 1000 false _ B.out).mono ?_); rintro e w' ⟨rfl, ⟨nd, rfl⟩⟩; (try exact dd_); have a0 := cf4_ m) | (go_at_call 104; (with_reducible refine (spec_AngleOf.calls j y _ L.out).mono ?_); rintro e w' ⟨rfl, ⟨nd, rfl⟩⟩; (try exact dd_)) | (go_at_call 106; (with_reducible refine (spec_l6Speed.calls l J _ M.out).mono ?_); rintro e w' ⟨rfl, ⟨nd, rfl⟩⟩; (try exact dd_)) | (go_at_call 104; (with_reducible refine (spec_AngleOf.calls (wrap64 (y)) I _ O.out).mono ?_); rintro e w' ⟨rfl, ⟨nd, rfl⟩⟩; (try exact dd_)))
  repeat (go_quiet (first | ((with_reducible refine gd_ 2 ?_); refine bx_ 2 68 #[iv_ u, iv_ j, iv_ l, iv_ x] ?_; intro G hg a3 hbox hb; refine sh3_ (below_step (bl_ HB) hb) hbox (ge_ hg (bl_ HB)) ?_; clear HB hb hbox hg; intro HB m z) | (go_at_call 40; (with_reducible refine (spec_l1In.calls s 0 1000 false _ B.out).mono ?_); rintro e w' ⟨rfl, ⟨nd, rfl⟩⟩; (try exact dd_); have a0 := cf4_ m) | (go_at_call 104; (with_reducible refine (spec_AngleOf.calls j y _ L.out).mono ?_); rintro e w' ⟨rfl, ⟨nd, rfl⟩⟩; (try exact dd_)) | (go_at_call 106; (with_reducible refine (spec_l6Speed.calls l J _ M.out).mono ?_); rintro e w' ⟨rfl, ⟨nd, rfl⟩⟩; (try exact dd_)) | (go_at_call 104; (with_reducible refine (spec_AngleOf.calls (wrap64 (y)) I _ O.out).mono ?_); rintro e w' ⟨rfl, ⟨nd, rfl⟩⟩; (try exact dd_))); try go_wp2_with (first | ((with_reducible refine gd_ 2 ?_); refine bx_ 2 68 #[iv_ u, iv_ j, iv_ l, iv_ x] ?_; intro G hg a3 hbox hb; refine sh3_ (below_step (bl_ HB) hb) hbox (ge_ hg (bl_ HB)) ?_; clear HB hb hbox hg; intro HB m z) | (go_at_call 40; (with_reducible refine (spec_l1In.calls s 0 1000 false _ B.out).mono ?_); rintro e w' ⟨rfl, ⟨nd, rfl⟩⟩; (try exact dd_); have a0 := cf4_ m) | (go_at_call 104; (with_reducible refine (spec_AngleOf.calls j y _ L.out).mono ?_); rintro e w' ⟨rfl, ⟨nd, rfl⟩⟩; (try exact dd_)) | (go_at_call 106; (with_reducible refine (spec_l6Speed.calls l J _ M.out).mono ?_); rintro e w' ⟨rfl, ⟨nd, rfl⟩⟩; (try exact dd_)) | (go_at_call 104; (with_reducible refine (spec_AngleOf.calls (wrap64 (y)) I _ O.out).mono ?_); rintro e w' ⟨rfl, ⟨nd, rfl⟩⟩; (try exact dd_))))
  go_ret
  exact ⟨er_, bl1_ HB z⟩

end Go.Proofs.YtpjhdehbikohmaaGreat.PFnExactPlanOf
