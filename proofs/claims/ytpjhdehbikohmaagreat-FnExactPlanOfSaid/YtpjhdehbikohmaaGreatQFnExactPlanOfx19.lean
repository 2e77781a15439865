-- Written by a program of this session for this claim (the kit's printer with changes).
import Derived.Test.YtpjhdehbikohmaaGreatQFnExactPlanOfx0
import Derived.Test.YtpjhdehbikohmaaGreatQFnExactPlanOfx1
import Derived.Test.YtpjhdehbikohmaaGreatQFnExactPlanOfx2
import Derived.Test.YtpjhdehbikohmaaGreatQFnExactPlanOfx3
import Derived.Test.YtpjhdehbikohmaaGreatQFnExactPlanOfx10
import Derived.Test.YtpjhdehbikohmaaGreatQFnExactPlanOfx18
namespace Go.Proofs.YtpjhdehbikohmaaGreat.PFnExactPlanOf
open Go.RowKit Go.Proofs.YtpjhdehbikohmaaGreatW.PrintWords Go.Proofs.YtpjhdehbikohmaaGreatW.PrintLast Go.Proofs.YtpjhdehbikohmaaGreatW.PrintMore
attribute [local go_sem] max2_int min2_int max_two min_two max_three min_three max_four min_four   -- for this text's walks alone
set_option linter.unusedVariables false
set_option maxHeartbeats 8000000
set_option maxRecDepth 100000
set_option linter.unusedSimpArgs false

/-! ### laws_FnExactPlanOf: function 4 -/
def laws_FnExactPlanOf.j0 : Nat → Int → Int → List S54 → List S54 → Bool → Int → List S82 → List S84 → Int → Int → Int → Int → Int → List S88 → Int → Option (Bool)
 | 0, _, _, _, _, _, _, _, _, _, _, _, _, _, _, _ => none
 | k + 1, y, B, Y, z, D, E, G, I, J, L, M, O, T, U, X => if D = true then (some false) else ((laws_markContactS.f k z 1).bind fun l => ((laws_heldContactS.f k l.2 1).bind fun m => (if m < 0 then (some false) else (if m = l.1 then ((laws_toSky.f k E G I J L M O T U X).bind fun j => ((impl_PlanOf.f k j.1 j.2.1 j.2.2.1 j.2.2.2.1 j.2.2.2.2.1 j.2.2.2.2.2.1 j.2.2.2.2.2.2.1 j.2.2.2.2.2.2.2.1 j.2.2.2.2.2.2.2.2.1 j.2.2.2.2.2.2.2.2.2 y B).bind fun u => ((laws_eqContactS.f k u Y).bind fun x => (if x = true then ((laws_heldContactS.f k l.2 1).bind fun s => (if s < 0 then (some false) else (if s = l.1 then (some true) else (some false)))) else (some false))))) else (some false)))))
def laws_FnExactPlanOf.f (k : Nat) (s : Int) (E : List S82) (G : List S84) (u x y z B : Int) (I : List S88) (D J L : Int) : Option (Bool) := (laws_szSky.f s E G u x y z B I D 1048576).bind fun U => (if U < 0 then (some true) else ((laws_toSky.f k s E G u x y z B I D).bind fun l => ((spec_PlanOf.f k l.1 l.2.1 l.2.2.1 l.2.2.2.1 l.2.2.2.2.1 l.2.2.2.2.2.1 l.2.2.2.2.2.2.1 l.2.2.2.2.2.2.2.1 l.2.2.2.2.2.2.2.2.1 l.2.2.2.2.2.2.2.2.2 J L).bind fun M => ((laws_toSky.f k s E G u x y z B I D).bind fun j => ((impl_PlanOf.f k j.1 j.2.1 j.2.2.1 j.2.2.2.1 j.2.2.2.2.1 j.2.2.2.2.2.1 j.2.2.2.2.2.2.1 j.2.2.2.2.2.2.2.1 j.2.2.2.2.2.2.2.2.1 j.2.2.2.2.2.2.2.2.2 J L).bind fun O => ((laws_eqContactS.f k O M).bind fun X => (if X = true then ((laws_toSky.f k s E G u x y z B I D).bind fun m => ((laws_eqSky.f k j.1 j.2.1 j.2.2.1 j.2.2.2.1 j.2.2.2.2.1 j.2.2.2.2.2.1 j.2.2.2.2.2.2.1 j.2.2.2.2.2.2.2.1 j.2.2.2.2.2.2.2.2.1 j.2.2.2.2.2.2.2.2.2 m.1 m.2.1 m.2.2.1 m.2.2.2.1 m.2.2.2.2.1 m.2.2.2.2.2.1 m.2.2.2.2.2.2.1 m.2.2.2.2.2.2.2.1 m.2.2.2.2.2.2.2.2.1 m.2.2.2.2.2.2.2.2.2).bind fun Y => (if Y = true then ((laws_markSky.f k j.1 j.2.1 j.2.2.1 j.2.2.2.1 j.2.2.2.2.1 j.2.2.2.2.2.1 j.2.2.2.2.2.2.1 j.2.2.2.2.2.2.2.1 j.2.2.2.2.2.2.2.2.1 j.2.2.2.2.2.2.2.2.2 1).bind fun T => (if T.1 < 0 then (laws_FnExactPlanOf.j0 k J L M O true s E G u x y z B I D) else ((laws_eqContactS.f k O M).bind fun Z => (laws_FnExactPlanOf.j0 k J L M O (!Z) s E G u x y z B I D)))) else (some false)))) else (some false))))))))
theorem laws_FnExactPlanOf.calls (k : Nat) (a0_0 : Int) (A0_1 : Option Addr) (c0_1 : Nat) (l0_1 : List S82) (A0_2 : Option Addr) (c0_2 : Nat) (l0_2 : List S84) (a0_3 : Int) (a0_4 : Int) (a0_5 : Int) (a0_6 : Int) (a0_7 : Int) (A0_8 : Option Addr) (c0_8 : Nat) (l0_8 : List S88) (a0_9 : Int) (a1 : Int) (a2 : Int) (r : Bool) (w : World) (hr0_1 : Kd.C k82 w A0_1 l0_1.length l0_1) (hc0_1 : l0_1.length ≤ c0_1) (hr0_2 : Kd.C k84 w A0_2 l0_2.length l0_2) (hc0_2 : l0_2.length ≤ c0_2) (hr0_8 : Kd.C k88 w A0_8 l0_8.length l0_8) (hc0_8 : l0_8.length ≤ c0_8) (h : laws_FnExactPlanOf.f k a0_0 l0_1 l0_2 a0_3 a0_4 a0_5 a0_6 a0_7 l0_8 a0_9 a1 a2 = some r) (hT_ : r = true := by rfl) :
  Calls Tryz.prog 4 #[.agg #[iv_ a0_0, .slice A0_1 l0_1.length c0_1, .slice A0_2 l0_2.length c0_2, iv_ a0_3, iv_ a0_4, iv_ a0_5, iv_ a0_6, iv_ a0_7, .slice A0_8 l0_8.length c0_8, iv_ a0_9], iv_ a1, iv_ a2] w fun e w' => e = .returned (.bool r) ∧ Below w.heap.size w w' := by
 have hu26 := Tryz.underlying26
 have hu34 := Tryz.underlying34
 have HR0_1 := Aside0.mk hr0_1
 have HC0_1 := Aside0.mk hc0_1
 clear hr0_1 hc0_1
 have HR0_2 := Aside0.mk hr0_2
 have HC0_2 := Aside0.mk hc0_2
 clear hr0_2 hc0_2
 have HR0_8 := Aside0.mk hr0_8
 have HC0_8 := Aside0.mk hc0_8
 clear hr0_8 hc0_8
 have HB := Aside0.mk (Below.refl w.heap.size w)
 subst hT_
 have H := h
 clear h
 unfold laws_FnExactPlanOf.f at H
 replace H := bs_ H
 obtain ⟨t685, A4, H⟩ := H
 by_cases c5 : t685 < 0
 ·rw [if_pos c5] at H
  have c5b0 := decide_eq_true c5
  clear c5
  clear H
  go_enter Tryz.func4, Tryz.ntmps4
  go_wp2_with (first | ((with_reducible refine gd_ 3 ?_); refine bx_ 3 26 #[iv_ a0_0, .slice A0_1 l0_1.length c0_1, .slice A0_2 l0_2.length c0_2, iv_ a0_3, iv_ a0_4, iv_ a0_5, iv_ a0_6, iv_ a0_7, .slice A0_8 l0_8.length c0_8, iv_ a0_9] ?_; intro gb684 hg w6 hbox hb; refine sh3_ (below_step (bl_ HB) hb) hbox (ge_ hg (bl_ HB)) ?_; clear HB hb hbox hg; intro HB BK684 GE684; have hcz7 := cf10_ BK684) | ((with_reducible refine gate_callee (f := 5) rfl ?_); refine gl_ 17 Tryz.func5 (laws_szSky.calls a0_0 _ _ l0_1 _ _ l0_2 a0_3 a0_4 a0_5 a0_6 a0_7 _ _ l0_8 a0_9 1048576 t685 _ (ck_ HR0_1 HB) HC0_1.out (ck_ HR0_2 HB) HC0_2.out (ck_ HR0_8 HB) HC0_8.out A4.out) ?_; rintro e w8 ⟨rfl, hb⟩; refine ⟨_, rfl, sh2_ (blk_below (bk_ BK684) hb) (below_step (bl1_ HB GE684) hb) ?_⟩; clear BK684 HB hb; intro BK684 HB))
  go_ret
  exact ⟨er_, bl1_ HB GE684⟩
 ·rw [if_neg c5] at H
  have c5b0 := decide_eq_false c5
  clear c5
  replace H := bs_ H
  obtain ⟨⟨t686, t687, t690, t693, t694, t695, t696, t697, t698, t701⟩, A9, H⟩ := H
  dsimp only at H
  replace H := bs_ H
  obtain ⟨t702, A10, H⟩ := H
  replace H := bs_ H
  obtain ⟨⟨t705, t706, t709, t712, t713, t714, t715, t716, t717, t720⟩, A11, H⟩ := H
  dsimp only at H
  replace H := bs_ H
  obtain ⟨t722, A12, H⟩ := H
  replace H := bs_ H
  obtain ⟨t725, A13, H⟩ := H
  by_cases c14 : t725 = true
  ·subst c14
   try rw [if_pos rfl] at H
   replace H := bs_ H
   obtain ⟨⟨t726, t727, t730, t733, t734, t735, t736, t737, t738, t741⟩, A15, H⟩ := H
   dsimp only at H
   replace H := bs_ H
   obtain ⟨t742, A16, H⟩ := H
   by_cases c17 : t742 = true
   ·subst c17
    try rw [if_pos rfl] at H
    replace H := bs_ H
    obtain ⟨⟨t743, t744, t745, t746⟩, A18, H⟩ := H
    dsimp only at H
    have HC19 := Aside0.mk H
    clear H
    go_enter Tryz.func4, Tryz.ntmps4
    try go_wp2_with (first | ((with_reducible refine gd_ 3 ?_); refine bx_ 3 26 #[iv_ a0_0, .slice A0_1 l0_1.length c0_1, .slice A0_2 l0_2.length c0_2, iv_ a0_3, iv_ a0_4, iv_ a0_5, iv_ a0_6, iv_ a0_7, .slice A0_8 l0_8.length c0_8, iv_ a0_9] ?_; intro gb684 hg w20 hbox hb; refine sh3_ (below_step (bl_ HB) hb) hbox (ge_ hg (bl_ HB)) ?_; clear HB hb hbox hg; intro HB BK684 GE684; have hcz21 := cf10_ BK684) | ((with_reducible refine gate_callee (f := 5) rfl ?_); refine gl_ 17 Tryz.func5 (laws_szSky.calls a0_0 _ _ l0_1 _ _ l0_2 a0_3 a0_4 a0_5 a0_6 a0_7 _ _ l0_8 a0_9 1048576 t685 _ (ck_ HR0_1 HB) HC0_1.out (ck_ HR0_2 HB) HC0_2.out (ck_ HR0_8 HB) HC0_8.out A4.out) ?_; rintro e w22 ⟨rfl, hb⟩; refine ⟨_, rfl, sh2_ (blk_below (bk_ BK684) hb) (below_step (bl1_ HB GE684) hb) ?_⟩; clear BK684 HB hb; intro BK684 HB; have hcz23 := cf10_ BK684) | ((with_reducible refine gate_callee (f := 7) rfl ?_); refine gl_ 21 Tryz.func7 (laws_toSky.calls k a0_0 _ _ l0_1 _ _ l0_2 a0_3 a0_4 a0_5 a0_6 a0_7 _ _ l0_8 a0_9 t686 t687 t690 t693 t694 t695 t696 t697 t698 t701 _ (ck_ HR0_1 HB) HC0_1.out (ck_ HR0_2 HB) HC0_2.out (ck_ HR0_8 HB) HC0_8.out A9.out) ?_; rintro e w24 ⟨v688, v691, v699, rfl, ho0, ho1, ho2, hb⟩; refine ⟨_, rfl, sh5_ (Kd.R_lower ho0 (below_size (bl1_ HB GE684))) (Kd.R_lower ho1 (below_size (bl1_ HB GE684))) (Kd.R_lower ho2 (below_size (bl1_ HB GE684))) (blk_below (bk_ BK684) hb) (below_step (bl1_ HB GE684) hb) ?_⟩; clear BK684 HB hb ho0 ho1 ho2; intro HO689 HO692 HO700 BK684 HB; obtain ⟨Ao25, co25, eo25⟩ := Kd.R_slice HO689.out; subst eo25; obtain ⟨Ao26, co26, eo26⟩ := Kd.R_slice HO692.out; subst eo26; obtain ⟨Ao27, co27, eo27⟩ := Kd.R_slice HO700.out; subst eo27) | ((with_reducible refine gate_callee (f := 14) rfl ?_); refine gl_ 24 Tryz.func14 (spec_PlanOf.calls k t686 _ _ t687 _ _ t690 t693 t694 t695 t696 t697 _ _ t698 t701 a1 a2 t702 _ (cr_ HO689) (rl_ HO689) (cr_ HO692) (rl_ HO692) (cr_ HO700) (rl_ HO700) A10.out) ?_; rintro e w28 ⟨v703, rfl, ho0, hb⟩; refine ⟨_, rfl, sh6_ (Kd.R_below (ra_ HO689) hb) (Kd.R_below (ra_ HO692) hb) (Kd.R_below (ra_ HO700) hb) (Kd.R_lower ho0 (below_size (bl1_ HB GE684))) (blk_below (bk_ BK684) hb) (below_step (bl1_ HB GE684) hb) ?_⟩; clear HO689 HO692 HO700 BK684 HB hb ho0; intro HO689 HO692 HO700 HO704 BK684 HB; have hcz29 := cf10_ BK684) | ((with_reducible refine gate_callee (f := 7) rfl ?_); refine gl_ 26 Tryz.func7 (laws_toSky.calls k a0_0 _ _ l0_1 _ _ l0_2 a0_3 a0_4 a0_5 a0_6 a0_7 _ _ l0_8 a0_9 t705 t706 t709 t712 t713 t714 t715 t716 t717 t720 _ (ck_ HR0_1 HB) HC0_1.out (ck_ HR0_2 HB) HC0_2.out (ck_ HR0_8 HB) HC0_8.out A11.out) ?_; rintro e w30 ⟨v707, v710, v718, rfl, ho0, ho1, ho2, hb⟩; refine ⟨_, rfl, sh9_ (Kd.R_elder' (ra_ HO689) (Kd.R_base ho0) hb) (Kd.R_elder' (ra_ HO692) (Kd.R_base ho1) hb) (Kd.R_elder' (ra_ HO700) (Kd.R_base ho2) hb) (Kd.R_below (ra_ HO704) hb) (Kd.R_lower (Kd.R_new' ho0 (Kd.R_lt (ra_ HO689))) (below_size (bl1_ HB GE684))) (Kd.R_lower (Kd.R_new' ho1 (Kd.R_lt (ra_ HO692))) (below_size (bl1_ HB GE684))) (Kd.R_lower (Kd.R_new' ho2 (Kd.R_lt (ra_ HO700))) (below_size (bl1_ HB GE684))) (blk_below (bk_ BK684) hb) (below_step (bl1_ HB GE684) hb) ?_⟩; clear HO689 HO692 HO700 HO704 BK684 HB hb ho0 ho1 ho2; intro HO689 HO692 HO700 HO704 HO708 HO711 HO719 BK684 HB) | ((with_reducible refine gd_ 9 ?_); refine bx_ 9 34 #[iv_ 0, .slice none 0 0, .slice none 0 0, iv_ 0, iv_ 0, iv_ 0, iv_ 0, iv_ 0, .slice none 0 0, iv_ 0] ?_; intro gb721 hg w31 hbox hb; refine sh13_ (Kd.R_below (ra_ HO689) hb) (Kd.R_below (ra_ HO692) hb) (Kd.R_below (ra_ HO700) hb) (Kd.R_below (ra_ HO704) hb) (Kd.R_below (ra_ HO708) hb) (Kd.R_below (ra_ HO711) hb) (Kd.R_below (ra_ HO719) hb) (blk_below (bk_ BK684) hb) (below_step (bl1_ HB GE684) hb) hbox (ge_ hg (bl1_ HB GE684)) (nl_ hg (bk_ BK684)) (ng_ hg (bk_ BK684)) ?_; clear HO689 HO692 HO700 HO704 HO708 HO711 HO719 BK684 HB hb hbox hg; intro HO689 HO692 HO700 HO704 HO708 HO711 HO719 BK684 HB BK721 GE721 NB684_721 NB721_684; have hnb32 := NB721_684.out; have hnc32 := NB684_721.out; have hcz33 := cf10_ BK721; obtain ⟨Ao34, co34, eo34⟩ := Kd.R_slice HO708.out; subst eo34; obtain ⟨Ao35, co35, eo35⟩ := Kd.R_slice HO711.out; subst eo35; obtain ⟨Ao36, co36, eo36⟩ := Kd.R_slice HO719.out; subst eo36) | ((with_reducible refine gate_callee (f := 15) rfl ?_); refine goesL_ (some 30) rfl rfl Tryz.func15 (by kernel_rfl) rfl #[.agg #[iv_ t705, .slice Ao34 t706.length co34, .slice Ao35 t709.length co35, iv_ t712, iv_ t713, iv_ t714, iv_ t715, iv_ t716, .slice Ao36 t717.length co36, iv_ t720], iv_ a1, iv_ a2] rfl mp_ ?_; (with_reducible refine (impl_PlanOf.calls k t705 _ _ t706 _ _ t709 t712 t713 t714 t715 t716 _ _ t717 t720 a1 a2 t722 _ ?side1 ?side2 ?side3 ?side4 ?side5 ?side6 A12.out).mono ?_); (case side1 => refine (Kd.R_reads' (e := 68) (base := w.heap.size) (ok := fun k_ => (True ∧ some k_ ≠ (.slice Ao25 t687.length co25 : Value).ownBlock)) (n := t706.length) (c := co34) ?_).2.2; exact (by (with_reducible repeat (first | apply Kd.R_alloc | apply Kd.R_drewN | apply Kd.R_drew)); exact (Kd.R_mono (Kd.R_far (p := ⟨gb721, 9, none⟩) (Kd.R_far (p := ⟨gb721, 8, none⟩) (Kd.R_far (p := ⟨gb721, 7, none⟩) (Kd.R_far (p := ⟨gb721, 6, none⟩) (Kd.R_far (p := ⟨gb721, 5, none⟩) (Kd.R_far (p := ⟨gb721, 4, none⟩) (Kd.R_far (p := ⟨gb721, 3, none⟩) (Kd.R_far (p := ⟨gb721, 2, none⟩) (Kd.R_far (p := ⟨gb721, 1, none⟩) (Kd.R_far (p := ⟨gb721, 0, none⟩) (Kd.R_types HO708.out BK721.out (by decide)) (fun _ hk => hk.2) (iv_ t705)) (fun _ hk => hk.2) (.slice Ao34 t706.length co34)) (fun _ hk => hk.2) (.slice Ao35 t709.length co35)) (fun _ hk => hk.2) (iv_ t712)) (fun _ hk => hk.2) (iv_ t713)) (fun _ hk => hk.2) (iv_ t714)) (fun _ hk => hk.2) (iv_ t715)) (fun _ hk => hk.2) (iv_ t716)) (fun _ hk => hk.2) (.slice Ao36 t717.length co36)) (fun _ hk => hk.2) (iv_ t720)) (fun _ h_ => h_.1)))); (case side2 => exact (Kd.R_reads' HO708.out).2.1); (case side3 => refine (Kd.R_reads' (e := 70) (base := w.heap.size) (ok := fun k_ => (True ∧ some k_ ≠ (.slice Ao26 t690.length co26 : Value).ownBlock)) (n := t709.length) (c := co35) ?_).2.2; exact (by (with_reducible repeat (first | apply Kd.R_alloc | apply Kd.R_drewN | apply Kd.R_drew)); exact (Kd.R_mono (Kd.R_far (p := ⟨gb721, 9, none⟩) (Kd.R_far (p := ⟨gb721, 8, none⟩) (Kd.R_far (p := ⟨gb721, 7, none⟩) (Kd.R_far (p := ⟨gb721, 6, none⟩) (Kd.R_far (p := ⟨gb721, 5, none⟩) (Kd.R_far (p := ⟨gb721, 4, none⟩) (Kd.R_far (p := ⟨gb721, 3, none⟩) (Kd.R_far (p := ⟨gb721, 2, none⟩) (Kd.R_far (p := ⟨gb721, 1, none⟩) (Kd.R_far (p := ⟨gb721, 0, none⟩) (Kd.R_types HO711.out BK721.out (by decide)) (fun _ hk => hk.2) (iv_ t705)) (fun _ hk => hk.2) (.slice Ao34 t706.length co34)) (fun _ hk => hk.2) (.slice Ao35 t709.length co35)) (fun _ hk => hk.2) (iv_ t712)) (fun _ hk => hk.2) (iv_ t713)) (fun _ hk => hk.2) (iv_ t714)) (fun _ hk => hk.2) (iv_ t715)) (fun _ hk => hk.2) (iv_ t716)) (fun _ hk => hk.2) (.slice Ao36 t717.length co36)) (fun _ hk => hk.2) (iv_ t720)) (fun _ h_ => h_.1)))); (case side4 => exact (Kd.R_reads' HO711.out).2.1); (case side5 => refine (Kd.R_reads' (e := 76) (base := w.heap.size) (ok := fun k_ => (True ∧ some k_ ≠ (.slice Ao27 t698.length co27 : Value).ownBlock)) (n := t717.length) (c := co36) ?_).2.2; exact (by (with_reducible repeat (first | apply Kd.R_alloc | apply Kd.R_drewN | apply Kd.R_drew)); exact (Kd.R_mono (Kd.R_far (p := ⟨gb721, 9, none⟩) (Kd.R_far (p := ⟨gb721, 8, none⟩) (Kd.R_far (p := ⟨gb721, 7, none⟩) (Kd.R_far (p := ⟨gb721, 6, none⟩) (Kd.R_far (p := ⟨gb721, 5, none⟩) (Kd.R_far (p := ⟨gb721, 4, none⟩) (Kd.R_far (p := ⟨gb721, 3, none⟩) (Kd.R_far (p := ⟨gb721, 2, none⟩) (Kd.R_far (p := ⟨gb721, 1, none⟩) (Kd.R_far (p := ⟨gb721, 0, none⟩) (Kd.R_types HO719.out BK721.out (by decide)) (fun _ hk => hk.2) (iv_ t705)) (fun _ hk => hk.2) (.slice Ao34 t706.length co34)) (fun _ hk => hk.2) (.slice Ao35 t709.length co35)) (fun _ hk => hk.2) (iv_ t712)) (fun _ hk => hk.2) (iv_ t713)) (fun _ hk => hk.2) (iv_ t714)) (fun _ hk => hk.2) (iv_ t715)) (fun _ hk => hk.2) (iv_ t716)) (fun _ hk => hk.2) (.slice Ao36 t717.length co36)) (fun _ hk => hk.2) (iv_ t720)) (fun _ h_ => h_.1)))); (case side6 => exact (Kd.R_reads' HO719.out).2.1); rintro e w37 ⟨v723, rfl, ho0, hb⟩; refine ⟨_, rfl, sh11_ (Kd.R_below (by (with_reducible repeat (first | apply Kd.R_alloc | apply Kd.R_drewN | apply Kd.R_drew)); exact (Kd.R_mono (Kd.R_far (p := ⟨gb721, 9, none⟩) (Kd.R_far (p := ⟨gb721, 8, none⟩) (Kd.R_far (p := ⟨gb721, 7, none⟩) (Kd.R_far (p := ⟨gb721, 6, none⟩) (Kd.R_far (p := ⟨gb721, 5, none⟩) (Kd.R_far (p := ⟨gb721, 4, none⟩) (Kd.R_far (p := ⟨gb721, 3, none⟩) (Kd.R_far (p := ⟨gb721, 2, none⟩) (Kd.R_far (p := ⟨gb721, 1, none⟩) (Kd.R_far (p := ⟨gb721, 0, none⟩) (Kd.R_types HO689.out BK721.out (by decide)) (fun _ hk => hk.2) (iv_ t705)) (fun _ hk => hk.2) (.slice Ao34 t706.length co34)) (fun _ hk => hk.2) (.slice Ao35 t709.length co35)) (fun _ hk => hk.2) (iv_ t712)) (fun _ hk => hk.2) (iv_ t713)) (fun _ hk => hk.2) (iv_ t714)) (fun _ hk => hk.2) (iv_ t715)) (fun _ hk => hk.2) (iv_ t716)) (fun _ hk => hk.2) (.slice Ao36 t717.length co36)) (fun _ hk => hk.2) (iv_ t720)) (fun _ h_ => h_.1))) hb) (Kd.R_below (by (with_reducible repeat (first | apply Kd.R_alloc | apply Kd.R_drewN | apply Kd.R_drew)); exact (Kd.R_mono (Kd.R_far (p := ⟨gb721, 9, none⟩) (Kd.R_far (p := ⟨gb721, 8, none⟩) (Kd.R_far (p := ⟨gb721, 7, none⟩) (Kd.R_far (p := ⟨gb721, 6, none⟩) (Kd.R_far (p := ⟨gb721, 5, none⟩) (Kd.R_far (p := ⟨gb721, 4, none⟩) (Kd.R_far (p := ⟨gb721, 3, none⟩) (Kd.R_far (p := ⟨gb721, 2, none⟩) (Kd.R_far (p := ⟨gb721, 1, none⟩) (Kd.R_far (p := ⟨gb721, 0, none⟩) (Kd.R_types HO692.out BK721.out (by decide)) (fun _ hk => hk.2) (iv_ t705)) (fun _ hk => hk.2) (.slice Ao34 t706.length co34)) (fun _ hk => hk.2) (.slice Ao35 t709.length co35)) (fun _ hk => hk.2) (iv_ t712)) (fun _ hk => hk.2) (iv_ t713)) (fun _ hk => hk.2) (iv_ t714)) (fun _ hk => hk.2) (iv_ t715)) (fun _ hk => hk.2) (iv_ t716)) (fun _ hk => hk.2) (.slice Ao36 t717.length co36)) (fun _ hk => hk.2) (iv_ t720)) (fun _ h_ => h_.1))) hb) (Kd.R_below (by (with_reducible repeat (first | apply Kd.R_alloc | apply Kd.R_drewN | apply Kd.R_drew)); exact (Kd.R_mono (Kd.R_far (p := ⟨gb721, 9, none⟩) (Kd.R_far (p := ⟨gb721, 8, none⟩) (Kd.R_far (p := ⟨gb721, 7, none⟩) (Kd.R_far (p := ⟨gb721, 6, none⟩) (Kd.R_far (p := ⟨gb721, 5, none⟩) (Kd.R_far (p := ⟨gb721, 4, none⟩) (Kd.R_far (p := ⟨gb721, 3, none⟩) (Kd.R_far (p := ⟨gb721, 2, none⟩) (Kd.R_far (p := ⟨gb721, 1, none⟩) (Kd.R_far (p := ⟨gb721, 0, none⟩) (Kd.R_types HO700.out BK721.out (by decide)) (fun _ hk => hk.2) (iv_ t705)) (fun _ hk => hk.2) (.slice Ao34 t706.length co34)) (fun _ hk => hk.2) (.slice Ao35 t709.length co35)) (fun _ hk => hk.2) (iv_ t712)) (fun _ hk => hk.2) (iv_ t713)) (fun _ hk => hk.2) (iv_ t714)) (fun _ hk => hk.2) (iv_ t715)) (fun _ hk => hk.2) (iv_ t716)) (fun _ hk => hk.2) (.slice Ao36 t717.length co36)) (fun _ hk => hk.2) (iv_ t720)) (fun _ h_ => h_.1))) hb) (Kd.R_elder' (by (with_reducible repeat (first | apply Kd.R_alloc | apply Kd.R_drewN | apply Kd.R_drew)); exact (Kd.R_mono (Kd.R_far (p := ⟨gb721, 9, none⟩) (Kd.R_far (p := ⟨gb721, 8, none⟩) (Kd.R_far (p := ⟨gb721, 7, none⟩) (Kd.R_far (p := ⟨gb721, 6, none⟩) (Kd.R_far (p := ⟨gb721, 5, none⟩) (Kd.R_far (p := ⟨gb721, 4, none⟩) (Kd.R_far (p := ⟨gb721, 3, none⟩) (Kd.R_far (p := ⟨gb721, 2, none⟩) (Kd.R_far (p := ⟨gb721, 1, none⟩) (Kd.R_far (p := ⟨gb721, 0, none⟩) (Kd.R_types HO704.out BK721.out (by decide)) (fun _ hk => hk.2) (iv_ t705)) (fun _ hk => hk.2) (.slice Ao34 t706.length co34)) (fun _ hk => hk.2) (.slice Ao35 t709.length co35)) (fun _ hk => hk.2) (iv_ t712)) (fun _ hk => hk.2) (iv_ t713)) (fun _ hk => hk.2) (iv_ t714)) (fun _ hk => hk.2) (iv_ t715)) (fun _ hk => hk.2) (iv_ t716)) (fun _ hk => hk.2) (.slice Ao36 t717.length co36)) (fun _ hk => hk.2) (iv_ t720)) (fun _ h_ => h_.1))) (Kd.R_base ho0) hb) (Kd.R_below (by (with_reducible repeat (first | apply Kd.R_alloc | apply Kd.R_drewN | apply Kd.R_drew)); exact (Kd.R_mono (Kd.R_far (p := ⟨gb721, 9, none⟩) (Kd.R_far (p := ⟨gb721, 8, none⟩) (Kd.R_far (p := ⟨gb721, 7, none⟩) (Kd.R_far (p := ⟨gb721, 6, none⟩) (Kd.R_far (p := ⟨gb721, 5, none⟩) (Kd.R_far (p := ⟨gb721, 4, none⟩) (Kd.R_far (p := ⟨gb721, 3, none⟩) (Kd.R_far (p := ⟨gb721, 2, none⟩) (Kd.R_far (p := ⟨gb721, 1, none⟩) (Kd.R_far (p := ⟨gb721, 0, none⟩) (Kd.R_types HO708.out BK721.out (by decide)) (fun _ hk => hk.2) (iv_ t705)) (fun _ hk => hk.2) (.slice Ao34 t706.length co34)) (fun _ hk => hk.2) (.slice Ao35 t709.length co35)) (fun _ hk => hk.2) (iv_ t712)) (fun _ hk => hk.2) (iv_ t713)) (fun _ hk => hk.2) (iv_ t714)) (fun _ hk => hk.2) (iv_ t715)) (fun _ hk => hk.2) (iv_ t716)) (fun _ hk => hk.2) (.slice Ao36 t717.length co36)) (fun _ hk => hk.2) (iv_ t720)) (fun _ h_ => h_.1))) hb) (Kd.R_below (by (with_reducible repeat (first | apply Kd.R_alloc | apply Kd.R_drewN | apply Kd.R_drew)); exact (Kd.R_mono (Kd.R_far (p := ⟨gb721, 9, none⟩) (Kd.R_far (p := ⟨gb721, 8, none⟩) (Kd.R_far (p := ⟨gb721, 7, none⟩) (Kd.R_far (p := ⟨gb721, 6, none⟩) (Kd.R_far (p := ⟨gb721, 5, none⟩) (Kd.R_far (p := ⟨gb721, 4, none⟩) (Kd.R_far (p := ⟨gb721, 3, none⟩) (Kd.R_far (p := ⟨gb721, 2, none⟩) (Kd.R_far (p := ⟨gb721, 1, none⟩) (Kd.R_far (p := ⟨gb721, 0, none⟩) (Kd.R_types HO711.out BK721.out (by decide)) (fun _ hk => hk.2) (iv_ t705)) (fun _ hk => hk.2) (.slice Ao34 t706.length co34)) (fun _ hk => hk.2) (.slice Ao35 t709.length co35)) (fun _ hk => hk.2) (iv_ t712)) (fun _ hk => hk.2) (iv_ t713)) (fun _ hk => hk.2) (iv_ t714)) (fun _ hk => hk.2) (iv_ t715)) (fun _ hk => hk.2) (iv_ t716)) (fun _ hk => hk.2) (.slice Ao36 t717.length co36)) (fun _ hk => hk.2) (iv_ t720)) (fun _ h_ => h_.1))) hb) (Kd.R_below (by (with_reducible repeat (first | apply Kd.R_alloc | apply Kd.R_drewN | apply Kd.R_drew)); exact (Kd.R_mono (Kd.R_far (p := ⟨gb721, 9, none⟩) (Kd.R_far (p := ⟨gb721, 8, none⟩) (Kd.R_far (p := ⟨gb721, 7, none⟩) (Kd.R_far (p := ⟨gb721, 6, none⟩) (Kd.R_far (p := ⟨gb721, 5, none⟩) (Kd.R_far (p := ⟨gb721, 4, none⟩) (Kd.R_far (p := ⟨gb721, 3, none⟩) (Kd.R_far (p := ⟨gb721, 2, none⟩) (Kd.R_far (p := ⟨gb721, 1, none⟩) (Kd.R_far (p := ⟨gb721, 0, none⟩) (Kd.R_types HO719.out BK721.out (by decide)) (fun _ hk => hk.2) (iv_ t705)) (fun _ hk => hk.2) (.slice Ao34 t706.length co34)) (fun _ hk => hk.2) (.slice Ao35 t709.length co35)) (fun _ hk => hk.2) (iv_ t712)) (fun _ hk => hk.2) (iv_ t713)) (fun _ hk => hk.2) (iv_ t714)) (fun _ hk => hk.2) (iv_ t715)) (fun _ hk => hk.2) (iv_ t716)) (fun _ hk => hk.2) (.slice Ao36 t717.length co36)) (fun _ hk => hk.2) (iv_ t720)) (fun _ h_ => h_.1))) hb) (Kd.R_lower (Kd.R_new' ho0 (Kd.R_lt (by (with_reducible repeat (first | apply Kd.R_alloc | apply Kd.R_drewN | apply Kd.R_drew)); exact (Kd.R_mono (Kd.R_far (p := ⟨gb721, 9, none⟩) (Kd.R_far (p := ⟨gb721, 8, none⟩) (Kd.R_far (p := ⟨gb721, 7, none⟩) (Kd.R_far (p := ⟨gb721, 6, none⟩) (Kd.R_far (p := ⟨gb721, 5, none⟩) (Kd.R_far (p := ⟨gb721, 4, none⟩) (Kd.R_far (p := ⟨gb721, 3, none⟩) (Kd.R_far (p := ⟨gb721, 2, none⟩) (Kd.R_far (p := ⟨gb721, 1, none⟩) (Kd.R_far (p := ⟨gb721, 0, none⟩) (Kd.R_types HO704.out BK721.out (by decide)) (fun _ hk => hk.2) (iv_ t705)) (fun _ hk => hk.2) (.slice Ao34 t706.length co34)) (fun _ hk => hk.2) (.slice Ao35 t709.length co35)) (fun _ hk => hk.2) (iv_ t712)) (fun _ hk => hk.2) (iv_ t713)) (fun _ hk => hk.2) (iv_ t714)) (fun _ hk => hk.2) (iv_ t715)) (fun _ hk => hk.2) (iv_ t716)) (fun _ hk => hk.2) (.slice Ao36 t717.length co36)) (fun _ hk => hk.2) (iv_ t720)) (fun _ h_ => h_.1))))) (below_size (bl2_ HB GE684 GE721))) (blk_below (g := gb684) (o := .cells #[iv_ a0_0, .slice A0_1 l0_1.length c0_1, .slice A0_2 l0_2.length c0_2, iv_ a0_3, iv_ a0_4, iv_ a0_5, iv_ a0_6, iv_ a0_7, .slice A0_8 l0_8.length c0_8, iv_ a0_9] 26 (0, 0)) (bp_ BK684) hb) (blk_below (g := gb721) (o := .cells #[iv_ t705, .slice Ao34 t706.length co34, .slice Ao35 t709.length co35, iv_ t712, iv_ t713, iv_ t714, iv_ t715, iv_ t716, .slice Ao36 t717.length co36, iv_ t720] 34 (0, 0)) (bp_ BK721) hb) (below_step (bl2_ HB GE684 GE721) hb) ?_⟩; clear HO689 HO692 HO700 HO704 HO708 HO711 HO719 BK684 BK721 HB hb ho0; intro HO689 HO692 HO700 HO704 HO708 HO711 HO719 HO724 BK684 BK721 HB; obtain ⟨Ao38, co38, eo38⟩ := Kd.R_slice HO724.out; subst eo38; obtain ⟨Ao39, co39, eo39⟩ := Kd.R_slice HO704.out; subst eo39) | ((with_reducible refine gate_callee (f := 9) rfl ?_); refine gl_ 33 Tryz.func9 (laws_eqContactS.calls k _ _ t722 _ _ t702 true _ (cr_ HO724) (rl_ HO724) (cr_ HO704) (rl_ HO704) A13.out) ?_; rintro e w40 ⟨rfl, hb⟩; refine ⟨_, rfl, sh11_ (Kd.R_below (ra_ HO689) hb) (Kd.R_below (ra_ HO692) hb) (Kd.R_below (ra_ HO700) hb) (Kd.R_below (ra_ HO704) hb) (Kd.R_below (ra_ HO708) hb) (Kd.R_below (ra_ HO711) hb) (Kd.R_below (ra_ HO719) hb) (Kd.R_below (ra_ HO724) hb) (blk_below (bk_ BK684) hb) (blk_below (bk_ BK721) hb) (below_step (bl2_ HB GE684 GE721) hb) ?_⟩; clear HO689 HO692 HO700 HO704 HO708 HO711 HO719 HO724 BK684 BK721 HB hb; intro HO689 HO692 HO700 HO704 HO708 HO711 HO719 HO724 BK684 BK721 HB))
    refine sh11_ (Kd.R_drew HO689.out) (Kd.R_drew HO692.out) (Kd.R_drew HO700.out) (Kd.R_drew HO704.out) (Kd.R_drew HO708.out) (Kd.R_drew HO711.out) (Kd.R_drew HO719.out) (Kd.R_drew HO724.out) (blk_drew BK684.out) (blk_drew BK721.out) (below_drew1 HB.out) ?_
    clear HO689 HO692 HO700 HO704 HO708 HO711 HO719 HO724 BK684 BK721 HB
    intro HO689 HO692 HO700 HO704 HO708 HO711 HO719 HO724 BK684 BK721 HB
    refine start_ (n := 5) (S := fun w' => Ck10 w' gb721 (iv_ t705) (.slice Ao34 t706.length co34) (.slice Ao35 t709.length co35) (iv_ t712) (iv_ t713) (iv_ t714) (iv_ t715) (iv_ t716) (.slice Ao36 t717.length co36) (iv_ t720) (Cz10 w' gb684 (iv_ a0_0) (.slice A0_1 l0_1.length c0_1) (.slice A0_2 l0_2.length c0_2) (iv_ a0_3) (iv_ a0_4) (iv_ a0_5) (iv_ a0_6) (iv_ a0_7) (.slice A0_8 l0_8.length c0_8) (iv_ a0_9))) (ds := []) (bo_ 5 0) (by kernel_rfl) rfl rfl ⟨(bc_ BK721 0 rfl), (bc_ BK721 1 rfl), (bc_ BK721 2 rfl), (bc_ BK721 3 rfl), (bc_ BK721 4 rfl), (bc_ BK721 5 rfl), (bc_ BK721 6 rfl), (bc_ BK721 7 rfl), (bc_ BK721 8 rfl), (bc_ BK721 9 rfl), cz10_ BK684⟩ (fun hHeld => ?_)
    generalize w40.drew = w41 at HO689 HO692 HO700 HO704 HO708 HO711 HO719 HO724 BK684 BK721 HB hHeld ⊢
    refine take_ (i := 0) (N := some 35) (v := ?_) (a' := ?_) (bo_ 5 1) rfl rfl (by kernel_rfl) (fun _ _ _ h => h) (Or.inl ⟨by rfl, ?_⟩) hHeld ?_ ?_
    rotate_left
    ·rintro w' ⟨s0, s1, s2, s3, s4, s5, s6, s7, s8, s9, s10, s11, s12, s13, s14, s15, s16, s17, s18, s19⟩
     go_simp
     with_reducible rfl
    rotate_left
    ·simp only [Act.put, List.setIfInBounds_toArray, List.set_cons_zero, List.set_cons_succ, i64_w, i32_w]
     rfl
    refine take_ (i := 1) (N := some 36) (v := ?_) (a' := ?_) (bo_ 5 3) rfl rfl (by kernel_rfl) (fun _ _ _ h => h) (Or.inl ⟨by rfl, ?_⟩) hHeld ?_ ?_
    rotate_left
    ·rintro w' ⟨s0, s1, s2, s3, s4, s5, s6, s7, s8, s9, s10, s11, s12, s13, s14, s15, s16, s17, s18, s19⟩
     go_simp
     with_reducible rfl
    rotate_left
    ·simp only [Act.put, List.setIfInBounds_toArray, List.set_cons_zero, List.set_cons_succ, i64_w, i32_w]
     rfl
    refine one_ (i := 2) (N := some 37) (bo_ 5 7) rfl rfl (by kernel_rfl) (by decide) (fun K hK => ?_)
    refine goes_ Tryz.func7 (by kernel_rfl) rfl #[.agg #[iv_ a0_0, .slice A0_1 l0_1.length c0_1, .slice A0_2 l0_2.length c0_2, iv_ a0_3, iv_ a0_4, iv_ a0_5, iv_ a0_6, iv_ a0_7, .slice A0_8 l0_8.length c0_8, iv_ a0_9]] (by rfl) rfl rfl mp_ ?_
    with_reducible refine (laws_toSky.calls k a0_0 _ _ l0_1 _ _ l0_2 a0_3 a0_4 a0_5 a0_6 a0_7 _ _ l0_8 a0_9 t726 t727 t730 t733 t734 t735 t736 t737 t738 t741 _ ?side1 ?side2 ?side3 ?side4 ?side5 ?side6 A15.out).mono ?_
    (case side1 => exact ck_ HR0_1 HB)
    (case side2 => exact HC0_1.out)
    (case side3 => exact ck_ HR0_2 HB)
    (case side4 => exact HC0_2.out)
    (case side5 => exact ck_ HR0_8 HB)
    (case side6 => exact HC0_8.out)
    rintro e w42 ⟨v728, v731, v739, rfl, ho0, ho1, ho2, hb⟩
    refine ⟨_, rfl, sh14_ (Kd.R_elder' (ra_ HO689) (Kd.R_base ho0) hb) (Kd.R_elder' (ra_ HO692) (Kd.R_base ho1) hb) (Kd.R_elder' (ra_ HO700) (Kd.R_base ho2) hb) (Kd.R_below (ra_ HO704) hb) (Kd.R_elder' (ra_ HO708) (Kd.R_base ho0) hb) (Kd.R_elder' (ra_ HO711) (Kd.R_base ho1) hb) (Kd.R_elder' (ra_ HO719) (Kd.R_base ho2) hb) (Kd.R_below (ra_ HO724) hb) (Kd.R_lower (Kd.R_new' (Kd.R_new' ho0 (Kd.R_lt (ra_ HO689))) (Kd.R_lt (ra_ HO708))) (below_size (bl2_ HB GE684 GE721))) (Kd.R_lower (Kd.R_new' (Kd.R_new' ho1 (Kd.R_lt (ra_ HO692))) (Kd.R_lt (ra_ HO711))) (below_size (bl2_ HB GE684 GE721))) (Kd.R_lower (Kd.R_new' (Kd.R_new' ho2 (Kd.R_lt (ra_ HO700))) (Kd.R_lt (ra_ HO719))) (below_size (bl2_ HB GE684 GE721))) (blk_below (bk_ BK684) hb) (blk_below (bk_ BK721) hb) (below_step (bl2_ HB GE684 GE721) hb) ?_⟩
    clear HO689 HO692 HO700 HO704 HO708 HO711 HO719 HO724 BK684 BK721 HB hb ho0 ho1 ho2
    intro HO689 HO692 HO700 HO704 HO708 HO711 HO719 HO724 HO729 HO732 HO740 BK684 BK721 HB
    obtain ⟨Ao43, co43, eo43⟩ := Kd.R_slice HO729.out
    (first | subst eo43 | (injection eo43 with f1_ f2_ f3_; have f4_ := f1_.symm; have f5_ := f3_.symm; clear f1_ f2_ f3_; subst f4_; subst f5_))
    obtain ⟨Ao44, co44, eo44⟩ := Kd.R_slice HO732.out
    (first | subst eo44 | (injection eo44 with f1_ f2_ f3_; have f4_ := f1_.symm; have f5_ := f3_.symm; clear f1_ f2_ f3_; subst f4_; subst f5_))
    obtain ⟨Ao45, co45, eo45⟩ := Kd.R_slice HO740.out
    (first | subst eo45 | (injection eo45 with f1_ f2_ f3_; have f4_ := f1_.symm; have f5_ := f3_.symm; clear f1_ f2_ f3_; subst f4_; subst f5_))
    refine hK.out _ _ ⟨(bc_ BK721 0 rfl), (bc_ BK721 1 rfl), (bc_ BK721 2 rfl), (bc_ BK721 3 rfl), (bc_ BK721 4 rfl), (bc_ BK721 5 rfl), (bc_ BK721 6 rfl), (bc_ BK721 7 rfl), (bc_ BK721 8 rfl), (bc_ BK721 9 rfl), cz10_ BK684⟩ (fun hHeld => ?_)
    clear hK K
    refine norm_ (show Act.put _ (some 37) _ = _ from pt_) ?_
    refine one_ (i := 3) (N := some 38) (bo_ 5 15) rfl rfl (by kernel_rfl) (by decide) (fun K hK => ?_)
    refine goes_ Tryz.func10 (by kernel_rfl) rfl #[.agg #[iv_ t705, .slice Ao34 t706.length co34, .slice Ao35 t709.length co35, iv_ t712, iv_ t713, iv_ t714, iv_ t715, iv_ t716, .slice Ao36 t717.length co36, iv_ t720], .agg #[iv_ t726, .slice Ao43 t727.length co43, .slice Ao44 t730.length co44, iv_ t733, iv_ t734, iv_ t735, iv_ t736, iv_ t737, .slice Ao45 t738.length co45, iv_ t741]] (by rfl) rfl rfl mp_ ?_
    with_reducible refine (laws_eqSky.calls k t705 _ _ t706 _ _ t709 t712 t713 t714 t715 t716 _ _ t717 t720 t726 _ _ t727 _ _ t730 t733 t734 t735 t736 t737 _ _ t738 t741 true _ ?side1 ?side2 ?side3 ?side4 ?side5 ?side6 ?side7 ?side8 ?side9 ?side10 ?side11 ?side12 A16.out).mono ?_
    (case side1 => repeat (first | exact (Kd.R_reads' HO708.out).2.2 | (with_reducible refine Kd.C_alloc ?_ _) | (with_reducible refine Kd.C_drewN ?_ _) | (with_reducible refine Kd.C_drew ?_)))
    (case side2 => exact (Kd.R_reads' HO708.out).2.1)
    (case side3 => repeat (first | exact (Kd.R_reads' HO711.out).2.2 | (with_reducible refine Kd.C_alloc ?_ _) | (with_reducible refine Kd.C_drewN ?_ _) | (with_reducible refine Kd.C_drew ?_)))
    (case side4 => exact (Kd.R_reads' HO711.out).2.1)
    (case side5 => repeat (first | exact (Kd.R_reads' HO719.out).2.2 | (with_reducible refine Kd.C_alloc ?_ _) | (with_reducible refine Kd.C_drewN ?_ _) | (with_reducible refine Kd.C_drew ?_)))
    (case side6 => exact (Kd.R_reads' HO719.out).2.1)
    (case side7 => repeat (first | exact (Kd.R_reads' HO729.out).2.2 | (with_reducible refine Kd.C_alloc ?_ _) | (with_reducible refine Kd.C_drewN ?_ _) | (with_reducible refine Kd.C_drew ?_)))
    (case side8 => exact (Kd.R_reads' HO729.out).2.1)
    (case side9 => repeat (first | exact (Kd.R_reads' HO732.out).2.2 | (with_reducible refine Kd.C_alloc ?_ _) | (with_reducible refine Kd.C_drewN ?_ _) | (with_reducible refine Kd.C_drew ?_)))
    (case side10 => exact (Kd.R_reads' HO732.out).2.1)
    (case side11 => repeat (first | exact (Kd.R_reads' HO740.out).2.2 | (with_reducible refine Kd.C_alloc ?_ _) | (with_reducible refine Kd.C_drewN ?_ _) | (with_reducible refine Kd.C_drew ?_)))
    (case side12 => exact (Kd.R_reads' HO740.out).2.1)
    rintro e w46 ⟨rfl, hb⟩
    refine ⟨_, rfl, sh14_ (Kd.R_below (ra_ HO689) hb) (Kd.R_below (ra_ HO692) hb) (Kd.R_below (ra_ HO700) hb) (Kd.R_below (ra_ HO704) hb) (Kd.R_below (ra_ HO708) hb) (Kd.R_below (ra_ HO711) hb) (Kd.R_below (ra_ HO719) hb) (Kd.R_below (ra_ HO724) hb) (Kd.R_below (ra_ HO729) hb) (Kd.R_below (ra_ HO732) hb) (Kd.R_below (ra_ HO740) hb) (blk_below (bk_ BK684) hb) (blk_below (bk_ BK721) hb) (below_step (bl2_ HB GE684 GE721) hb) ?_⟩
    clear HO689 HO692 HO700 HO704 HO708 HO711 HO719 HO724 HO729 HO732 HO740 BK684 BK721 HB hb
    intro HO689 HO692 HO700 HO704 HO708 HO711 HO719 HO724 HO729 HO732 HO740 BK684 BK721 HB
    refine hK.out _ _ ⟨(bc_ BK721 0 rfl), (bc_ BK721 1 rfl), (bc_ BK721 2 rfl), (bc_ BK721 3 rfl), (bc_ BK721 4 rfl), (bc_ BK721 5 rfl), (bc_ BK721 6 rfl), (bc_ BK721 7 rfl), (bc_ BK721 8 rfl), (bc_ BK721 9 rfl), cz10_ BK684⟩ (fun hHeld => ?_)
    clear hK K
    refine norm_ (show Act.put _ (some 38) _ = _ from pt_) ?_
    refine pu0_ 4 (bo_ 5 31) (some 39) ?_
    refine done_ (by kernel_rfl) ?_
    have hcz47 := cf10_ BK721
    go_upto_region 14 with (first | ((with_reducible refine gate_callee (f := 11) rfl ?_); refine goesL_ (some 42) rfl rfl Tryz.func11 (by kernel_rfl) rfl #[.agg #[iv_ t705, .slice Ao34 t706.length co34, .slice Ao35 t709.length co35, iv_ t712, iv_ t713, iv_ t714, iv_ t715, iv_ t716, .slice Ao36 t717.length co36, iv_ t720], iv_ 1] rfl mp_ ?_; (with_reducible refine (laws_markSky.calls k t705 (fun k_ => some k_ = (.slice Ao34 t706.length co34 : Value).ownBlock) (.slice Ao34 t706.length co34) t706 (fun k_ => some k_ = (.slice Ao35 t709.length co35 : Value).ownBlock) (.slice Ao35 t709.length co35) t709 t712 t713 t714 t715 t716 (fun k_ => some k_ = (.slice Ao36 t717.length co36 : Value).ownBlock) (.slice Ao36 t717.length co36) t717 t720 1 t743 t744 t745 t746 w _ ?side1 ?side2 ?side3 ?side4 A18.out).mono ?_); (case side1 => repeat (first | (with_reducible first | exact HB.out | apply below_alloc | apply pw_below_drewN | apply below_drew1 | refine below_set ?_ GE684.out | refine below_set ?_ GE721.out) | exact HB.out)); (case side2 => exact Kd.R_tight rfl HO708.out); (case side3 => exact Kd.R_tight rfl HO711.out); (case side4 => exact Kd.R_tight rfl HO719.out); rintro e w48 ⟨rfl, hy0, hy1, hy2, hb, hkp⟩; refine ⟨_, rfl, sh14_ (blk_kept (bk_ BK684) hkp (fun hs_ => Or.elim hs_ (fun e_ => (fun e_ => (Kd.R_ne HO708.out BK684.out (by decide)) e_) e_) (fun e_ => Or.elim e_ (fun e_ => (fun e_ => (Kd.R_ne HO711.out BK684.out (by decide)) e_) e_) (fun e_ => (fun e_ => (Kd.R_ne HO719.out BK684.out (by decide)) e_) e_)))) (Kd.R_mono (ok' := fun k_ => some k_ ≠ (.slice Ao34 t706.length co34 : Value).ownBlock ∧ some k_ ≠ (.slice Ao43 t727.length co43 : Value).ownBlock) (Kd.R_keptB ((Kd.R_apart' (Kd.R_apart' HO689.out (Kd.R_typed HO711.out) (by decide)) (Kd.R_typed HO719.out) (by decide))) hkp (fun k_ hk_ hs_ => Or.elim hs_ (fun e_ => absurd e_ (hx_ hk_)) (fun e_ => Or.elim e_ (fun e_ => absurd e_ (hx_ hk_)) (fun e_ => absurd e_ (hx_ hk_))))) (fun k_ hk_ => ⟨hx_ hk_, hx_ hk_⟩)) (Kd.R_mono (ok' := fun k_ => some k_ ≠ (.slice Ao35 t709.length co35 : Value).ownBlock ∧ some k_ ≠ (.slice Ao44 t730.length co44 : Value).ownBlock) (Kd.R_keptB ((Kd.R_apart' (Kd.R_apart' HO692.out (Kd.R_typed HO708.out) (by decide)) (Kd.R_typed HO719.out) (by decide))) hkp (fun k_ hk_ hs_ => Or.elim hs_ (fun e_ => absurd e_ (hx_ hk_)) (fun e_ => Or.elim e_ (fun e_ => absurd e_ (hx_ hk_)) (fun e_ => absurd e_ (hx_ hk_))))) (fun k_ hk_ => ⟨hx_ hk_, hx_ hk_⟩)) (Kd.R_mono (ok' := fun k_ => some k_ ≠ (.slice Ao36 t717.length co36 : Value).ownBlock ∧ some k_ ≠ (.slice Ao45 t738.length co45 : Value).ownBlock) (Kd.R_keptB ((Kd.R_apart' (Kd.R_apart' HO700.out (Kd.R_typed HO708.out) (by decide)) (Kd.R_typed HO711.out) (by decide))) hkp (fun k_ hk_ hs_ => Or.elim hs_ (fun e_ => absurd e_ (hx_ hk_)) (fun e_ => Or.elim e_ (fun e_ => absurd e_ (hx_ hk_)) (fun e_ => absurd e_ (hx_ hk_))))) (fun k_ hk_ => ⟨hx_ hk_, hx_ hk_⟩)) (Kd.R_mono (ok' := fun k_ => some k_ ≠ (.slice Ao38 t722.length co38 : Value).ownBlock) (Kd.R_keptB ((Kd.R_apart' (Kd.R_apart' (Kd.R_apart' HO704.out (Kd.R_typed HO708.out) (by decide)) (Kd.R_typed HO711.out) (by decide)) (Kd.R_typed HO719.out) (by decide))) hkp (fun k_ hk_ hs_ => Or.elim hs_ (fun e_ => absurd e_ (hx_ hk_)) (fun e_ => Or.elim e_ (fun e_ => absurd e_ (hx_ hk_)) (fun e_ => absurd e_ (hx_ hk_))))) (fun k_ hk_ => hx_ hk_)) (Kd.R_reok rfl hy0 (fun k_ e_ => HO708.out.1 k_ e_)) (Kd.R_reok rfl hy1 (fun k_ e_ => HO711.out.1 k_ e_)) (Kd.R_reok rfl hy2 (fun k_ e_ => HO719.out.1 k_ e_)) (blk_kept (bk_ BK721) hkp (fun hs_ => Or.elim hs_ (fun e_ => (fun e_ => (Kd.R_ne HO708.out BK721.out (by decide)) e_) e_) (fun e_ => Or.elim e_ (fun e_ => (fun e_ => (Kd.R_ne HO711.out BK721.out (by decide)) e_) e_) (fun e_ => (fun e_ => (Kd.R_ne HO719.out BK721.out (by decide)) e_) e_)))) (Kd.R_mono (ok' := fun k_ => some k_ ≠ (.slice Ao39 t702.length co39 : Value).ownBlock) (Kd.R_keptB ((Kd.R_apart' (Kd.R_apart' (Kd.R_apart' HO724.out (Kd.R_typed HO708.out) (by decide)) (Kd.R_typed HO711.out) (by decide)) (Kd.R_typed HO719.out) (by decide))) hkp (fun k_ hk_ hs_ => Or.elim hs_ (fun e_ => absurd e_ (hx_ hk_)) (fun e_ => Or.elim e_ (fun e_ => absurd e_ (hx_ hk_)) (fun e_ => absurd e_ (hx_ hk_))))) (fun k_ hk_ => hx_ hk_)) (Kd.R_mono (ok' := fun k_ => some k_ ≠ (.slice Ao25 t687.length co25 : Value).ownBlock ∧ some k_ ≠ (.slice Ao34 t706.length co34 : Value).ownBlock) (Kd.R_keptB ((Kd.R_apart' (Kd.R_apart' HO729.out (Kd.R_typed HO711.out) (by decide)) (Kd.R_typed HO719.out) (by decide))) hkp (fun k_ hk_ hs_ => Or.elim hs_ (fun e_ => absurd e_ (hx_ hk_)) (fun e_ => Or.elim e_ (fun e_ => absurd e_ (hx_ hk_)) (fun e_ => absurd e_ (hx_ hk_))))) (fun k_ hk_ => ⟨hx_ hk_, hx_ hk_⟩)) (Kd.R_mono (ok' := fun k_ => some k_ ≠ (.slice Ao26 t690.length co26 : Value).ownBlock ∧ some k_ ≠ (.slice Ao35 t709.length co35 : Value).ownBlock) (Kd.R_keptB ((Kd.R_apart' (Kd.R_apart' HO732.out (Kd.R_typed HO708.out) (by decide)) (Kd.R_typed HO719.out) (by decide))) hkp (fun k_ hk_ hs_ => Or.elim hs_ (fun e_ => absurd e_ (hx_ hk_)) (fun e_ => Or.elim e_ (fun e_ => absurd e_ (hx_ hk_)) (fun e_ => absurd e_ (hx_ hk_))))) (fun k_ hk_ => ⟨hx_ hk_, hx_ hk_⟩)) (Kd.R_mono (ok' := fun k_ => some k_ ≠ (.slice Ao27 t698.length co27 : Value).ownBlock ∧ some k_ ≠ (.slice Ao36 t717.length co36 : Value).ownBlock) (Kd.R_keptB ((Kd.R_apart' (Kd.R_apart' HO740.out (Kd.R_typed HO708.out) (by decide)) (Kd.R_typed HO711.out) (by decide))) hkp (fun k_ hk_ hs_ => Or.elim hs_ (fun e_ => absurd e_ (hx_ hk_)) (fun e_ => Or.elim e_ (fun e_ => absurd e_ (hx_ hk_)) (fun e_ => absurd e_ (hx_ hk_))))) (fun k_ hk_ => ⟨hx_ hk_, hx_ hk_⟩)) hb ?_⟩; clear BK684 HO689 HO692 HO700 HO704 HO708 HO711 HO719 BK721 HO724 HO729 HO732 HO740 HB hb hkp hy0 hy1 hy2; intro BK684 HO689 HO692 HO700 HO704 HO708 HO711 HO719 BK721 HO724 HO729 HO732 HO740 HB))
    (try simp only [Act.put, List.setIfInBounds_toArray, List.set_cons_zero, List.set_cons_succ])
    go_cut [50] (fun v50 wc => ∃ (kq : Nat) (x50_18 : Bool), v50 = .bool x50_18 ∧ Aside0 (laws_FnExactPlanOf.j0 kq a1 a2 t702 t722 x50_18 a0_0 l0_1 l0_2 a0_3 a0_4 a0_5 a0_6 a0_7 l0_8 a0_9 = some true) ∧ Aside0 (kq ≤ k) ∧ Aside0 (Kd.R k54 54 wc w.heap.size (fun k_ => some k_ ≠ ((.slice Ao38 t722.length co38) : Value).ownBlock) (.slice Ao39 t702.length co39) t702) ∧ Aside0 (Kd.R k54 54 wc w.heap.size (fun k_ => some k_ ≠ ((.slice Ao39 t702.length co39) : Value).ownBlock) (.slice Ao38 t722.length co38) t722) ∧ Aside0 (Kd.R k68 68 wc w.heap.size (fun _ => True) (.slice Ao34 t706.length co34) t744) ∧ Aside0 (Kd.R k70 70 wc w.heap.size (fun _ => True) (.slice Ao35 t709.length co35) t745) ∧ Aside0 (Kd.R k76 76 wc w.heap.size (fun _ => True) (.slice Ao36 t717.length co36) t746) ∧ Aside0 (wc.heap[gb684]? = some (.cells #[iv_ a0_0, (.slice A0_1 l0_1.length c0_1), (.slice A0_2 l0_2.length c0_2), iv_ a0_3, iv_ a0_4, iv_ a0_5, iv_ a0_6, iv_ a0_7, (.slice A0_8 l0_8.length c0_8), iv_ a0_9] 26 (0, 0))) ∧ Aside0 (wc.heap[gb721]? = some (.cells #[iv_ t705, (.slice Ao34 t706.length co34), (.slice Ao35 t709.length co35), iv_ t712, iv_ t713, iv_ t714, iv_ t715, iv_ t716, (.slice Ao36 t717.length co36), iv_ t720] 34 (0, 0))) ∧ Aside0 (Below w.heap.size w wc))
    case first =>
     have H := HC19.out
     clear HC19
     by_cases c49 : t743 < 0
     ·rw [if_pos c49] at H
      have c49b0 := decide_eq_true c49
      clear c49
      (first | rw [c49b0] | (simp only [i64_w, i32_w]; rw [c49b0]) | skip)
      have H' := Aside0.mk H
      clear H
      go_wp2
      go_meet
      case rel => exact ⟨_, (true), (by first | rfl | (simp; done) | (simp [*]; done)), H', ⟨by first | omega | exact Nat.le_refl _⟩, ⟨ra_ HO704⟩, ⟨ra_ HO724⟩, ⟨by (with_reducible repeat (first | apply Kd.R_alloc | apply Kd.R_drewN | apply Kd.R_drew)); exact Kd.R_mono HO708.out (fun _ hk => trivial)⟩, ⟨by (with_reducible repeat (first | apply Kd.R_alloc | apply Kd.R_drewN | apply Kd.R_drew)); exact Kd.R_mono HO711.out (fun _ hk => trivial)⟩, ⟨by (with_reducible repeat (first | apply Kd.R_alloc | apply Kd.R_drewN | apply Kd.R_drew)); exact Kd.R_mono HO719.out (fun _ hk => trivial)⟩, ⟨by (with_reducible repeat (first | refine blk_drewN ?_ _ | refine blk_drew ?_ | refine blk_alloc ?_ _)); exact BK684.out⟩, ⟨by (with_reducible repeat (first | refine blk_drewN ?_ _ | refine blk_drew ?_ | refine blk_alloc ?_ _)); exact BK721.out⟩, ⟨bl2_ HB GE684 GE721⟩⟩
     ·rw [if_neg c49] at H
      have c49b0 := decide_eq_false c49
      clear c49
      (first | rw [c49b0] | (simp only [i64_w, i32_w]; rw [c49b0]) | skip)
      replace H := bs_ H
      obtain ⟨t747, A50, H⟩ := H
      have H' := Aside0.mk H
      clear H
      go_wp2_with (first | (go_at_call 9; (with_reducible refine (laws_eqContactS.calls k _ _ t722 _ _ t702 t747 _ ?side1 ?side2 ?side3 ?side4 A50.out).mono ?_); (case side1 => repeat (first | exact (Kd.R_reads' HO724.out).2.2 | (with_reducible refine Kd.C_alloc ?_ _) | (with_reducible refine Kd.C_drewN ?_ _) | (with_reducible refine Kd.C_drew ?_))); (case side2 => exact (Kd.R_reads' HO724.out).2.1); (case side3 => repeat (first | exact (Kd.R_reads' HO704.out).2.2 | (with_reducible refine Kd.C_alloc ?_ _) | (with_reducible refine Kd.C_drewN ?_ _) | (with_reducible refine Kd.C_drew ?_))); (case side4 => exact (Kd.R_reads' HO704.out).2.1); rintro e w51 ⟨rfl, hb⟩; refine sh14_ (Kd.R_below (ra_ HO689) hb) (Kd.R_below (ra_ HO692) hb) (Kd.R_below (ra_ HO700) hb) (Kd.R_below (ra_ HO704) hb) (Kd.R_below (ra_ HO708) hb) (Kd.R_below (ra_ HO711) hb) (Kd.R_below (ra_ HO719) hb) (Kd.R_below (ra_ HO724) hb) (Kd.R_below (ra_ HO729) hb) (Kd.R_below (ra_ HO732) hb) (Kd.R_below (ra_ HO740) hb) (blk_below (bk_ BK684) hb) (blk_below (bk_ BK721) hb) (below_step (bl2_ HB GE684 GE721) hb) ?_; clear HO689 HO692 HO700 HO704 HO708 HO711 HO719 HO724 HO729 HO732 HO740 BK684 BK721 HB hb; intro HO689 HO692 HO700 HO704 HO708 HO711 HO719 HO724 HO729 HO732 HO740 BK684 BK721 HB))
      go_meet
      case rel => exact ⟨_, (!t747), (by first | rfl | (simp; done) | (simp [*]; done)), H', ⟨by first | omega | exact Nat.le_refl _⟩, ⟨ra_ HO704⟩, ⟨ra_ HO724⟩, ⟨by (with_reducible repeat (first | apply Kd.R_alloc | apply Kd.R_drewN | apply Kd.R_drew)); exact Kd.R_mono HO708.out (fun _ hk => trivial)⟩, ⟨by (with_reducible repeat (first | apply Kd.R_alloc | apply Kd.R_drewN | apply Kd.R_drew)); exact Kd.R_mono HO711.out (fun _ hk => trivial)⟩, ⟨by (with_reducible repeat (first | apply Kd.R_alloc | apply Kd.R_drewN | apply Kd.R_drew)); exact Kd.R_mono HO719.out (fun _ hk => trivial)⟩, ⟨by (with_reducible repeat (first | refine blk_drewN ?_ _ | refine blk_drew ?_ | refine blk_alloc ?_ _)); exact BK684.out⟩, ⟨by (with_reducible repeat (first | refine blk_drewN ?_ _ | refine blk_drew ?_ | refine blk_alloc ?_ _)); exact BK721.out⟩, ⟨bl2_ HB GE684 GE721⟩⟩
    case rest =>
     clear HC19
     obtain ⟨kq, x50_18, rfl, HA, HJ18, HO_8, HO_10, HO_722001, HO_722002, HO_722008, BK684, BK721, HB⟩ := hcut
     have hl722001_18 := (Kd.R_reads' HO_722001.out).1
     rw [hl722001_18] at HO_722001
     (try simp only [hl722001_18])
     (try simp only [hl722001_18] at BK684)
     (try simp only [hl722001_18] at BK721)
     (try simp only [hl722001_18] at HO_8)
     (try simp only [hl722001_18] at HO_10)
     (try simp only [hl722001_18] at HO_722002)
     (try simp only [hl722001_18] at HO_722008)
     have hl722002_18 := (Kd.R_reads' HO_722002.out).1
     rw [hl722002_18] at HO_722002
     (try simp only [hl722002_18])
     (try simp only [hl722002_18] at BK684)
     (try simp only [hl722002_18] at BK721)
     (try simp only [hl722002_18] at HO_8)
     (try simp only [hl722002_18] at HO_10)
     (try simp only [hl722002_18] at HO_722001)
     (try simp only [hl722002_18] at HO_722008)
     have hl722008_18 := (Kd.R_reads' HO_722008.out).1
     rw [hl722008_18] at HO_722008
     (try simp only [hl722008_18])
     (try simp only [hl722008_18] at BK684)
     (try simp only [hl722008_18] at BK721)
     (try simp only [hl722008_18] at HO_8)
     (try simp only [hl722008_18] at HO_10)
     (try simp only [hl722008_18] at HO_722001)
     (try simp only [hl722008_18] at HO_722002)
     cases kq with
     | zero => exact absurd HA.out (by simp [laws_FnExactPlanOf.j0])
     | succ kj18 =>
      have H := HA.out
      clear HA
      simp only [laws_FnExactPlanOf.j0] at H
      by_cases c52 : x50_18 = true
      ·subst c52
       try rw [if_pos rfl] at H
       exact absurd H (by simp)
      ·replace c52 := Bool.eq_false_iff.mpr c52
       subst c52
       have H1 : ((laws_markContactS.f kj18 t722 1).bind fun bt748 => ((laws_heldContactS.f kj18 bt748.2 1).bind fun t750 => (if t750 < 0 then (some false) else (if t750 = bt748.1 then ((laws_toSky.f kj18 a0_0 l0_1 l0_2 a0_3 a0_4 a0_5 a0_6 a0_7 l0_8 a0_9).bind fun bt751 => ((impl_PlanOf.f kj18 bt751.1 bt751.2.1 bt751.2.2.1 bt751.2.2.2.1 bt751.2.2.2.2.1 bt751.2.2.2.2.2.1 bt751.2.2.2.2.2.2.1 bt751.2.2.2.2.2.2.2.1 bt751.2.2.2.2.2.2.2.2.1 bt751.2.2.2.2.2.2.2.2.2 a1 a2).bind fun t767 => ((laws_eqContactS.f kj18 t767 t702).bind fun t770 => (if t770 = true then ((laws_heldContactS.f kj18 bt748.2 1).bind fun t771 => (if t771 < 0 then (some false) else (if t771 = bt748.1 then (some true) else (some false)))) else (some false))))) else (some false))))) = some true := by first | (rw [if_neg (show ¬ (false = true) by decide)] at H; exact H) | rfl
       clear H
       have H := H1
       clear H1
       replace H := bs_ H
       obtain ⟨⟨t748, t749⟩, A53, H⟩ := H
       dsimp only at H
       replace H := bs_ H
       obtain ⟨t750, A54, H⟩ := H
       by_cases c55 : t750 < 0
       ·rw [if_pos c55] at H
        have c55b0 := decide_eq_true c55
        clear c55
        exact absurd H (by simp)
       ·rw [if_neg c55] at H
        have c55b0 := decide_eq_false c55
        clear c55
        by_cases c56 : t750 = t748
        ·rw [if_pos c56] at H
         obtain ⟨c56b0, c56b1⟩ := bt_ c56
         clear c56
         replace H := bs_ H
         obtain ⟨⟨t751, t752, t755, t758, t759, t760, t761, t762, t763, t766⟩, A57, H⟩ := H
         dsimp only at H
         replace H := bs_ H
         obtain ⟨t767, A58, H⟩ := H
         replace H := bs_ H
         obtain ⟨t770, A59, H⟩ := H
         by_cases c60 : t770 = true
         ·subst c60
          try rw [if_pos rfl] at H
          replace H := bs_ H
          obtain ⟨t771, A61, H⟩ := H
          by_cases c62 : t771 < 0
          ·rw [if_pos c62] at H
           have c62b0 := decide_eq_true c62
           clear c62
           exact absurd H (by simp)
          ·rw [if_neg c62] at H
           have c62b0 := decide_eq_false c62
           clear c62
           by_cases c63 : t771 = t748
           ·rw [if_pos c63] at H
            obtain ⟨c63b0, c63b1⟩ := bt_ c63
            clear c63
            clear H
            go_wp2_with (first | ((with_reducible refine gate_callee (f := 12) rfl ?_); refine goesL_ (some 53) rfl rfl Tryz.func12 (by kernel_rfl) rfl #[.slice Ao38 t722.length co38, iv_ 1] rfl mp_ ?_; (with_reducible refine (laws_markContactS.calls kj18 (fun k_ => some k_ = (.slice Ao38 t722.length co38 : Value).ownBlock) (.slice Ao38 t722.length co38) t722 1 t748 t749 w _ ?side1 ?side2 A53.out).mono ?_); (case side1 => repeat (first | (with_reducible first | exact HB.out | apply below_alloc | apply pw_below_drewN | apply below_drew1 | refine below_set ?_ GE684.out | refine below_set ?_ GE721.out) | exact HB.out)); (case side2 => exact Kd.R_tight rfl HO_10.out); rintro e w64 ⟨rfl, hy0, hb, hkp⟩; refine ⟨_, rfl, sh8_ (Kd.R_mono (ok' := fun k_ => some k_ ≠ (.slice Ao38 t722.length co38 : Value).ownBlock) (Kd.R_keptB (HO_8.out) hkp (fun k_ hk_ hs_ => (hk_) hs_)) (fun k_ hk_ => hx_ hk_)) (Kd.R_reok rfl hy0 (fun k_ e_ => HO_10.out.1 k_ e_)) (Kd.R_mono (ok' := fun k_ => True) (Kd.R_keptB ((Kd.R_apart' HO_722001.out (Kd.R_typed HO_10.out) (by decide))) hkp (fun k_ hk_ hs_ => (hk_.2) hs_)) (fun k_ hk_ => trivial)) (Kd.R_mono (ok' := fun k_ => True) (Kd.R_keptB ((Kd.R_apart' HO_722002.out (Kd.R_typed HO_10.out) (by decide))) hkp (fun k_ hk_ hs_ => (hk_.2) hs_)) (fun k_ hk_ => trivial)) (Kd.R_mono (ok' := fun k_ => True) (Kd.R_keptB ((Kd.R_apart' HO_722008.out (Kd.R_typed HO_10.out) (by decide))) hkp (fun k_ hk_ hs_ => (hk_.2) hs_)) (fun k_ hk_ => trivial)) (blk_kept (bk_ BK684) hkp (fun hs_ => (fun e_ => (Kd.R_ne HO_10.out BK684.out (by decide)) e_) hs_)) (blk_kept (bk_ BK721) hkp (fun hs_ => (fun e_ => (Kd.R_ne HO_10.out BK721.out (by decide)) e_) hs_)) hb ?_⟩; clear HO_8 HO_10 HO_722001 HO_722002 HO_722008 BK684 BK721 HB hb hkp hy0; intro HO_8 HO_10 HO_722001 HO_722002 HO_722008 BK684 BK721 HB) | ((with_reducible refine gate_callee (f := 13) rfl ?_); refine goesL_ (some 56) rfl rfl Tryz.func13 (by kernel_rfl) rfl #[.slice Ao38 t749.length co38, iv_ 1] rfl (by (try simp only [List.map_toArray, List.map_cons, List.map_nil]); first | done | (rw [show t749.length = t722.length from (Kd.R_reads' HO_10.out).1.symm] <;> rfl) | rfl | (simp only [List.length_drop, List.length_take]; rfl)) ?_; (with_reducible refine (laws_heldContactS.calls kj18 _ _ t749 1 t750 _ ?side1 ?side2 A54.out).mono ?_); (case side1 => repeat (first | exact (Kd.R_reads' HO_10.out).2.2 | (with_reducible refine Kd.C_alloc ?_ _) | (with_reducible refine Kd.C_drewN ?_ _) | (with_reducible refine Kd.C_drew ?_))); (case side2 => rw [show t749.length = t722.length from (Kd.R_reads' HO_10.out).1.symm]; exact (Kd.R_reads' HO_10.out).2.1); rintro e w' ⟨rfl, ⟨nd, rfl⟩⟩; refine ⟨_, rfl, ?_⟩; have hnb65 := NB684_721.out; have hnc65 := NB721_684.out; have hcz66 := cf10_ BK684) | ((with_reducible refine gate_callee (f := 7) rfl ?_); refine goesL_ (some 63) rfl rfl Tryz.func7 (by kernel_rfl) rfl #[.agg #[iv_ a0_0, .slice A0_1 l0_1.length c0_1, .slice A0_2 l0_2.length c0_2, iv_ a0_3, iv_ a0_4, iv_ a0_5, iv_ a0_6, iv_ a0_7, .slice A0_8 l0_8.length c0_8, iv_ a0_9]] rfl mp_ ?_; (with_reducible refine (laws_toSky.calls kj18 a0_0 _ _ l0_1 _ _ l0_2 a0_3 a0_4 a0_5 a0_6 a0_7 _ _ l0_8 a0_9 t751 t752 t755 t758 t759 t760 t761 t762 t763 t766 _ ?side1 ?side2 ?side3 ?side4 ?side5 ?side6 A57.out).mono ?_); (case side1 => repeat (first | exact (Kd.C_below HR0_1.out (bl2_ HB GE684 GE721)) | (with_reducible refine Kd.C_alloc ?_ _) | (with_reducible refine Kd.C_drewN ?_ _) | (with_reducible refine Kd.C_drew ?_))); (case side2 => exact HC0_1.out); (case side3 => repeat (first | exact (Kd.C_below HR0_2.out (bl2_ HB GE684 GE721)) | (with_reducible refine Kd.C_alloc ?_ _) | (with_reducible refine Kd.C_drewN ?_ _) | (with_reducible refine Kd.C_drew ?_))); (case side4 => exact HC0_2.out); (case side5 => repeat (first | exact (Kd.C_below HR0_8.out (bl2_ HB GE684 GE721)) | (with_reducible refine Kd.C_alloc ?_ _) | (with_reducible refine Kd.C_drewN ?_ _) | (with_reducible refine Kd.C_drew ?_))); (case side6 => exact HC0_8.out); rintro e w67 ⟨v753, v756, v764, rfl, ho0, ho1, ho2, hb⟩; refine ⟨_, rfl, sh11_ (Kd.R_below (ra_ HO_8) hb) (Kd.R_below (ra_ HO_10) hb) (Kd.R_elder' (ra_ HO_722001) (Kd.R_base ho0) hb) (Kd.R_elder' (ra_ HO_722002) (Kd.R_base ho1) hb) (Kd.R_elder' (ra_ HO_722008) (Kd.R_base ho2) hb) (Kd.R_lower (Kd.R_new' ho0 (Kd.R_lt (ra_ HO_722001))) (below_size (bl2_ HB GE684 GE721))) (Kd.R_lower (Kd.R_new' ho1 (Kd.R_lt (ra_ HO_722002))) (below_size (bl2_ HB GE684 GE721))) (Kd.R_lower (Kd.R_new' ho2 (Kd.R_lt (ra_ HO_722008))) (below_size (bl2_ HB GE684 GE721))) (blk_below (bk_ BK684) hb) (blk_below (bk_ BK721) hb) (below_step (bl2_ HB GE684 GE721) hb) ?_⟩; clear HO_8 HO_10 HO_722001 HO_722002 HO_722008 BK684 BK721 HB hb ho0 ho1 ho2; intro HO_8 HO_10 HO_722001 HO_722002 HO_722008 HO754 HO757 HO765 BK684 BK721 HB; obtain ⟨Ao68, co68, eo68⟩ := Kd.R_slice HO754.out; subst eo68; obtain ⟨Ao69, co69, eo69⟩ := Kd.R_slice HO757.out; subst eo69; obtain ⟨Ao70, co70, eo70⟩ := Kd.R_slice HO765.out; subst eo70) | ((with_reducible refine gate_callee (f := 15) rfl ?_); refine gl_ 66 Tryz.func15 (impl_PlanOf.calls kj18 t751 _ _ t752 _ _ t755 t758 t759 t760 t761 t762 _ _ t763 t766 a1 a2 t767 _ (cr_ HO754) (rl_ HO754) (cr_ HO757) (rl_ HO757) (cr_ HO765) (rl_ HO765) A58.out) ?_; rintro e w71 ⟨v768, rfl, ho0, hb⟩; refine ⟨_, rfl, sh12_ (Kd.R_elder' (ra_ HO_8) (Kd.R_base ho0) hb) (Kd.R_elder' (ra_ HO_10) (Kd.R_base ho0) hb) (Kd.R_below (ra_ HO_722001) hb) (Kd.R_below (ra_ HO_722002) hb) (Kd.R_below (ra_ HO_722008) hb) (Kd.R_below (ra_ HO754) hb) (Kd.R_below (ra_ HO757) hb) (Kd.R_below (ra_ HO765) hb) (Kd.R_lower (Kd.R_new' (Kd.R_new' ho0 (Kd.R_lt (ra_ HO_8))) (Kd.R_lt (ra_ HO_10))) (below_size (bl2_ HB GE684 GE721))) (blk_below (bk_ BK684) hb) (blk_below (bk_ BK721) hb) (below_step (bl2_ HB GE684 GE721) hb) ?_⟩; clear HO_8 HO_10 HO_722001 HO_722002 HO_722008 HO754 HO757 HO765 BK684 BK721 HB hb ho0; intro HO_8 HO_10 HO_722001 HO_722002 HO_722008 HO754 HO757 HO765 HO769 BK684 BK721 HB; obtain ⟨Ao72, co72, eo72⟩ := Kd.R_slice HO769.out; subst eo72) | ((with_reducible refine gate_callee (f := 9) rfl ?_); refine gl_ 69 Tryz.func9 (laws_eqContactS.calls kj18 _ _ t767 _ _ t702 true _ (cr_ HO769) (rl_ HO769) (cr_ HO_8) (rl_ HO_8) A59.out) ?_; rintro e w73 ⟨rfl, hb⟩; refine ⟨_, rfl, sh12_ (Kd.R_below (ra_ HO_8) hb) (Kd.R_below (ra_ HO_10) hb) (Kd.R_below (ra_ HO_722001) hb) (Kd.R_below (ra_ HO_722002) hb) (Kd.R_below (ra_ HO_722008) hb) (Kd.R_below (ra_ HO754) hb) (Kd.R_below (ra_ HO757) hb) (Kd.R_below (ra_ HO765) hb) (Kd.R_below (ra_ HO769) hb) (blk_below (bk_ BK684) hb) (blk_below (bk_ BK721) hb) (below_step (bl2_ HB GE684 GE721) hb) ?_⟩; clear HO_8 HO_10 HO_722001 HO_722002 HO_722008 HO754 HO757 HO765 HO769 BK684 BK721 HB hb; intro HO_8 HO_10 HO_722001 HO_722002 HO_722008 HO754 HO757 HO765 HO769 BK684 BK721 HB) | ((with_reducible refine gate_callee (f := 13) rfl ?_); refine goesL_ (some 73) rfl rfl Tryz.func13 (by kernel_rfl) rfl #[.slice Ao38 t749.length co38, iv_ 1] rfl (by (try simp only [List.map_toArray, List.map_cons, List.map_nil]); first | done | (rw [show t749.length = t722.length from (Kd.R_reads' HO_10.out).1.symm] <;> rfl) | rfl | (simp only [List.length_drop, List.length_take]; rfl)) ?_; (with_reducible refine (laws_heldContactS.calls kj18 _ _ t749 1 t771 _ ?side1 ?side2 A61.out).mono ?_); (case side1 => repeat (first | exact (Kd.R_reads' HO_10.out).2.2 | (with_reducible refine Kd.C_alloc ?_ _) | (with_reducible refine Kd.C_drewN ?_ _) | (with_reducible refine Kd.C_drew ?_))); (case side2 => rw [show t749.length = t722.length from (Kd.R_reads' HO_10.out).1.symm]; exact (Kd.R_reads' HO_10.out).2.1); rintro e w' ⟨rfl, ⟨nd, rfl⟩⟩; refine ⟨_, rfl, ?_⟩))
            go_ret
            exact ⟨er_, bl2_ HB GE684 GE721⟩
           ·rw [if_neg c63] at H
            obtain ⟨c63b0, c63b1⟩ := bn_ c63
            exact absurd H (by simp)
         ·replace c60 := Bool.eq_false_iff.mpr c60
          subst c60
          have H1 : (some false) = some true := by first | (rw [if_neg (show ¬ (false = true) by decide)] at H; exact H) | rfl
          clear H
          have H := H1
          clear H1
          exact absurd H (by simp)
        ·rw [if_neg c56] at H
         obtain ⟨c56b0, c56b1⟩ := bn_ c56
         exact absurd H (by simp)
   ·replace c17 := Bool.eq_false_iff.mpr c17
    subst c17
    have H1 : (some false) = some true := by first | (rw [if_neg (show ¬ (false = true) by decide)] at H; exact H) | rfl
    clear H
    have H := H1
    clear H1
    exact absurd H (by simp)
  ·replace c14 := Bool.eq_false_iff.mpr c14
   subst c14
   have H1 : (some false) = some true := by first | (rw [if_neg (show ¬ (false = true) by decide)] at H; exact H) | rfl
   clear H
   have H := H1
   clear H1
   exact absurd H (by simp)

end Go.Proofs.YtpjhdehbikohmaaGreat.PFnExactPlanOf
