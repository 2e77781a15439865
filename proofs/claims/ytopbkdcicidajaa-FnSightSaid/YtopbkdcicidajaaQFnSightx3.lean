-- Written by a program of this session for this claim (the kit's printer with changes).
import Derived.Test.YtopbkdcicidajaaQFnSightx0
import Derived.Test.YtopbkdcicidajaaQFnSightx1
import Derived.Test.YtopbkdcicidajaaQFnSightx2
namespace Go.Proofs.Ytopbkdcicidajaa.PFnSight
open Go.RowKit Go.Proofs.YtopbkdcicidajaaW.PrintWords Go.Proofs.YtopbkdcicidajaaW.PrintLast Go.Proofs.YtopbkdcicidajaaW.PrintMore
attribute [local go_sem] max2_int min2_int max_two min_two max_three min_three max_four min_four   -- for this text's walks alone
set_option linter.unusedVariables false
set_option linter.unusedSimpArgs false

/-! ### spec_DrawSightAt: function 9 -/
def spec_DrawSightAt.f (k : Nat) (l0 : List Int) : Option (Int × (List (S72)) × (List (S74)) × Int × Int × Int × Int × Int × (List (S88)) × Int × Int × Int × Int) := (spec_DrawLimitOf.f k l0).bind fun bt371 => ((spec_l1New.f k l0).bind fun bt390 => ((spec_l4Raw.f bt390.1 bt390.2.1 bt390.2.2).bind fun bt394 => (some (bt371.1, bt371.2.1, bt371.2.2.1, bt371.2.2.2.1, bt371.2.2.2.2.1, bt371.2.2.2.2.2.1, bt371.2.2.2.2.2.2.1, bt371.2.2.2.2.2.2.2.1, bt371.2.2.2.2.2.2.2.2.1, bt371.2.2.2.2.2.2.2.2.2.1, bt371.2.2.2.2.2.2.2.2.2.2.1, bt371.2.2.2.2.2.2.2.2.2.2.2, bt394.1))))
theorem spec_DrawSightAt.mono : ∀ a0 k, LeO (spec_DrawSightAt.f k a0) (spec_DrawSightAt.f (k + 1) a0) := by
 intro a0 k
 unfold spec_DrawSightAt.f
 repeat' first | (with_reducible first | exact spec_DrawLimitOf.mono _ _ | exact spec_l1New.mono _ _ | exact LeO.refl _ | exact LeO.none _ | refine LeO.ite ?_ ?_ | refine LeO.bind ?_ (fun _ => ?_)) | exact LeO.none _ | refine LeO.ite ?_ ?_ | refine LeO.bind ?_ (fun _ => ?_)
def spec_DrawSightAt.T3 : Bool × List (List Nat × List Nat) := (true, [([], []), ([], []), ([], []), ([], []), ([3], [3]), ([0, 4, 0], [0]), ([1, 5, 0, 1, 5], [1]), ([2, 6, 0, 1, 2, 5, 6], [2]), ([4, 7, 0, 1, 2, 3, 4, 5, 6, 7], [4])])
def spec_DrawSightAt.B3 : List Nat := [0, 0, 0, 0, 8, 25, 59, 127, 255]
theorem spec_DrawSightAt.tab3 : rtab .any (opsOf Try.f9 3) = spec_DrawSightAt.T3 := by kernel_rfl
theorem spec_DrawSightAt.bits3 : waitsOk spec_DrawSightAt.T3.2 spec_DrawSightAt.B3 = true := by kernel_rfl
set_option maxHeartbeats 8000000 in
set_option maxRecDepth 100000 in
theorem spec_DrawSightAt.calls (k : Nat) (A0 : Option Addr) (c0 : Nat) (l0 : List Int) (r1 : Int) (r2 : List (S72)) (r3 : List (S74)) (r4 : Int) (r5 : Int) (r6 : Int) (r7 : Int) (r8 : Int) (r9 : List (S88)) (r10 : Int) (r11 : Int) (r12 : Int) (r13 : Int) (w : World) (hr0 : Kd.C (Kd.int .u8) w A0 l0.length l0) (hc0 : l0.length ≤ c0) (h : spec_DrawSightAt.f k l0 = some (r1, r2, r3, r4, r5, r6, r7, r8, r9, r10, r11, r12, r13)) :
  Calls Try.prog 9 #[.slice A0 l0.length c0] w fun e w' => ∃ v1_ v2_ v8_ : Value, e = .returned (.tuple #[.agg #[iv_ r1, v1_, v2_, iv_ r4, iv_ r5, iv_ r6, iv_ r7, iv_ r8, v8_, iv_ r10], iv_ r11, iv_ r12, iv_ r13]) ∧ Kd.R k72 72 w' w.heap.size (fun _ => True) v1_ r2 ∧ Kd.R k74 74 w' w.heap.size (fun _ => True) v2_ r3 ∧ Kd.R k88 88 w' w.heap.size (fun _ => True) v8_ r9 ∧ Below w.heap.size w w' := by
 have hu28 := Try.underlying28
 have HR0 := Aside0.mk hr0
 have HC0 := Aside0.mk hc0
 clear hr0 hc0
 have HB := Aside0.mk (Below.refl w.heap.size w)
 have H := h
 clear h
 unfold spec_DrawSightAt.f at H
 replace H := bs_ H
 obtain ⟨⟨t371, t372, t375, t378, t379, t380, t381, t382, t383, t386, t387, t388⟩, A2, H⟩ := H
 dsimp only at H
 replace H := bs_ H
 obtain ⟨⟨t390, t391, t392⟩, A3, H⟩ := H
 dsimp only at H
 replace H := bs_ H
 obtain ⟨⟨t394, t395, t396⟩, A4, H⟩ := H
 dsimp only at H
 simp only [Option.some.injEq, Prod.mk.injEq] at H
 obtain ⟨rfl, rfl, rfl, rfl, rfl, rfl, rfl, rfl, rfl, rfl, rfl, rfl, rfl⟩ := H
 go_enter Try.func9, Try.ntmps9
 try go_wp2_with (first | ((with_reducible refine gd_ 2 ?_); refine bx_ 2 28 #[iv_ 0, .slice none 0 0, .slice none 0 0, iv_ 0, iv_ 0, iv_ 0, iv_ 0, iv_ 0, .slice none 0 0, iv_ 0] ?_; intro gb370 hg w5 hbox hb; refine sh3_ (below_step (bl_ HB) hb) hbox (ge_ hg (bl_ HB)) ?_; clear HB hb hbox hg; intro HB BK370 GE370) | ((with_reducible refine gate_callee (f := 48) rfl ?_); refine gl_ 12 Try.func48 (spec_DrawLimitOf.calls k _ _ l0 t371 t372 t375 t378 t379 t380 t381 t382 t383 t386 t387 t388 _ (ck_ HR0 HB) HC0.out A2.out) ?_; rintro e w6 ⟨v373, v376, v384, rfl, ho0, ho1, ho2, hb⟩; refine ⟨_, rfl, sh5_ (Kd.R_lower ho0 (below_size (bl1_ HB GE370))) (Kd.R_lower ho1 (below_size (bl1_ HB GE370))) (Kd.R_lower ho2 (below_size (bl1_ HB GE370))) (blk_below (bk_ BK370) hb) (below_step (bl1_ HB GE370) hb) ?_⟩; clear BK370 HB hb ho0 ho1 ho2; intro HO374 HO377 HO385 BK370 HB) | ((with_reducible refine gd_ 6 ?_); refine bx_ 6 28 #[iv_ 0, .slice none 0 0, .slice none 0 0, iv_ 0, iv_ 0, iv_ 0, iv_ 0, iv_ 0, .slice none 0 0, iv_ 0] ?_; intro gb389 hg w7 hbox hb; refine sh9_ (Kd.R_below (ra_ HO374) hb) (Kd.R_below (ra_ HO377) hb) (Kd.R_below (ra_ HO385) hb) (blk_below (bk_ BK370) hb) (below_step (bl1_ HB GE370) hb) hbox (ge_ hg (bl1_ HB GE370)) (nl_ hg (bk_ BK370)) (ng_ hg (bk_ BK370)) ?_; clear HO374 HO377 HO385 BK370 HB hb hbox hg; intro HO374 HO377 HO385 BK370 HB BK389 GE389 NB370_389 NB389_370; have hnb8 := NB389_370.out; have hnc8 := NB370_389.out; have hcz9 := cf10_ BK389; obtain ⟨Ao10, co10, eo10⟩ := Kd.R_slice HO374.out; subst eo10; obtain ⟨Ao11, co11, eo11⟩ := Kd.R_slice HO377.out; subst eo11; obtain ⟨Ao12, co12, eo12⟩ := Kd.R_slice HO385.out; subst eo12) | ((with_reducible refine gate_callee (f := 49) rfl ?_); refine goesL_ (some 17) rfl rfl Try.func49 (by kernel_rfl) rfl #[.slice A0 l0.length c0] rfl mp_ ?_; (with_reducible refine (spec_l1New.calls k _ _ l0 t390 t391 t392 w _ ?side1 ?side2 ?side3 A3.out).mono ?_); (case side1 => repeat (first | (with_reducible first | exact HB.out | apply below_alloc | apply pw_below_drewN | apply below_drew1 | refine below_set ?_ GE370.out | refine below_set ?_ GE389.out) | exact HB.out)); (case side2 => exact HR0.out); (case side3 => exact HC0.out); rintro e w13 ⟨g393, rfl, hi, hb, hb2⟩; refine ⟨_, rfl, sh11_ (Kd.R_below (by (with_reducible repeat (first | apply Kd.R_alloc | apply Kd.R_drewN | apply Kd.R_drew)); exact (Kd.R_mono (Kd.R_far (p := ⟨gb389, 9, none⟩) (Kd.R_far (p := ⟨gb389, 8, none⟩) (Kd.R_far (p := ⟨gb389, 7, none⟩) (Kd.R_far (p := ⟨gb389, 6, none⟩) (Kd.R_far (p := ⟨gb389, 5, none⟩) (Kd.R_far (p := ⟨gb389, 4, none⟩) (Kd.R_far (p := ⟨gb389, 3, none⟩) (Kd.R_far (p := ⟨gb389, 2, none⟩) (Kd.R_far (p := ⟨gb389, 1, none⟩) (Kd.R_far (p := ⟨gb389, 0, none⟩) (Kd.R_types HO374.out BK389.out (by decide)) (fun _ hk => hk.2) (iv_ t371)) (fun _ hk => hk.2) (.slice Ao10 t372.length co10)) (fun _ hk => hk.2) (.slice Ao11 t375.length co11)) (fun _ hk => hk.2) (iv_ t378)) (fun _ hk => hk.2) (iv_ t379)) (fun _ hk => hk.2) (iv_ t380)) (fun _ hk => hk.2) (iv_ t381)) (fun _ hk => hk.2) (iv_ t382)) (fun _ hk => hk.2) (.slice Ao12 t383.length co12)) (fun _ hk => hk.2) (iv_ t386)) (fun _ h_ => h_.1))) hb2) (Kd.R_below (by (with_reducible repeat (first | apply Kd.R_alloc | apply Kd.R_drewN | apply Kd.R_drew)); exact (Kd.R_mono (Kd.R_far (p := ⟨gb389, 9, none⟩) (Kd.R_far (p := ⟨gb389, 8, none⟩) (Kd.R_far (p := ⟨gb389, 7, none⟩) (Kd.R_far (p := ⟨gb389, 6, none⟩) (Kd.R_far (p := ⟨gb389, 5, none⟩) (Kd.R_far (p := ⟨gb389, 4, none⟩) (Kd.R_far (p := ⟨gb389, 3, none⟩) (Kd.R_far (p := ⟨gb389, 2, none⟩) (Kd.R_far (p := ⟨gb389, 1, none⟩) (Kd.R_far (p := ⟨gb389, 0, none⟩) (Kd.R_types HO377.out BK389.out (by decide)) (fun _ hk => hk.2) (iv_ t371)) (fun _ hk => hk.2) (.slice Ao10 t372.length co10)) (fun _ hk => hk.2) (.slice Ao11 t375.length co11)) (fun _ hk => hk.2) (iv_ t378)) (fun _ hk => hk.2) (iv_ t379)) (fun _ hk => hk.2) (iv_ t380)) (fun _ hk => hk.2) (iv_ t381)) (fun _ hk => hk.2) (iv_ t382)) (fun _ hk => hk.2) (.slice Ao12 t383.length co12)) (fun _ hk => hk.2) (iv_ t386)) (fun _ h_ => h_.1))) hb2) (Kd.R_below (by (with_reducible repeat (first | apply Kd.R_alloc | apply Kd.R_drewN | apply Kd.R_drew)); exact (Kd.R_mono (Kd.R_far (p := ⟨gb389, 9, none⟩) (Kd.R_far (p := ⟨gb389, 8, none⟩) (Kd.R_far (p := ⟨gb389, 7, none⟩) (Kd.R_far (p := ⟨gb389, 6, none⟩) (Kd.R_far (p := ⟨gb389, 5, none⟩) (Kd.R_far (p := ⟨gb389, 4, none⟩) (Kd.R_far (p := ⟨gb389, 3, none⟩) (Kd.R_far (p := ⟨gb389, 2, none⟩) (Kd.R_far (p := ⟨gb389, 1, none⟩) (Kd.R_far (p := ⟨gb389, 0, none⟩) (Kd.R_types HO385.out BK389.out (by decide)) (fun _ hk => hk.2) (iv_ t371)) (fun _ hk => hk.2) (.slice Ao10 t372.length co10)) (fun _ hk => hk.2) (.slice Ao11 t375.length co11)) (fun _ hk => hk.2) (iv_ t378)) (fun _ hk => hk.2) (iv_ t379)) (fun _ hk => hk.2) (iv_ t380)) (fun _ hk => hk.2) (iv_ t381)) (fun _ hk => hk.2) (iv_ t382)) (fun _ hk => hk.2) (.slice Ao12 t383.length co12)) (fun _ hk => hk.2) (iv_ t386)) (fun _ h_ => h_.1))) hb2) (blk_below (g := gb370) (o := .cells #[iv_ 0, .slice none 0 0, .slice none 0 0, iv_ 0, iv_ 0, iv_ 0, iv_ 0, iv_ 0, .slice none 0 0, iv_ 0] 28 (0, 0)) (bp_ BK370) hb2) (blk_below (g := gb389) (o := .cells #[iv_ t371, .slice Ao10 t372.length co10, .slice Ao11 t375.length co11, iv_ t378, iv_ t379, iv_ t380, iv_ t381, iv_ t382, .slice Ao12 t383.length co12, iv_ t386] 28 (0, 0)) (bp_ BK389) hb2) hb hi (IsS102.ne_blk hi (blk_below (g := gb370) (o := .cells #[iv_ 0, .slice none 0 0, .slice none 0 0, iv_ 0, iv_ 0, iv_ 0, iv_ 0, iv_ 0, .slice none 0 0, iv_ 0] 28 (0, 0)) (bp_ BK370) hb2) (by decide)) (Ne.symm (IsS102.ne_blk hi (blk_below (g := gb370) (o := .cells #[iv_ 0, .slice none 0 0, .slice none 0 0, iv_ 0, iv_ 0, iv_ 0, iv_ 0, iv_ 0, .slice none 0 0, iv_ 0] 28 (0, 0)) (bp_ BK370) hb2) (by decide))) (IsS102.ne_blk hi (blk_below (g := gb389) (o := .cells #[iv_ t371, .slice Ao10 t372.length co10, .slice Ao11 t375.length co11, iv_ t378, iv_ t379, iv_ t380, iv_ t381, iv_ t382, .slice Ao12 t383.length co12, iv_ t386] 28 (0, 0)) (bp_ BK389) hb2) (by decide)) (Ne.symm (IsS102.ne_blk hi (blk_below (g := gb389) (o := .cells #[iv_ t371, .slice Ao10 t372.length co10, .slice Ao11 t375.length co11, iv_ t378, iv_ t379, iv_ t380, iv_ t381, iv_ t382, .slice Ao12 t383.length co12, iv_ t386] 28 (0, 0)) (bp_ BK389) hb2) (by decide))) ?_⟩; clear HO374 HO377 HO385 BK370 BK389 HB hb hb2 hi; intro HO374 HO377 HO385 BK370 BK389 HB HI393 NB393_370 NB370_393 NB393_389 NB389_393))
 refine sh7_ (Kd.R_drew HO374.out) (Kd.R_drew HO377.out) (Kd.R_drew HO385.out) (blk_drew BK370.out) (blk_drew BK389.out) (IsS102.drew HI393.out) (below_drew1 HB.out) ?_
 clear HO374 HO377 HO385 BK370 BK389 HI393 HB
 intro HO374 HO377 HO385 BK370 BK389 HI393 HB
 refine start_ (n := 9) (S := fun w' => Cz10 w' gb389 (iv_ t371) (.slice Ao10 t372.length co10) (.slice Ao11 t375.length co11) (iv_ t378) (iv_ t379) (iv_ t380) (iv_ t381) (iv_ t382) (.slice Ao12 t383.length co12) (iv_ t386)) (ds := []) (bo_ 9 0) (by kernel_rfl) rfl rfl (cz10_ BK389) (fun hHeld => ?_); refine with_tabW spec_DrawSightAt.tab3 spec_DrawSightAt.bits3 (fun HT_ HW_ => ?_)
 generalize w13.drew = w14 at HO374 HO377 HO385 BK370 BK389 HI393 HB hHeld ⊢
 refine pur_ 1 (bo_ 9 2) (some 19) HT_ ?_
 refine pur_ 2 (bo_ 9 6) (some 20) HT_ ?_
 refine pur_ 3 (bo_ 9 14) (some 21) HT_ ?_
 refine tak_ 0 (bo_ 9 15) (some 18) HT_ HW_ hHeld ?_
 refine one_ (i := 4) (N := some 22) (bo_ 9 31) rfl rfl (one_of HT_.out (by kernel_rfl)) (by decide) (fun K hK => ?_)
 refine goes_ Try.func50 (by kernel_rfl) rfl #[.pointer (some ⟨g393, 0, none⟩)] (by rfl) rfl rfl mp_ ?_
 with_reducible refine (spec_l4Raw.calls g393 t390 t391 t392 t394 t395 t396 w _ ?side1 ?side2 A4.out).mono ?_
 (case side1 => repeat (first | (with_reducible first | exact HI393.out | apply IsS102.alloc | apply IsS102.drewN | apply IsS102.drew | apply IsS102.set_1 | apply IsS102.set_2 | refine IsS102.far ?_ NB393_370.out _ | refine IsS102.far ?_ NB393_389.out _) | exact HI393.out))
 (case side2 => repeat (first | (with_reducible first | exact HB.out | apply below_alloc | apply pw_below_drewN | apply below_drew1 | refine below_set ?_ (IsS102.ge HI393.out) | refine below_set ?_ GE370.out | refine below_set ?_ GE389.out) | exact HB.out))
 rintro e w15 ⟨rfl, hi, hb, hk⟩
 refine ⟨_, rfl, sh7_ (KeepBut.blk hk (g' := gb370) (o := .cells #[iv_ 0, .slice none 0 0, .slice none 0 0, iv_ 0, iv_ 0, iv_ 0, iv_ 0, iv_ 0, .slice none 0 0, iv_ 0] 28 (0, 0)) (bk_ BK370) NB370_393.out (by simp)) (Kd.R_mono (Kd.R_keep (IsS102.apart (show IsS102 w _ g393 t390 t391 t392 from by repeat (first | (with_reducible first | exact HI393.out | apply IsS102.alloc | apply IsS102.drewN | apply IsS102.drew | apply IsS102.set_1 | apply IsS102.set_2 | refine IsS102.far ?_ NB393_370.out _ | refine IsS102.far ?_ NB393_389.out _) | exact HI393.out)) (ra_ HO374) (by decide)) hk (fun _ h => h.2)) (fun _ h => h.1)) (Kd.R_mono (Kd.R_keep (IsS102.apart (show IsS102 w _ g393 t390 t391 t392 from by repeat (first | (with_reducible first | exact HI393.out | apply IsS102.alloc | apply IsS102.drewN | apply IsS102.drew | apply IsS102.set_1 | apply IsS102.set_2 | refine IsS102.far ?_ NB393_370.out _ | refine IsS102.far ?_ NB393_389.out _) | exact HI393.out)) (ra_ HO377) (by decide)) hk (fun _ h => h.2)) (fun _ h => h.1)) (Kd.R_mono (Kd.R_keep (IsS102.apart (show IsS102 w _ g393 t390 t391 t392 from by repeat (first | (with_reducible first | exact HI393.out | apply IsS102.alloc | apply IsS102.drewN | apply IsS102.drew | apply IsS102.set_1 | apply IsS102.set_2 | refine IsS102.far ?_ NB393_370.out _ | refine IsS102.far ?_ NB393_389.out _) | exact HI393.out)) (ra_ HO385) (by decide)) hk (fun _ h => h.2)) (fun _ h => h.1)) (KeepBut.blk hk (g' := gb389) (o := .cells #[iv_ t371, .slice Ao10 t372.length co10, .slice Ao11 t375.length co11, iv_ t378, iv_ t379, iv_ t380, iv_ t381, iv_ t382, .slice Ao12 t383.length co12, iv_ t386] 28 (0, 0)) (bk_ BK389) NB389_393.out (by simp)) hb hi ?_⟩
 clear BK370 HO374 HO377 HO385 BK389 HB HI393 hb hk hi
 intro BK370 HO374 HO377 HO385 BK389 HB HI393
 refine hK.out _ _ (cz10_ BK389) (fun hHeld => ?_)
 clear hK K
 refine norm_ (show Act.put _ (some 22) _ = _ from pt_) ?_
 refine one_ (i := 5) (N := none) (bo_ 9 63) rfl rfl (one_of HT_.out (by kernel_rfl)) (by decide) (fun K hK => ?_)
 have hs16 : w15.cell? ⟨gb370, 0, none⟩ = some (iv_ 0) := bc_ BK370 0 rfl
 have hfs16 := bf_ BK370 0
 have hns16_1 := NB389_370.out
 have hms16_1 := NB370_389.out
 have hs17 : w15.cell? ⟨gb370, 1, none⟩ = some (.slice none 0 0) := bc_ BK370 1 rfl
 have hfs17 := bf_ BK370 1
 have hns17_1 := NB389_370.out
 have hms17_1 := NB370_389.out
 have hs18 : w15.cell? ⟨gb370, 2, none⟩ = some (.slice none 0 0) := bc_ BK370 2 rfl
 have hfs18 := bf_ BK370 2
 have hns18_1 := NB389_370.out
 have hms18_1 := NB370_389.out
 have hs19 : w15.cell? ⟨gb370, 3, none⟩ = some (iv_ 0) := bc_ BK370 3 rfl
 have hfs19 := bf_ BK370 3
 have hns19_1 := NB389_370.out
 have hms19_1 := NB370_389.out
 have hs20 : w15.cell? ⟨gb370, 4, none⟩ = some (iv_ 0) := bc_ BK370 4 rfl
 have hfs20 := bf_ BK370 4
 have hns20_1 := NB389_370.out
 have hms20_1 := NB370_389.out
 have hs21 : w15.cell? ⟨gb370, 5, none⟩ = some (iv_ 0) := bc_ BK370 5 rfl
 have hfs21 := bf_ BK370 5
 have hns21_1 := NB389_370.out
 have hms21_1 := NB370_389.out
 have hs22 : w15.cell? ⟨gb370, 6, none⟩ = some (iv_ 0) := bc_ BK370 6 rfl
 have hfs22 := bf_ BK370 6
 have hns22_1 := NB389_370.out
 have hms22_1 := NB370_389.out
 have hs23 : w15.cell? ⟨gb370, 7, none⟩ = some (iv_ 0) := bc_ BK370 7 rfl
 have hfs23 := bf_ BK370 7
 have hns23_1 := NB389_370.out
 have hms23_1 := NB370_389.out
 have hs24 : w15.cell? ⟨gb370, 8, none⟩ = some (.slice none 0 0) := bc_ BK370 8 rfl
 have hfs24 := bf_ BK370 8
 have hns24_1 := NB389_370.out
 have hms24_1 := NB370_389.out
 have hs25 : w15.cell? ⟨gb370, 9, none⟩ = some (iv_ 0) := bc_ BK370 9 rfl
 have hfs25 := bf_ BK370 9
 have hns25_1 := NB389_370.out
 have hms25_1 := NB370_389.out
 refine skip_ (w1 := ?_) (by rfl) rfl ?_ ?_
 rotate_left
 ·go_simp
  rfl
 refine hK.out _ _ ⟨((cell_far (p := ⟨gb370, _, none⟩) NB389_370.out _).trans (((cell_far (p := ⟨gb370, _, none⟩) NB389_370.out _).trans (((cell_far (p := ⟨gb370, _, none⟩) NB389_370.out _).trans (((cell_far (p := ⟨gb370, _, none⟩) NB389_370.out _).trans (((cell_far (p := ⟨gb370, _, none⟩) NB389_370.out _).trans (((cell_far (p := ⟨gb370, _, none⟩) NB389_370.out _).trans (((cell_far (p := ⟨gb370, _, none⟩) NB389_370.out _).trans (((cell_far (p := ⟨gb370, _, none⟩) NB389_370.out _).trans (((cell_far (p := ⟨gb370, _, none⟩) NB389_370.out _).trans (((cell_far (p := ⟨gb370, _, none⟩) NB389_370.out _).trans (hHeld.1)))))))))))))))))))), ((cell_far (p := ⟨gb370, _, none⟩) NB389_370.out _).trans (((cell_far (p := ⟨gb370, _, none⟩) NB389_370.out _).trans (((cell_far (p := ⟨gb370, _, none⟩) NB389_370.out _).trans (((cell_far (p := ⟨gb370, _, none⟩) NB389_370.out _).trans (((cell_far (p := ⟨gb370, _, none⟩) NB389_370.out _).trans (((cell_far (p := ⟨gb370, _, none⟩) NB389_370.out _).trans (((cell_far (p := ⟨gb370, _, none⟩) NB389_370.out _).trans (((cell_far (p := ⟨gb370, _, none⟩) NB389_370.out _).trans (((cell_far (p := ⟨gb370, _, none⟩) NB389_370.out _).trans (((cell_far (p := ⟨gb370, _, none⟩) NB389_370.out _).trans (hHeld.2.1)))))))))))))))))))), ((cell_far (p := ⟨gb370, _, none⟩) NB389_370.out _).trans (((cell_far (p := ⟨gb370, _, none⟩) NB389_370.out _).trans (((cell_far (p := ⟨gb370, _, none⟩) NB389_370.out _).trans (((cell_far (p := ⟨gb370, _, none⟩) NB389_370.out _).trans (((cell_far (p := ⟨gb370, _, none⟩) NB389_370.out _).trans (((cell_far (p := ⟨gb370, _, none⟩) NB389_370.out _).trans (((cell_far (p := ⟨gb370, _, none⟩) NB389_370.out _).trans (((cell_far (p := ⟨gb370, _, none⟩) NB389_370.out _).trans (((cell_far (p := ⟨gb370, _, none⟩) NB389_370.out _).trans (((cell_far (p := ⟨gb370, _, none⟩) NB389_370.out _).trans (hHeld.2.2.1)))))))))))))))))))), ((cell_far (p := ⟨gb370, _, none⟩) NB389_370.out _).trans (((cell_far (p := ⟨gb370, _, none⟩) NB389_370.out _).trans (((cell_far (p := ⟨gb370, _, none⟩) NB389_370.out _).trans (((cell_far (p := ⟨gb370, _, none⟩) NB389_370.out _).trans (((cell_far (p := ⟨gb370, _, none⟩) NB389_370.out _).trans (((cell_far (p := ⟨gb370, _, none⟩) NB389_370.out _).trans (((cell_far (p := ⟨gb370, _, none⟩) NB389_370.out _).trans (((cell_far (p := ⟨gb370, _, none⟩) NB389_370.out _).trans (((cell_far (p := ⟨gb370, _, none⟩) NB389_370.out _).trans (((cell_far (p := ⟨gb370, _, none⟩) NB389_370.out _).trans (hHeld.2.2.2.1)))))))))))))))))))), ((cell_far (p := ⟨gb370, _, none⟩) NB389_370.out _).trans (((cell_far (p := ⟨gb370, _, none⟩) NB389_370.out _).trans (((cell_far (p := ⟨gb370, _, none⟩) NB389_370.out _).trans (((cell_far (p := ⟨gb370, _, none⟩) NB389_370.out _).trans (((cell_far (p := ⟨gb370, _, none⟩) NB389_370.out _).trans (((cell_far (p := ⟨gb370, _, none⟩) NB389_370.out _).trans (((cell_far (p := ⟨gb370, _, none⟩) NB389_370.out _).trans (((cell_far (p := ⟨gb370, _, none⟩) NB389_370.out _).trans (((cell_far (p := ⟨gb370, _, none⟩) NB389_370.out _).trans (((cell_far (p := ⟨gb370, _, none⟩) NB389_370.out _).trans (hHeld.2.2.2.2.1)))))))))))))))))))), ((cell_far (p := ⟨gb370, _, none⟩) NB389_370.out _).trans (((cell_far (p := ⟨gb370, _, none⟩) NB389_370.out _).trans (((cell_far (p := ⟨gb370, _, none⟩) NB389_370.out _).trans (((cell_far (p := ⟨gb370, _, none⟩) NB389_370.out _).trans (((cell_far (p := ⟨gb370, _, none⟩) NB389_370.out _).trans (((cell_far (p := ⟨gb370, _, none⟩) NB389_370.out _).trans (((cell_far (p := ⟨gb370, _, none⟩) NB389_370.out _).trans (((cell_far (p := ⟨gb370, _, none⟩) NB389_370.out _).trans (((cell_far (p := ⟨gb370, _, none⟩) NB389_370.out _).trans (((cell_far (p := ⟨gb370, _, none⟩) NB389_370.out _).trans (hHeld.2.2.2.2.2.1)))))))))))))))))))), ((cell_far (p := ⟨gb370, _, none⟩) NB389_370.out _).trans (((cell_far (p := ⟨gb370, _, none⟩) NB389_370.out _).trans (((cell_far (p := ⟨gb370, _, none⟩) NB389_370.out _).trans (((cell_far (p := ⟨gb370, _, none⟩) NB389_370.out _).trans (((cell_far (p := ⟨gb370, _, none⟩) NB389_370.out _).trans (((cell_far (p := ⟨gb370, _, none⟩) NB389_370.out _).trans (((cell_far (p := ⟨gb370, _, none⟩) NB389_370.out _).trans (((cell_far (p := ⟨gb370, _, none⟩) NB389_370.out _).trans (((cell_far (p := ⟨gb370, _, none⟩) NB389_370.out _).trans (((cell_far (p := ⟨gb370, _, none⟩) NB389_370.out _).trans (hHeld.2.2.2.2.2.2.1)))))))))))))))))))), ((cell_far (p := ⟨gb370, _, none⟩) NB389_370.out _).trans (((cell_far (p := ⟨gb370, _, none⟩) NB389_370.out _).trans (((cell_far (p := ⟨gb370, _, none⟩) NB389_370.out _).trans (((cell_far (p := ⟨gb370, _, none⟩) NB389_370.out _).trans (((cell_far (p := ⟨gb370, _, none⟩) NB389_370.out _).trans (((cell_far (p := ⟨gb370, _, none⟩) NB389_370.out _).trans (((cell_far (p := ⟨gb370, _, none⟩) NB389_370.out _).trans (((cell_far (p := ⟨gb370, _, none⟩) NB389_370.out _).trans (((cell_far (p := ⟨gb370, _, none⟩) NB389_370.out _).trans (((cell_far (p := ⟨gb370, _, none⟩) NB389_370.out _).trans (hHeld.2.2.2.2.2.2.2.1)))))))))))))))))))), ((cell_far (p := ⟨gb370, _, none⟩) NB389_370.out _).trans (((cell_far (p := ⟨gb370, _, none⟩) NB389_370.out _).trans (((cell_far (p := ⟨gb370, _, none⟩) NB389_370.out _).trans (((cell_far (p := ⟨gb370, _, none⟩) NB389_370.out _).trans (((cell_far (p := ⟨gb370, _, none⟩) NB389_370.out _).trans (((cell_far (p := ⟨gb370, _, none⟩) NB389_370.out _).trans (((cell_far (p := ⟨gb370, _, none⟩) NB389_370.out _).trans (((cell_far (p := ⟨gb370, _, none⟩) NB389_370.out _).trans (((cell_far (p := ⟨gb370, _, none⟩) NB389_370.out _).trans (((cell_far (p := ⟨gb370, _, none⟩) NB389_370.out _).trans (hHeld.2.2.2.2.2.2.2.2.1)))))))))))))))))))), ((cell_far (p := ⟨gb370, _, none⟩) NB389_370.out _).trans (((cell_far (p := ⟨gb370, _, none⟩) NB389_370.out _).trans (((cell_far (p := ⟨gb370, _, none⟩) NB389_370.out _).trans (((cell_far (p := ⟨gb370, _, none⟩) NB389_370.out _).trans (((cell_far (p := ⟨gb370, _, none⟩) NB389_370.out _).trans (((cell_far (p := ⟨gb370, _, none⟩) NB389_370.out _).trans (((cell_far (p := ⟨gb370, _, none⟩) NB389_370.out _).trans (((cell_far (p := ⟨gb370, _, none⟩) NB389_370.out _).trans (((cell_far (p := ⟨gb370, _, none⟩) NB389_370.out _).trans (((cell_far (p := ⟨gb370, _, none⟩) NB389_370.out _).trans (hHeld.2.2.2.2.2.2.2.2.2))))))))))))))))))))⟩ (fun hHeld => ?_)
 clear hK K
 refine pur_ 6 (bo_ 9 127) (some 3) HT_ ?_
 refine pur_ 7 (bo_ 9 255) (some 4) HT_ ?_
 refine pur_ 8 (bo_ 9 511) (some 5) HT_ ?_
 refine done_ (done_of HT_.out (by kernel_rfl)) ?_
 try go_wp2
 refine bodyPost_ret (results_list (rs := [.cell 2 28, .tmp 3, .tmp 4, .tmp 5]) rfl (by simp) (.cell gb370 28 #[iv_ t371, .slice Ao10 t372.length co10, .slice Ao11 t375.length co11, iv_ t378, iv_ t379, iv_ t380, iv_ t381, iv_ t382, .slice Ao12 t383.length co12, iv_ t386] (0, 0) _ rfl (bp_ BK370) Try.underlying28 rfl (by kernel_rfl) (.tmp (.tmp (.tmp .nil))))) rfl ?_
 exact ⟨_, _, _, by first | (rw [hRT_.out]; rfl) | exact er_, by (with_reducible repeat (first | apply Kd.R_alloc | apply Kd.R_drewN | apply Kd.R_drew)); exact Kd.R_mono (Kd.R_far (p := ⟨gb370, 9, none⟩) (Kd.R_far (p := ⟨gb370, 8, none⟩) (Kd.R_far (p := ⟨gb370, 7, none⟩) (Kd.R_far (p := ⟨gb370, 6, none⟩) (Kd.R_far (p := ⟨gb370, 5, none⟩) (Kd.R_far (p := ⟨gb370, 4, none⟩) (Kd.R_far (p := ⟨gb370, 3, none⟩) (Kd.R_far (p := ⟨gb370, 2, none⟩) (Kd.R_far (p := ⟨gb370, 1, none⟩) (Kd.R_far (p := ⟨gb370, 0, none⟩) (Kd.R_types HO374.out BK370.out (by decide)) (fun _ hk => hk.2) (iv_ t371)) (fun _ hk => hk.2) (.slice Ao10 t372.length co10)) (fun _ hk => hk.2) (.slice Ao11 t375.length co11)) (fun _ hk => hk.2) (iv_ t378)) (fun _ hk => hk.2) (iv_ t379)) (fun _ hk => hk.2) (iv_ t380)) (fun _ hk => hk.2) (iv_ t381)) (fun _ hk => hk.2) (iv_ t382)) (fun _ hk => hk.2) (.slice Ao12 t383.length co12)) (fun _ hk => hk.2) (iv_ t386)) (fun _ hk => trivial), by (with_reducible repeat (first | apply Kd.R_alloc | apply Kd.R_drewN | apply Kd.R_drew)); exact Kd.R_mono (Kd.R_far (p := ⟨gb370, 9, none⟩) (Kd.R_far (p := ⟨gb370, 8, none⟩) (Kd.R_far (p := ⟨gb370, 7, none⟩) (Kd.R_far (p := ⟨gb370, 6, none⟩) (Kd.R_far (p := ⟨gb370, 5, none⟩) (Kd.R_far (p := ⟨gb370, 4, none⟩) (Kd.R_far (p := ⟨gb370, 3, none⟩) (Kd.R_far (p := ⟨gb370, 2, none⟩) (Kd.R_far (p := ⟨gb370, 1, none⟩) (Kd.R_far (p := ⟨gb370, 0, none⟩) (Kd.R_types HO377.out BK370.out (by decide)) (fun _ hk => hk.2) (iv_ t371)) (fun _ hk => hk.2) (.slice Ao10 t372.length co10)) (fun _ hk => hk.2) (.slice Ao11 t375.length co11)) (fun _ hk => hk.2) (iv_ t378)) (fun _ hk => hk.2) (iv_ t379)) (fun _ hk => hk.2) (iv_ t380)) (fun _ hk => hk.2) (iv_ t381)) (fun _ hk => hk.2) (iv_ t382)) (fun _ hk => hk.2) (.slice Ao12 t383.length co12)) (fun _ hk => hk.2) (iv_ t386)) (fun _ hk => trivial), by (with_reducible repeat (first | apply Kd.R_alloc | apply Kd.R_drewN | apply Kd.R_drew)); exact Kd.R_mono (Kd.R_far (p := ⟨gb370, 9, none⟩) (Kd.R_far (p := ⟨gb370, 8, none⟩) (Kd.R_far (p := ⟨gb370, 7, none⟩) (Kd.R_far (p := ⟨gb370, 6, none⟩) (Kd.R_far (p := ⟨gb370, 5, none⟩) (Kd.R_far (p := ⟨gb370, 4, none⟩) (Kd.R_far (p := ⟨gb370, 3, none⟩) (Kd.R_far (p := ⟨gb370, 2, none⟩) (Kd.R_far (p := ⟨gb370, 1, none⟩) (Kd.R_far (p := ⟨gb370, 0, none⟩) (Kd.R_types HO385.out BK370.out (by decide)) (fun _ hk => hk.2) (iv_ t371)) (fun _ hk => hk.2) (.slice Ao10 t372.length co10)) (fun _ hk => hk.2) (.slice Ao11 t375.length co11)) (fun _ hk => hk.2) (iv_ t378)) (fun _ hk => hk.2) (iv_ t379)) (fun _ hk => hk.2) (iv_ t380)) (fun _ hk => hk.2) (iv_ t381)) (fun _ hk => hk.2) (iv_ t382)) (fun _ hk => hk.2) (.slice Ao12 t383.length co12)) (fun _ hk => hk.2) (iv_ t386)) (fun _ hk => trivial), by repeat (first | (with_reducible first | exact HB.out | apply below_alloc | apply pw_below_drewN | apply below_drew1 | refine below_set ?_ (IsS102.ge HI393.out) | refine below_set ?_ GE370.out | refine below_set ?_ GE389.out) | exact HB.out)⟩

/-! ### impl_InRange: function 93 -/
def impl_InRange.f (a0 : Int) (a1 : Int) (a2 : Int) : Option (Bool) := if a1 ≤ a0 then (some (decide (a0 ≤ a2))) else (some false)
set_option maxHeartbeats 8000000 in
set_option maxRecDepth 100000 in
theorem impl_InRange.calls (a0 : Int) (a1 : Int) (a2 : Int) (r : Bool) (w : World) (h : impl_InRange.f a0 a1 a2 = some r) :
  Calls Try.prog 93 #[iv_ a0, iv_ a1, iv_ a2] w fun e w' => e = .returned (.bool r) ∧ Drawn0 w w' := by
 have H := h
 clear h
 unfold impl_InRange.f at H
 by_cases c4 : a1 ≤ a0
 ·rw [if_pos c4] at H
  have c4b0 := decide_eq_true c4
  clear c4
  obtain rfl := Option.some.inj H
  go_enter Try.func93, Try.ntmps93
  go_wp2
  go_ret
  exact ⟨by first | rfl | (simp; done) | (simp [*]; done), by repeat (first | exact Drawn0.refl _ | apply Drawn0.step)⟩
 ·rw [if_neg c4] at H
  have c4b0 := decide_eq_false c4
  clear c4
  obtain rfl := Option.some.inj H
  go_enter Try.func93, Try.ntmps93
  go_wp2
  go_ret
  exact ⟨by first | rfl | (simp; done) | (simp [*]; done), by repeat (first | exact Drawn0.refl _ | apply Drawn0.step)⟩

/-! ### impl_isSatellite: function 53 -/
def impl_isSatellite.f (a0_0 : Int) (l0_1 : List (S72)) (l0_2 : List (S74)) (a0_3 : Int) (a0_4 : Int) (a0_5 : Int) (a0_6 : Int) (a0_7 : Int) (l0_8 : List (S88)) (a0_9 : Int) (a1 : Int) : Option (Bool) := (impl_InRange.f a1 0 (wrap64 ((l0_1.length : Int) - 1))).bind fun t398 => (some t398)
set_option maxHeartbeats 8000000 in
set_option maxRecDepth 100000 in
theorem impl_isSatellite.calls (a0_0 : Int) (A0_1 : Option Addr) (c0_1 : Nat) (l0_1 : List (S72)) (A0_2 : Option Addr) (c0_2 : Nat) (l0_2 : List (S74)) (a0_3 : Int) (a0_4 : Int) (a0_5 : Int) (a0_6 : Int) (a0_7 : Int) (A0_8 : Option Addr) (c0_8 : Nat) (l0_8 : List (S88)) (a0_9 : Int) (a1 : Int) (r : Bool) (w : World) (hr0_1 : Kd.C k72 w A0_1 l0_1.length l0_1) (hc0_1 : l0_1.length ≤ c0_1) (hr0_2 : Kd.C k74 w A0_2 l0_2.length l0_2) (hc0_2 : l0_2.length ≤ c0_2) (hr0_8 : Kd.C k88 w A0_8 l0_8.length l0_8) (hc0_8 : l0_8.length ≤ c0_8) (h : impl_isSatellite.f a0_0 l0_1 l0_2 a0_3 a0_4 a0_5 a0_6 a0_7 l0_8 a0_9 a1 = some r) :
  Calls Try.prog 53 #[.agg #[iv_ a0_0, .slice A0_1 l0_1.length c0_1, .slice A0_2 l0_2.length c0_2, iv_ a0_3, iv_ a0_4, iv_ a0_5, iv_ a0_6, iv_ a0_7, .slice A0_8 l0_8.length c0_8, iv_ a0_9], iv_ a1] w fun e w' => e = .returned (.bool r) ∧ Below w.heap.size w w' := by
 have hu28 := Try.underlying28
 have HR0_1 := Aside0.mk hr0_1
 have HC0_1 := Aside0.mk hc0_1
 clear hr0_1 hc0_1
 have HR0_2 := Aside0.mk hr0_2
 have HC0_2 := Aside0.mk hc0_2
 clear hr0_2 hc0_2
 have HR0_8 := Aside0.mk hr0_8
 have HC0_8 := Aside0.mk hc0_8
 clear hr0_8 hc0_8
 have HB := Aside0.mk (Below.refl w.heap.size w)
 have H := h
 clear h
 unfold impl_isSatellite.f at H
 replace H := bs_ H
 obtain ⟨t398, A3, H⟩ := H
 obtain rfl := Option.some.inj H
 go_enter Try.func53, Try.ntmps53
 go_wp2_with (first | ((with_reducible refine gd_ 2 ?_); refine bx_ 2 28 #[iv_ a0_0, .slice A0_1 l0_1.length c0_1, .slice A0_2 l0_2.length c0_2, iv_ a0_3, iv_ a0_4, iv_ a0_5, iv_ a0_6, iv_ a0_7, .slice A0_8 l0_8.length c0_8, iv_ a0_9] ?_; intro gb397 hg w4 hbox hb; refine sh3_ (below_step (bl_ HB) hb) hbox (ge_ hg (bl_ HB)) ?_; clear HB hb hbox hg; intro HB BK397 GE397; have hcz5 := cf10_ BK397) | ((with_reducible refine gate_callee (f := 93) rfl ?_); refine gl_ 10 Try.func93 (impl_InRange.calls a1 0 (wrap64 ((l0_1.length : Int) - 1)) t398 _ A3.out) ?_; rintro e w' ⟨rfl, ⟨nd, rfl⟩⟩; refine ⟨_, rfl, ?_⟩))
 go_ret
 exact ⟨by first | (rw [hRT_.out]; rfl) | exact er_, bl1_ HB GE397⟩

/-! ### impl_NodesOf: function 41 -/
def impl_NodesOf.f (a0_0 : Int) (l0_1 : List (S72)) (l0_2 : List (S74)) (a0_3 : Int) (a0_4 : Int) (a0_5 : Int) (a0_6 : Int) (a0_7 : Int) (l0_8 : List (S88)) (a0_9 : Int) : Option (Int) := some (wrap64 ((l0_1.length : Int) + (l0_2.length : Int)))
set_option maxHeartbeats 8000000 in
set_option maxRecDepth 100000 in
theorem impl_NodesOf.calls (a0_0 : Int) (A0_1 : Option Addr) (c0_1 : Nat) (l0_1 : List (S72)) (A0_2 : Option Addr) (c0_2 : Nat) (l0_2 : List (S74)) (a0_3 : Int) (a0_4 : Int) (a0_5 : Int) (a0_6 : Int) (a0_7 : Int) (A0_8 : Option Addr) (c0_8 : Nat) (l0_8 : List (S88)) (a0_9 : Int) (r : Int) (w : World) (hr0_1 : Kd.C k72 w A0_1 l0_1.length l0_1) (hc0_1 : l0_1.length ≤ c0_1) (hr0_2 : Kd.C k74 w A0_2 l0_2.length l0_2) (hc0_2 : l0_2.length ≤ c0_2) (hr0_8 : Kd.C k88 w A0_8 l0_8.length l0_8) (hc0_8 : l0_8.length ≤ c0_8) (h : impl_NodesOf.f a0_0 l0_1 l0_2 a0_3 a0_4 a0_5 a0_6 a0_7 l0_8 a0_9 = some r) :
  Calls Try.prog 41 #[.agg #[iv_ a0_0, .slice A0_1 l0_1.length c0_1, .slice A0_2 l0_2.length c0_2, iv_ a0_3, iv_ a0_4, iv_ a0_5, iv_ a0_6, iv_ a0_7, .slice A0_8 l0_8.length c0_8, iv_ a0_9]] w fun e w' => e = .returned (iv_ r) ∧ Below w.heap.size w w' := by
 have hu28 := Try.underlying28
 have HR0_1 := Aside0.mk hr0_1
 have HC0_1 := Aside0.mk hc0_1
 clear hr0_1 hc0_1
 have HR0_2 := Aside0.mk hr0_2
 have HC0_2 := Aside0.mk hc0_2
 clear hr0_2 hc0_2
 have HR0_8 := Aside0.mk hr0_8
 have HC0_8 := Aside0.mk hc0_8
 clear hr0_8 hc0_8
 have HB := Aside0.mk (Below.refl w.heap.size w)
 have H := h
 clear h
 unfold impl_NodesOf.f at H
 obtain rfl := Option.some.inj H
 go_enter Try.func41, Try.ntmps41
 go_wp2_with (first | ((with_reducible refine gd_ 1 ?_); refine bx_ 1 28 #[iv_ a0_0, .slice A0_1 l0_1.length c0_1, .slice A0_2 l0_2.length c0_2, iv_ a0_3, iv_ a0_4, iv_ a0_5, iv_ a0_6, iv_ a0_7, .slice A0_8 l0_8.length c0_8, iv_ a0_9] ?_; intro gb399 hg w2 hbox hb; refine sh3_ (below_step (bl_ HB) hb) hbox (ge_ hg (bl_ HB)) ?_; clear HB hb hbox hg; intro HB BK399 GE399; have hcz3 := cf10_ BK399))
 go_ret
 exact ⟨by first | (rw [hRT_.out]; rfl) | exact er_, bl1_ HB GE399⟩

/-! ### impl_IsSite: function 54 -/
def impl_IsSite.f (a0_0 : Int) (l0_1 : List (S72)) (l0_2 : List (S74)) (a0_3 : Int) (a0_4 : Int) (a0_5 : Int) (a0_6 : Int) (a0_7 : Int) (l0_8 : List (S88)) (a0_9 : Int) (a1 : Int) : Option (Bool) := (impl_NodesOf.f a0_0 l0_1 l0_2 a0_3 a0_4 a0_5 a0_6 a0_7 l0_8 a0_9).bind fun t401 => ((impl_InRange.f a1 (l0_1.length : Int) (wrap64 (t401 - 1))).bind fun t402 => (some t402))
def impl_IsSite.T1 : Bool × List (List Nat × List Nat) := (true, [([], []), ([], []), ([1], [1]), ([2], [2]), ([], []), ([4], [4]), ([5], [5]), ([0, 3, 6, 5], [0, 3, 6]), ([7, 7, 0, 1, 2, 3, 4, 5, 6, 7], [7])])
def impl_IsSite.B1 : List Nat := [0, 0, 2, 6, 0, 16, 48, 127, 255]
theorem impl_IsSite.tab1 : rtab .any (opsOf Try.f54 1) = impl_IsSite.T1 := by kernel_rfl
theorem impl_IsSite.bits1 : waitsOk impl_IsSite.T1.2 impl_IsSite.B1 = true := by kernel_rfl
set_option maxHeartbeats 8000000 in
set_option maxRecDepth 100000 in
theorem impl_IsSite.calls (a0_0 : Int) (A0_1 : Option Addr) (c0_1 : Nat) (l0_1 : List (S72)) (A0_2 : Option Addr) (c0_2 : Nat) (l0_2 : List (S74)) (a0_3 : Int) (a0_4 : Int) (a0_5 : Int) (a0_6 : Int) (a0_7 : Int) (A0_8 : Option Addr) (c0_8 : Nat) (l0_8 : List (S88)) (a0_9 : Int) (a1 : Int) (r : Bool) (w : World) (hr0_1 : Kd.C k72 w A0_1 l0_1.length l0_1) (hc0_1 : l0_1.length ≤ c0_1) (hr0_2 : Kd.C k74 w A0_2 l0_2.length l0_2) (hc0_2 : l0_2.length ≤ c0_2) (hr0_8 : Kd.C k88 w A0_8 l0_8.length l0_8) (hc0_8 : l0_8.length ≤ c0_8) (h : impl_IsSite.f a0_0 l0_1 l0_2 a0_3 a0_4 a0_5 a0_6 a0_7 l0_8 a0_9 a1 = some r) :
  Calls Try.prog 54 #[.agg #[iv_ a0_0, .slice A0_1 l0_1.length c0_1, .slice A0_2 l0_2.length c0_2, iv_ a0_3, iv_ a0_4, iv_ a0_5, iv_ a0_6, iv_ a0_7, .slice A0_8 l0_8.length c0_8, iv_ a0_9], iv_ a1] w fun e w' => e = .returned (.bool r) ∧ Below w.heap.size w w' := by
 have hu28 := Try.underlying28
 have HR0_1 := Aside0.mk hr0_1
 have HC0_1 := Aside0.mk hc0_1
 clear hr0_1 hc0_1
 have HR0_2 := Aside0.mk hr0_2
 have HC0_2 := Aside0.mk hc0_2
 clear hr0_2 hc0_2
 have HR0_8 := Aside0.mk hr0_8
 have HC0_8 := Aside0.mk hc0_8
 clear hr0_8 hc0_8
 have HB := Aside0.mk (Below.refl w.heap.size w)
 have H := h
 clear h
 unfold impl_IsSite.f at H
 replace H := bs_ H
 obtain ⟨t401, A3, H⟩ := H
 replace H := bs_ H
 obtain ⟨t402, A4, H⟩ := H
 obtain rfl := Option.some.inj H
 go_enter Try.func54, Try.ntmps54
 try go_wp2_with (first | ((with_reducible refine gd_ 2 ?_); refine bx_ 2 28 #[iv_ a0_0, .slice A0_1 l0_1.length c0_1, .slice A0_2 l0_2.length c0_2, iv_ a0_3, iv_ a0_4, iv_ a0_5, iv_ a0_6, iv_ a0_7, .slice A0_8 l0_8.length c0_8, iv_ a0_9] ?_; intro gb400 hg w5 hbox hb; refine sh3_ (below_step (bl_ HB) hb) hbox (ge_ hg (bl_ HB)) ?_; clear HB hb hbox hg; intro HB BK400 GE400))
 refine sh2_ (blk_drew BK400.out) (below_drew1 HB.out) ?_
 clear BK400 HB
 intro BK400 HB
 refine start_ (n := 9) (S := fun w' => Cz10 w' gb400 (iv_ a0_0) (.slice A0_1 l0_1.length c0_1) (.slice A0_2 l0_2.length c0_2) (iv_ a0_3) (iv_ a0_4) (iv_ a0_5) (iv_ a0_6) (iv_ a0_7) (.slice A0_8 l0_8.length c0_8) (iv_ a0_9)) (ds := []) (bo_ 9 0) (by kernel_rfl) rfl rfl (cz10_ BK400) (fun hHeld => ?_); refine with_tabW impl_IsSite.tab1 impl_IsSite.bits1 (fun HT_ HW_ => ?_)
 generalize w5.drew = w6 at BK400 HB hHeld ⊢
 refine pur_ 0 (bo_ 9 1) (some 5) HT_ ?_
 refine pur_ 1 (bo_ 9 3) (some 6) HT_ ?_
 refine tak_ 2 (bo_ 9 7) (some 7) HT_ HW_ hHeld ?_
 refine pur_ 3 (bo_ 9 15) (some 8) HT_ ?_
 refine tak_ 4 (bo_ 9 31) (some 9) HT_ HW_ hHeld ?_
 refine onc_ 5 (bo_ 9 63) (some 10) HT_ Try.func41 (impl_NodesOf.calls a0_0 _ _ l0_1 _ _ l0_2 a0_3 a0_4 a0_5 a0_6 a0_7 _ _ l0_8 a0_9 t401 _ (ck_ HR0_1 HB) HC0_1.out (ck_ HR0_2 HB) HC0_2.out (ck_ HR0_8 HB) HC0_8.out A3.out) ?_
 rintro e w7 ⟨rfl, hb⟩
 refine sh2_ (blk_below (bk_ BK400) hb) (below_step (bl1_ HB GE400) hb) ?_
 clear BK400 HB hb
 intro BK400 HB
 refine ⟨_, _, rfl, (cz10_ BK400), pt_, fun hHeld => ?_⟩
 refine pur_ 6 (bo_ 9 127) (some 11) HT_ ?_
 refine onc_ 7 (bo_ 9 255) (some 12) HT_ Try.func93 (impl_InRange.calls a1 (l0_1.length : Int) (wrap64 (t401 - 1)) t402 _ A4.out) ?_
 rintro e w' ⟨rfl, ⟨nd, rfl⟩⟩
 refine ⟨_, _, rfl, (cz10_ BK400), pt_, fun hHeld => ?_⟩
 refine pur_ 8 (bo_ 9 511) (some 4) HT_ ?_
 refine done_ (done_of HT_.out (by kernel_rfl)) ?_
 try go_wp2
 go_ret
 exact ⟨by first | (rw [hRT_.out]; rfl) | exact er_, bl1_ HB GE400⟩

/-! ### impl_PlaneOf: function 52 -/
def impl_PlaneOf.f (a0_0 : Int) (l0_1 : List (S72)) (l0_2 : List (S74)) (a0_3 : Int) (a0_4 : Int) (a0_5 : Int) (a0_6 : Int) (a0_7 : Int) (l0_8 : List (S88)) (a0_9 : Int) (a1 : Int) : Option (Int) := (impl_isSatellite.f a0_0 l0_1 l0_2 a0_3 a0_4 a0_5 a0_6 a0_7 l0_8 a0_9 a1).bind fun t404 => (if t404 = true then (if 0 ≤ a1 then (if a1 < (l0_1.length : Int) then (some ((rd_T72 l0_1 a1).f0)) else (none)) else (none)) else ((impl_IsSite.f a0_0 l0_1 l0_2 a0_3 a0_4 a0_5 a0_6 a0_7 l0_8 a0_9 a1).bind fun t406 => (if t406 = true then (if 0 ≤ (wrap64 (a1 - (l0_1.length : Int))) then (if (wrap64 (a1 - (l0_1.length : Int))) < (l0_2.length : Int) then (some ((rd_T74 l0_2 (wrap64 (a1 - (l0_1.length : Int)))).f0)) else (none)) else (none)) else (some (-1)))))
set_option maxHeartbeats 8000000 in
set_option maxRecDepth 100000 in
theorem impl_PlaneOf.calls (a0_0 : Int) (A0_1 : Option Addr) (c0_1 : Nat) (l0_1 : List (S72)) (A0_2 : Option Addr) (c0_2 : Nat) (l0_2 : List (S74)) (a0_3 : Int) (a0_4 : Int) (a0_5 : Int) (a0_6 : Int) (a0_7 : Int) (A0_8 : Option Addr) (c0_8 : Nat) (l0_8 : List (S88)) (a0_9 : Int) (a1 : Int) (r : Int) (w : World) (hr0_1 : Kd.C k72 w A0_1 l0_1.length l0_1) (hc0_1 : l0_1.length ≤ c0_1) (hr0_2 : Kd.C k74 w A0_2 l0_2.length l0_2) (hc0_2 : l0_2.length ≤ c0_2) (hr0_8 : Kd.C k88 w A0_8 l0_8.length l0_8) (hc0_8 : l0_8.length ≤ c0_8) (h : impl_PlaneOf.f a0_0 l0_1 l0_2 a0_3 a0_4 a0_5 a0_6 a0_7 l0_8 a0_9 a1 = some r) :
  Calls Try.prog 52 #[.agg #[iv_ a0_0, .slice A0_1 l0_1.length c0_1, .slice A0_2 l0_2.length c0_2, iv_ a0_3, iv_ a0_4, iv_ a0_5, iv_ a0_6, iv_ a0_7, .slice A0_8 l0_8.length c0_8, iv_ a0_9], iv_ a1] w fun e w' => e = .returned (iv_ r) ∧ Below w.heap.size w w' := by
 have hu28 := Try.underlying28
 have HR0_1 := Aside0.mk hr0_1
 have HC0_1 := Aside0.mk hc0_1
 clear hr0_1 hc0_1
 have HR0_2 := Aside0.mk hr0_2
 have HC0_2 := Aside0.mk hc0_2
 clear hr0_2 hc0_2
 have HR0_8 := Aside0.mk hr0_8
 have HC0_8 := Aside0.mk hc0_8
 clear hr0_8 hc0_8
 have HB := Aside0.mk (Below.refl w.heap.size w)
 have H := h
 clear h
 unfold impl_PlaneOf.f at H
 replace H := bs_ H
 obtain ⟨t404, A3, H⟩ := H
 by_cases c4 : t404 = true
 ·subst c4
  rw [if_pos rfl] at H
  replace H := ifn_ H
  obtain ⟨c5, H⟩ := H
  have c5b0 := decide_eq_true c5
  clear c5
  replace H := ifn_ H
  obtain ⟨c6, H⟩ := H
  have c6b0 := decide_eq_true c6
  clear c6
  obtain rfl := Option.some.inj H
  go_enter Try.func52, Try.ntmps52
  go_wp2_with (first | ((with_reducible refine gd_ 2 ?_); refine bx_ 2 28 #[iv_ a0_0, .slice A0_1 l0_1.length c0_1, .slice A0_2 l0_2.length c0_2, iv_ a0_3, iv_ a0_4, iv_ a0_5, iv_ a0_6, iv_ a0_7, .slice A0_8 l0_8.length c0_8, iv_ a0_9] ?_; intro gb403 hg w7 hbox hb; refine sh3_ (below_step (bl_ HB) hb) hbox (ge_ hg (bl_ HB)) ?_; clear HB hb hbox hg; intro HB BK403 GE403; have hcz8 := cf10_ BK403) | ((with_reducible refine gate_callee (f := 53) rfl ?_); refine gl_ 8 Try.func53 (impl_isSatellite.calls a0_0 _ _ l0_1 _ _ l0_2 a0_3 a0_4 a0_5 a0_6 a0_7 _ _ l0_8 a0_9 a1 true _ (ck_ HR0_1 HB) HC0_1.out (ck_ HR0_2 HB) HC0_2.out (ck_ HR0_8 HB) HC0_8.out A3.out) ?_; rintro e w9 ⟨rfl, hb⟩; refine ⟨_, rfl, sh2_ (blk_below (bk_ BK403) hb) (below_step (bl1_ HB GE403) hb) ?_⟩; clear BK403 HB hb; intro BK403 HB; have hcz10 := cf10_ BK403; have p405 : 0 ≤ (a1 : Int) := od_; have q405 : a1 < (l0_1.length : Int) := od_; obtain ⟨ad405, e405, hx405_0, hx405_1, hx405_2, hx405_3⟩ := at_T72 HR0_1.out a1 p405 q405; cases e405; replace hx405_0 := hbc_ HB hx405_0; replace hx405_1 := hbc_ HB hx405_1; replace hx405_2 := hbc_ HB hx405_2; replace hx405_3 := hbc_ HB hx405_3; replace p405 := eq_true p405; replace q405 := eq_true q405))
  go_ret
  exact ⟨by first | (rw [hRT_.out]; rfl) | exact er_, bl1_ HB GE403⟩
 ·replace c4 := Bool.eq_false_iff.mpr c4
  subst c4
  have H1 : ((impl_IsSite.f a0_0 l0_1 l0_2 a0_3 a0_4 a0_5 a0_6 a0_7 l0_8 a0_9 a1).bind fun t406 => (if t406 = true then (if 0 ≤ (wrap64 (a1 - (l0_1.length : Int))) then (if (wrap64 (a1 - (l0_1.length : Int))) < (l0_2.length : Int) then (some ((rd_T74 l0_2 (wrap64 (a1 - (l0_1.length : Int)))).f0)) else (none)) else (none)) else (some (-1)))) = some r := by rw [if_neg (show ¬ (false = true) by decide)] at H; exact H
  clear H
  have H := H1
  clear H1
  replace H := bs_ H
  obtain ⟨t406, A11, H⟩ := H
  by_cases c12 : t406 = true
  ·subst c12
   rw [if_pos rfl] at H
   obtain ⟨ji13, hji13⟩ : ∃ j_ : Int, (wrap64 (a1 - (l0_1.length : Int))) = j_ := ⟨_, rfl⟩
   replace H : (if 0 ≤ (ji13) then (if (ji13) < (l0_2.length : Int) then (some ((rd_T74 l0_2 (ji13)).f0)) else (none)) else (none)) = some r := by first | (rw [hji13] at H; exact H) | (simp only [hji13] at H ⊢; exact H)
   (try rw [hji13] at A3)
   (try rw [hji13] at A11)
   have hji13w : (IntKind.i64.wrap (a1 - (l0_1.length : Int))) = ji13 := (i64_w _).trans hji13
   replace H := ifn_ H
   obtain ⟨c14, H⟩ := H
   have c14b0 := decide_eq_true c14
   clear c14
   replace H := ifn_ H
   obtain ⟨c15, H⟩ := H
   have c15b0 := decide_eq_true c15
   clear c15
   obtain rfl := Option.some.inj H
   go_enter Try.func52, Try.ntmps52
   go_wp2_with (first | ((with_reducible refine gd_ 2 ?_); refine bx_ 2 28 #[iv_ a0_0, .slice A0_1 l0_1.length c0_1, .slice A0_2 l0_2.length c0_2, iv_ a0_3, iv_ a0_4, iv_ a0_5, iv_ a0_6, iv_ a0_7, .slice A0_8 l0_8.length c0_8, iv_ a0_9] ?_; intro gb403 hg w16 hbox hb; refine sh3_ (below_step (bl_ HB) hb) hbox (ge_ hg (bl_ HB)) ?_; clear HB hb hbox hg; intro HB BK403 GE403; have hcz17 := cf10_ BK403) | ((with_reducible refine gate_callee (f := 53) rfl ?_); refine gl_ 8 Try.func53 (impl_isSatellite.calls a0_0 _ _ l0_1 _ _ l0_2 a0_3 a0_4 a0_5 a0_6 a0_7 _ _ l0_8 a0_9 a1 false _ (ck_ HR0_1 HB) HC0_1.out (ck_ HR0_2 HB) HC0_2.out (ck_ HR0_8 HB) HC0_8.out A3.out) ?_; rintro e w18 ⟨rfl, hb⟩; refine ⟨_, rfl, sh2_ (blk_below (bk_ BK403) hb) (below_step (bl1_ HB GE403) hb) ?_⟩; clear BK403 HB hb; intro BK403 HB; have hcz19 := cf10_ BK403) | ((with_reducible refine gate_callee (f := 54) rfl ?_); refine gl_ 18 Try.func54 (impl_IsSite.calls a0_0 _ _ l0_1 _ _ l0_2 a0_3 a0_4 a0_5 a0_6 a0_7 _ _ l0_8 a0_9 a1 true _ (ck_ HR0_1 HB) HC0_1.out (ck_ HR0_2 HB) HC0_2.out (ck_ HR0_8 HB) HC0_8.out A11.out) ?_; rintro e w20 ⟨rfl, hb⟩; refine ⟨_, rfl, sh2_ (blk_below (bk_ BK403) hb) (below_step (bl1_ HB GE403) hb) ?_⟩; clear BK403 HB hb; intro BK403 HB; have hcz21 := cf10_ BK403; have p407 : 0 ≤ ((ji13) : Int) := od_; have q407 : (ji13) < (l0_2.length : Int) := od_; obtain ⟨ad407, e407, hx407_0, hx407_1, hx407_2⟩ := at_T74 HR0_2.out (ji13) p407 q407; cases e407; replace hx407_0 := hbc_ HB hx407_0; replace hx407_1 := hbc_ HB hx407_1; replace hx407_2 := hbc_ HB hx407_2; replace p407 := eq_true p407; replace q407 := eq_true q407))
   go_ret
   exact ⟨by first | rfl | (rw [hRT_.out]; rfl) | (simp [errW_none, errW_some] <;> rfl) | (simp only [← hji13]; first | rfl | (simp [errW_none, errW_some] <;> rfl)) | (simp [*, errW_none, errW_some] <;> rfl), bl1_ HB GE403⟩
  ·replace c12 := Bool.eq_false_iff.mpr c12
   subst c12
   have H1 : (some (-1)) = some r := by rw [if_neg (show ¬ (false = true) by decide)] at H; exact H
   clear H
   have H := H1
   clear H1
   obtain rfl := Option.some.inj H
   go_enter Try.func52, Try.ntmps52
   go_wp2_with (first | ((with_reducible refine gd_ 2 ?_); refine bx_ 2 28 #[iv_ a0_0, .slice A0_1 l0_1.length c0_1, .slice A0_2 l0_2.length c0_2, iv_ a0_3, iv_ a0_4, iv_ a0_5, iv_ a0_6, iv_ a0_7, .slice A0_8 l0_8.length c0_8, iv_ a0_9] ?_; intro gb403 hg w22 hbox hb; refine sh3_ (below_step (bl_ HB) hb) hbox (ge_ hg (bl_ HB)) ?_; clear HB hb hbox hg; intro HB BK403 GE403; have hcz23 := cf10_ BK403) | ((with_reducible refine gate_callee (f := 53) rfl ?_); refine gl_ 8 Try.func53 (impl_isSatellite.calls a0_0 _ _ l0_1 _ _ l0_2 a0_3 a0_4 a0_5 a0_6 a0_7 _ _ l0_8 a0_9 a1 false _ (ck_ HR0_1 HB) HC0_1.out (ck_ HR0_2 HB) HC0_2.out (ck_ HR0_8 HB) HC0_8.out A3.out) ?_; rintro e w24 ⟨rfl, hb⟩; refine ⟨_, rfl, sh2_ (blk_below (bk_ BK403) hb) (below_step (bl1_ HB GE403) hb) ?_⟩; clear BK403 HB hb; intro BK403 HB; have hcz25 := cf10_ BK403) | ((with_reducible refine gate_callee (f := 54) rfl ?_); refine gl_ 18 Try.func54 (impl_IsSite.calls a0_0 _ _ l0_1 _ _ l0_2 a0_3 a0_4 a0_5 a0_6 a0_7 _ _ l0_8 a0_9 a1 false _ (ck_ HR0_1 HB) HC0_1.out (ck_ HR0_2 HB) HC0_2.out (ck_ HR0_8 HB) HC0_8.out A11.out) ?_; rintro e w26 ⟨rfl, hb⟩; refine ⟨_, rfl, sh2_ (blk_below (bk_ BK403) hb) (below_step (bl1_ HB GE403) hb) ?_⟩; clear BK403 HB hb; intro BK403 HB))
   go_ret
   exact ⟨by first | (rw [hRT_.out]; rfl) | exact er_, bl1_ HB GE403⟩

/-! ### impl_areNeighbors: function 55 -/
def impl_areNeighbors.f (a0_0 : Int) (l0_1 : List (S72)) (l0_2 : List (S74)) (a0_3 : Int) (a0_4 : Int) (a0_5 : Int) (a0_6 : Int) (a0_7 : Int) (l0_8 : List (S88)) (a0_9 : Int) (a1 : Int) (a2 : Int) : Option (Bool) := if a1 > a2 then (if a2 ≥ 0 then (if (wrap64 (a1 - a2)) = 1 then (some true) else (if a2 = 0 then (if a1 = (wrap64 (a0_0 - 1)) then ((impl_InRange.f a1 1 4).bind fun t409 => (some t409)) else (some false)) else (some false))) else (if a2 = 0 then (if a1 = (wrap64 (a0_0 - 1)) then ((impl_InRange.f a1 1 4).bind fun t410 => (some t410)) else (some false)) else (some false))) else (if a1 ≥ 0 then (if (wrap64 (a2 - a1)) = 1 then (some true) else (if a1 = 0 then (if a2 = (wrap64 (a0_0 - 1)) then ((impl_InRange.f a2 1 4).bind fun t411 => (some t411)) else (some false)) else (some false))) else (if a1 = 0 then (if a2 = (wrap64 (a0_0 - 1)) then ((impl_InRange.f a2 1 4).bind fun t412 => (some t412)) else (some false)) else (some false)))
set_option maxHeartbeats 8000000 in
set_option maxRecDepth 100000 in
theorem impl_areNeighbors.calls (a0_0 : Int) (A0_1 : Option Addr) (c0_1 : Nat) (l0_1 : List (S72)) (A0_2 : Option Addr) (c0_2 : Nat) (l0_2 : List (S74)) (a0_3 : Int) (a0_4 : Int) (a0_5 : Int) (a0_6 : Int) (a0_7 : Int) (A0_8 : Option Addr) (c0_8 : Nat) (l0_8 : List (S88)) (a0_9 : Int) (a1 : Int) (a2 : Int) (r : Bool) (w : World) (hr0_1 : Kd.C k72 w A0_1 l0_1.length l0_1) (hc0_1 : l0_1.length ≤ c0_1) (hr0_2 : Kd.C k74 w A0_2 l0_2.length l0_2) (hc0_2 : l0_2.length ≤ c0_2) (hr0_8 : Kd.C k88 w A0_8 l0_8.length l0_8) (hc0_8 : l0_8.length ≤ c0_8) (h : impl_areNeighbors.f a0_0 l0_1 l0_2 a0_3 a0_4 a0_5 a0_6 a0_7 l0_8 a0_9 a1 a2 = some r) :
  Calls Try.prog 55 #[.agg #[iv_ a0_0, .slice A0_1 l0_1.length c0_1, .slice A0_2 l0_2.length c0_2, iv_ a0_3, iv_ a0_4, iv_ a0_5, iv_ a0_6, iv_ a0_7, .slice A0_8 l0_8.length c0_8, iv_ a0_9], iv_ a1, iv_ a2] w fun e w' => e = .returned (.bool r) ∧ Below w.heap.size w w' := by
 have hu28 := Try.underlying28
 have HR0_1 := Aside0.mk hr0_1
 have HC0_1 := Aside0.mk hc0_1
 clear hr0_1 hc0_1
 have HR0_2 := Aside0.mk hr0_2
 have HC0_2 := Aside0.mk hc0_2
 clear hr0_2 hc0_2
 have HR0_8 := Aside0.mk hr0_8
 have HC0_8 := Aside0.mk hc0_8
 clear hr0_8 hc0_8
 have HB := Aside0.mk (Below.refl w.heap.size w)
 have H := h
 clear h
 unfold impl_areNeighbors.f at H
 by_cases c4 : a1 > a2
 ·rw [if_pos c4] at H
  have c4b0 : decide (a2 < a1) = true := decide_eq_true c4
  clear c4
  by_cases c5 : a2 ≥ 0
  ·rw [if_pos c5] at H
   have c5b0 : decide (0 ≤ a2) = true := decide_eq_true c5
   clear c5
   by_cases c6 : (wrap64 (a1 - a2)) = 1
   ·rw [if_pos c6] at H
    obtain ⟨c6b0, c6b1⟩ := bt_ c6
    clear c6
    obtain rfl := Option.some.inj H
    go_enter Try.func55, Try.ntmps55
    go_wp2_with (first | ((with_reducible refine gd_ 3 ?_); refine bx_ 3 28 #[iv_ a0_0, .slice A0_1 l0_1.length c0_1, .slice A0_2 l0_2.length c0_2, iv_ a0_3, iv_ a0_4, iv_ a0_5, iv_ a0_6, iv_ a0_7, .slice A0_8 l0_8.length c0_8, iv_ a0_9] ?_; intro gb408 hg w7 hbox hb; refine sh3_ (below_step (bl_ HB) hb) hbox (ge_ hg (bl_ HB)) ?_; clear HB hb hbox hg; intro HB BK408 GE408))
    go_ret
    exact ⟨by first | (rw [hRT_.out]; rfl) | exact er_, bl1_ HB GE408⟩
   ·rw [if_neg c6] at H
    obtain ⟨c6b0, c6b1⟩ := bn_ c6
    by_cases c8 : a2 = 0
    ·rw [if_pos c8] at H
     obtain ⟨c8b0, c8b1⟩ := bt_ c8
     clear c8
     by_cases c9 : a1 = (wrap64 (a0_0 - 1))
     ·rw [if_pos c9] at H
      obtain ⟨c9b0, c9b1⟩ := bt_ c9
      clear c9
      replace H := bs_ H
      obtain ⟨t409, A10, H⟩ := H
      obtain rfl := Option.some.inj H
      go_enter Try.func55, Try.ntmps55
      go_wp2_with (first | ((with_reducible refine gd_ 3 ?_); refine bx_ 3 28 #[iv_ a0_0, .slice A0_1 l0_1.length c0_1, .slice A0_2 l0_2.length c0_2, iv_ a0_3, iv_ a0_4, iv_ a0_5, iv_ a0_6, iv_ a0_7, .slice A0_8 l0_8.length c0_8, iv_ a0_9] ?_; intro gb408 hg w11 hbox hb; refine sh3_ (below_step (bl_ HB) hb) hbox (ge_ hg (bl_ HB)) ?_; clear HB hb hbox hg; intro HB BK408 GE408; have hcz12 := cf10_ BK408) | (go_at_call 93; (with_reducible refine (impl_InRange.calls a1 1 4 t409 _ A10.out).mono ?_); rintro e w' ⟨rfl, ⟨nd, rfl⟩⟩))
      go_ret
      exact ⟨by first | (rw [hRT_.out]; rfl) | exact er_, bl1_ HB GE408⟩
     ·rw [if_neg c9] at H
      obtain ⟨c9b0, c9b1⟩ := bn_ c9
      obtain rfl := Option.some.inj H
      go_enter Try.func55, Try.ntmps55
      go_wp2_with (first | ((with_reducible refine gd_ 3 ?_); refine bx_ 3 28 #[iv_ a0_0, .slice A0_1 l0_1.length c0_1, .slice A0_2 l0_2.length c0_2, iv_ a0_3, iv_ a0_4, iv_ a0_5, iv_ a0_6, iv_ a0_7, .slice A0_8 l0_8.length c0_8, iv_ a0_9] ?_; intro gb408 hg w13 hbox hb; refine sh3_ (below_step (bl_ HB) hb) hbox (ge_ hg (bl_ HB)) ?_; clear HB hb hbox hg; intro HB BK408 GE408; have hcz14 := cf10_ BK408))
      go_ret
      exact ⟨by first | (rw [hRT_.out]; rfl) | exact er_, bl1_ HB GE408⟩
    ·rw [if_neg c8] at H
     obtain ⟨c8b0, c8b1⟩ := bn_ c8
     obtain rfl := Option.some.inj H
     go_enter Try.func55, Try.ntmps55
     go_wp2_with (first | ((with_reducible refine gd_ 3 ?_); refine bx_ 3 28 #[iv_ a0_0, .slice A0_1 l0_1.length c0_1, .slice A0_2 l0_2.length c0_2, iv_ a0_3, iv_ a0_4, iv_ a0_5, iv_ a0_6, iv_ a0_7, .slice A0_8 l0_8.length c0_8, iv_ a0_9] ?_; intro gb408 hg w15 hbox hb; refine sh3_ (below_step (bl_ HB) hb) hbox (ge_ hg (bl_ HB)) ?_; clear HB hb hbox hg; intro HB BK408 GE408))
     go_ret
     exact ⟨by first | (rw [hRT_.out]; rfl) | exact er_, bl1_ HB GE408⟩
  ·rw [if_neg c5] at H
   have c5b0 : decide (0 ≤ a2) = false := decide_eq_false c5
   clear c5
   by_cases c16 : a2 = 0
   ·rw [if_pos c16] at H
    obtain ⟨c16b0, c16b1⟩ := bt_ c16
    clear c16
    by_cases c17 : a1 = (wrap64 (a0_0 - 1))
    ·rw [if_pos c17] at H
     obtain ⟨c17b0, c17b1⟩ := bt_ c17
     clear c17
     replace H := bs_ H
     obtain ⟨t410, A18, H⟩ := H
     obtain rfl := Option.some.inj H
     go_enter Try.func55, Try.ntmps55
     go_wp2_with (first | ((with_reducible refine gd_ 3 ?_); refine bx_ 3 28 #[iv_ a0_0, .slice A0_1 l0_1.length c0_1, .slice A0_2 l0_2.length c0_2, iv_ a0_3, iv_ a0_4, iv_ a0_5, iv_ a0_6, iv_ a0_7, .slice A0_8 l0_8.length c0_8, iv_ a0_9] ?_; intro gb408 hg w19 hbox hb; refine sh3_ (below_step (bl_ HB) hb) hbox (ge_ hg (bl_ HB)) ?_; clear HB hb hbox hg; intro HB BK408 GE408; have hcz20 := cf10_ BK408) | (go_at_call 93; (with_reducible refine (impl_InRange.calls a1 1 4 t410 _ A18.out).mono ?_); rintro e w' ⟨rfl, ⟨nd, rfl⟩⟩))
     go_ret
     exact ⟨by first | (rw [hRT_.out]; rfl) | exact er_, bl1_ HB GE408⟩
    ·rw [if_neg c17] at H
     obtain ⟨c17b0, c17b1⟩ := bn_ c17
     obtain rfl := Option.some.inj H
     go_enter Try.func55, Try.ntmps55
     go_wp2_with (first | ((with_reducible refine gd_ 3 ?_); refine bx_ 3 28 #[iv_ a0_0, .slice A0_1 l0_1.length c0_1, .slice A0_2 l0_2.length c0_2, iv_ a0_3, iv_ a0_4, iv_ a0_5, iv_ a0_6, iv_ a0_7, .slice A0_8 l0_8.length c0_8, iv_ a0_9] ?_; intro gb408 hg w21 hbox hb; refine sh3_ (below_step (bl_ HB) hb) hbox (ge_ hg (bl_ HB)) ?_; clear HB hb hbox hg; intro HB BK408 GE408; have hcz22 := cf10_ BK408))
     go_ret
     exact ⟨by first | (rw [hRT_.out]; rfl) | exact er_, bl1_ HB GE408⟩
   ·rw [if_neg c16] at H
    obtain ⟨c16b0, c16b1⟩ := bn_ c16
    obtain rfl := Option.some.inj H
    go_enter Try.func55, Try.ntmps55
    go_wp2_with (first | ((with_reducible refine gd_ 3 ?_); refine bx_ 3 28 #[iv_ a0_0, .slice A0_1 l0_1.length c0_1, .slice A0_2 l0_2.length c0_2, iv_ a0_3, iv_ a0_4, iv_ a0_5, iv_ a0_6, iv_ a0_7, .slice A0_8 l0_8.length c0_8, iv_ a0_9] ?_; intro gb408 hg w23 hbox hb; refine sh3_ (below_step (bl_ HB) hb) hbox (ge_ hg (bl_ HB)) ?_; clear HB hb hbox hg; intro HB BK408 GE408))
    go_ret
    exact ⟨by first | (rw [hRT_.out]; rfl) | exact er_, bl1_ HB GE408⟩
 ·rw [if_neg c4] at H
  have c4b0 : decide (a2 < a1) = false := decide_eq_false c4
  clear c4
  by_cases c24 : a1 ≥ 0
  ·rw [if_pos c24] at H
   have c24b0 : decide (0 ≤ a1) = true := decide_eq_true c24
   clear c24
   by_cases c25 : (wrap64 (a2 - a1)) = 1
   ·rw [if_pos c25] at H
    obtain ⟨c25b0, c25b1⟩ := bt_ c25
    clear c25
    obtain rfl := Option.some.inj H
    go_enter Try.func55, Try.ntmps55
    go_wp2_with (first | ((with_reducible refine gd_ 3 ?_); refine bx_ 3 28 #[iv_ a0_0, .slice A0_1 l0_1.length c0_1, .slice A0_2 l0_2.length c0_2, iv_ a0_3, iv_ a0_4, iv_ a0_5, iv_ a0_6, iv_ a0_7, .slice A0_8 l0_8.length c0_8, iv_ a0_9] ?_; intro gb408 hg w26 hbox hb; refine sh3_ (below_step (bl_ HB) hb) hbox (ge_ hg (bl_ HB)) ?_; clear HB hb hbox hg; intro HB BK408 GE408))
    go_ret
    exact ⟨by first | (rw [hRT_.out]; rfl) | exact er_, bl1_ HB GE408⟩
   ·rw [if_neg c25] at H
    obtain ⟨c25b0, c25b1⟩ := bn_ c25
    by_cases c27 : a1 = 0
    ·rw [if_pos c27] at H
     obtain ⟨c27b0, c27b1⟩ := bt_ c27
     clear c27
     by_cases c28 : a2 = (wrap64 (a0_0 - 1))
     ·rw [if_pos c28] at H
      obtain ⟨c28b0, c28b1⟩ := bt_ c28
      clear c28
      replace H := bs_ H
      obtain ⟨t411, A29, H⟩ := H
      obtain rfl := Option.some.inj H
      go_enter Try.func55, Try.ntmps55
      go_wp2_with (first | ((with_reducible refine gd_ 3 ?_); refine bx_ 3 28 #[iv_ a0_0, .slice A0_1 l0_1.length c0_1, .slice A0_2 l0_2.length c0_2, iv_ a0_3, iv_ a0_4, iv_ a0_5, iv_ a0_6, iv_ a0_7, .slice A0_8 l0_8.length c0_8, iv_ a0_9] ?_; intro gb408 hg w30 hbox hb; refine sh3_ (below_step (bl_ HB) hb) hbox (ge_ hg (bl_ HB)) ?_; clear HB hb hbox hg; intro HB BK408 GE408; have hcz31 := cf10_ BK408) | (go_at_call 93; (with_reducible refine (impl_InRange.calls a2 1 4 t411 _ A29.out).mono ?_); rintro e w' ⟨rfl, ⟨nd, rfl⟩⟩))
      go_ret
      exact ⟨by first | (rw [hRT_.out]; rfl) | exact er_, bl1_ HB GE408⟩
     ·rw [if_neg c28] at H
      obtain ⟨c28b0, c28b1⟩ := bn_ c28
      obtain rfl := Option.some.inj H
      go_enter Try.func55, Try.ntmps55
      go_wp2_with (first | ((with_reducible refine gd_ 3 ?_); refine bx_ 3 28 #[iv_ a0_0, .slice A0_1 l0_1.length c0_1, .slice A0_2 l0_2.length c0_2, iv_ a0_3, iv_ a0_4, iv_ a0_5, iv_ a0_6, iv_ a0_7, .slice A0_8 l0_8.length c0_8, iv_ a0_9] ?_; intro gb408 hg w32 hbox hb; refine sh3_ (below_step (bl_ HB) hb) hbox (ge_ hg (bl_ HB)) ?_; clear HB hb hbox hg; intro HB BK408 GE408; have hcz33 := cf10_ BK408))
      go_ret
      exact ⟨by first | (rw [hRT_.out]; rfl) | exact er_, bl1_ HB GE408⟩
    ·rw [if_neg c27] at H
     obtain ⟨c27b0, c27b1⟩ := bn_ c27
     obtain rfl := Option.some.inj H
     go_enter Try.func55, Try.ntmps55
     go_wp2_with (first | ((with_reducible refine gd_ 3 ?_); refine bx_ 3 28 #[iv_ a0_0, .slice A0_1 l0_1.length c0_1, .slice A0_2 l0_2.length c0_2, iv_ a0_3, iv_ a0_4, iv_ a0_5, iv_ a0_6, iv_ a0_7, .slice A0_8 l0_8.length c0_8, iv_ a0_9] ?_; intro gb408 hg w34 hbox hb; refine sh3_ (below_step (bl_ HB) hb) hbox (ge_ hg (bl_ HB)) ?_; clear HB hb hbox hg; intro HB BK408 GE408))
     go_ret
     exact ⟨by first | (rw [hRT_.out]; rfl) | exact er_, bl1_ HB GE408⟩
  ·rw [if_neg c24] at H
   have c24b0 : decide (0 ≤ a1) = false := decide_eq_false c24
   clear c24
   by_cases c35 : a1 = 0
   ·rw [if_pos c35] at H
    obtain ⟨c35b0, c35b1⟩ := bt_ c35
    clear c35
    by_cases c36 : a2 = (wrap64 (a0_0 - 1))
    ·rw [if_pos c36] at H
     obtain ⟨c36b0, c36b1⟩ := bt_ c36
     clear c36
     replace H := bs_ H
     obtain ⟨t412, A37, H⟩ := H
     obtain rfl := Option.some.inj H
     go_enter Try.func55, Try.ntmps55
     go_wp2_with (first | ((with_reducible refine gd_ 3 ?_); refine bx_ 3 28 #[iv_ a0_0, .slice A0_1 l0_1.length c0_1, .slice A0_2 l0_2.length c0_2, iv_ a0_3, iv_ a0_4, iv_ a0_5, iv_ a0_6, iv_ a0_7, .slice A0_8 l0_8.length c0_8, iv_ a0_9] ?_; intro gb408 hg w38 hbox hb; refine sh3_ (below_step (bl_ HB) hb) hbox (ge_ hg (bl_ HB)) ?_; clear HB hb hbox hg; intro HB BK408 GE408; have hcz39 := cf10_ BK408) | (go_at_call 93; (with_reducible refine (impl_InRange.calls a2 1 4 t412 _ A37.out).mono ?_); rintro e w' ⟨rfl, ⟨nd, rfl⟩⟩))
     go_ret
     exact ⟨by first | (rw [hRT_.out]; rfl) | exact er_, bl1_ HB GE408⟩
    ·rw [if_neg c36] at H
     obtain ⟨c36b0, c36b1⟩ := bn_ c36
     obtain rfl := Option.some.inj H
     go_enter Try.func55, Try.ntmps55
     go_wp2_with (first | ((with_reducible refine gd_ 3 ?_); refine bx_ 3 28 #[iv_ a0_0, .slice A0_1 l0_1.length c0_1, .slice A0_2 l0_2.length c0_2, iv_ a0_3, iv_ a0_4, iv_ a0_5, iv_ a0_6, iv_ a0_7, .slice A0_8 l0_8.length c0_8, iv_ a0_9] ?_; intro gb408 hg w40 hbox hb; refine sh3_ (below_step (bl_ HB) hb) hbox (ge_ hg (bl_ HB)) ?_; clear HB hb hbox hg; intro HB BK408 GE408; have hcz41 := cf10_ BK408))
     go_ret
     exact ⟨by first | (rw [hRT_.out]; rfl) | exact er_, bl1_ HB GE408⟩
   ·rw [if_neg c35] at H
    obtain ⟨c35b0, c35b1⟩ := bn_ c35
    obtain rfl := Option.some.inj H
    go_enter Try.func55, Try.ntmps55
    go_wp2_with (first | ((with_reducible refine gd_ 3 ?_); refine bx_ 3 28 #[iv_ a0_0, .slice A0_1 l0_1.length c0_1, .slice A0_2 l0_2.length c0_2, iv_ a0_3, iv_ a0_4, iv_ a0_5, iv_ a0_6, iv_ a0_7, .slice A0_8 l0_8.length c0_8, iv_ a0_9] ?_; intro gb408 hg w42 hbox hb; refine sh3_ (below_step (bl_ HB) hb) hbox (ge_ hg (bl_ HB)) ?_; clear HB hb hbox hg; intro HB BK408 GE408))
    go_ret
    exact ⟨by first | (rw [hRT_.out]; rfl) | exact er_, bl1_ HB GE408⟩

end Go.Proofs.Ytopbkdcicidajaa.PFnSight
