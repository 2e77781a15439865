-- Written by a program of this session for this claim (the kit's printer with changes).
import Derived.Test.YtflngcegkhgocaaQFnExactIsSurex0
import Derived.Test.YtflngcegkhgocaaQFnExactIsSurex1
import Derived.Test.YtflngcegkhgocaaQFnExactIsSurex2
import Derived.Test.YtflngcegkhgocaaQFnExactIsSurex4
import Derived.Test.YtflngcegkhgocaaQFnExactIsSurex8
namespace Go.Proofs.Ytflngcegkhgocaa.PFnExactIsSure
open Go.RowKit Go.Proofs.YtflngcegkhgocaaW.PrintWords Go.Proofs.YtflngcegkhgocaaW.PrintLast Go.Proofs.YtflngcegkhgocaaW.PrintMore
attribute [local go_sem] max2_int min2_int max_two min_two max_three min_three max_four min_four   -- for this text's walks alone
set_option linter.unusedVariables false
set_option linter.unusedSimpArgs false

/-! ### impl_IsSure: function 47 -/
def impl_IsSure.f (k : Nat) (a0_0 : Int) (l0_1 : List (S70)) (l0_2 : List (S72)) (a0_3 : Int) (a0_4 : Int) (a0_5 : Int) (a0_6 : Int) (a0_7 : Int) (l0_8 : List (S83)) (a0_9 : Int) (a1 : Int) (a2 : Int) (a3 : Int) : Option (Bool) := (impl_SightAt.f k a0_0 l0_1 l0_2 a0_3 a0_4 a0_5 a0_6 a0_7 l0_8 a0_9 a1 a2 a3).bind fun t339 => (some (t339 == 2))
theorem impl_IsSure.mono : ∀ a0 a1 a2 a3 a4 a5 a6 a7 a8 a9 a10 a11 a12 k, LeO (impl_IsSure.f k a0 a1 a2 a3 a4 a5 a6 a7 a8 a9 a10 a11 a12) (impl_IsSure.f (k + 1) a0 a1 a2 a3 a4 a5 a6 a7 a8 a9 a10 a11 a12) := by
 intro a0 a1 a2 a3 a4 a5 a6 a7 a8 a9 a10 a11 a12 k
 unfold impl_IsSure.f
 repeat' first
   | (with_reducible exact impl_SightAt.mono _ _ _ _ _ _ _ _ _ _ _ _ _ _)
   | (with_reducible exact LeO.refl _)
   | (with_reducible exact LeO.none _)
   | (with_reducible refine LeO.ite ?_ ?_)
   | (with_reducible refine LeO.bind ?_ (fun _ => ?_))
   | exact impl_SightAt.mono _ _ _ _ _ _ _ _ _ _ _ _ _ _
   | exact LeO.none _
   | refine LeO.ite ?_ ?_
   | refine LeO.bind ?_ (fun _ => ?_)
set_option maxHeartbeats 8000000 in
set_option maxRecDepth 100000 in
theorem impl_IsSure.calls (k : Nat) (a0_0 : Int) (A0_1 : Option Addr) (c0_1 : Nat) (l0_1 : List (S70)) (A0_2 : Option Addr) (c0_2 : Nat) (l0_2 : List (S72)) (a0_3 : Int) (a0_4 : Int) (a0_5 : Int) (a0_6 : Int) (a0_7 : Int) (A0_8 : Option Addr) (c0_8 : Nat) (l0_8 : List (S83)) (a0_9 : Int) (a1 : Int) (a2 : Int) (a3 : Int) (r : Bool) (w : World) (hr0_1 : Kd.C k70 w A0_1 l0_1.length l0_1) (hc0_1 : l0_1.length ≤ c0_1) (hr0_2 : Kd.C k72 w A0_2 l0_2.length l0_2) (hc0_2 : l0_2.length ≤ c0_2) (hr0_8 : Kd.C k83 w A0_8 l0_8.length l0_8) (hc0_8 : l0_8.length ≤ c0_8) (h : impl_IsSure.f k a0_0 l0_1 l0_2 a0_3 a0_4 a0_5 a0_6 a0_7 l0_8 a0_9 a1 a2 a3 = some r) :
  Calls Try.prog 47 #[.agg #[.int .i64 a0_0, .slice A0_1 l0_1.length c0_1, .slice A0_2 l0_2.length c0_2, .int .i64 a0_3, .int .i64 a0_4, .int .i64 a0_5, .int .i64 a0_6, .int .i64 a0_7, .slice A0_8 l0_8.length c0_8, .int .i64 a0_9], .int .i64 a1, .int .i64 a2, .int .i64 a3] w fun e w' => e = .returned (.bool r) ∧ Below w.heap.size w w' := by
 have hu45 := Try.underlying45
 have HR0_1 := Aside0.mk hr0_1
 have HC0_1 := Aside0.mk hc0_1
 clear hr0_1 hc0_1
 have HR0_2 := Aside0.mk hr0_2
 have HC0_2 := Aside0.mk hc0_2
 clear hr0_2 hc0_2
 have HR0_8 := Aside0.mk hr0_8
 have HC0_8 := Aside0.mk hc0_8
 clear hr0_8 hc0_8
 have HB := Aside0.mk (Below.refl w.heap.size w)
 have H := h
 clear h
 unfold impl_IsSure.f at H
 replace H := Option.bind_eq_some_iff.mp H
 obtain ⟨t339, A50, H⟩ := H
 have A5 := Aside0.mk A50
 clear A50
 obtain rfl := Option.some.inj H
 go_enter Try.func47, Try.ntmps47
 go_wp2_with (first | ((with_reducible refine gate_dst (N := 4) rfl ?_); refine box_event ?hg (N := 4) ?hd (cs := #[.int .i64 a0_0, .slice A0_1 l0_1.length c0_1, .slice A0_2 l0_2.length c0_2, .int .i64 a0_3, .int .i64 a0_4, .int .i64 a0_5, .int .i64 a0_6, .int .i64 a0_7, .slice A0_8 l0_8.length c0_8, .int .i64 a0_9]) (t := 45) ?hr ?_; (case hd => rfl); (case hg => rfl); (case hr => first | (go_simp; done) | (go_simp; rfl)); intro gb338 hg w6 hbox hb; have n0_ := Aside0.mk (below_step (bl_ HB) hb); have n1_ := Aside0.mk (hbox); have n2_ := Aside0.mk ((by rw [hg]; exact (below_size (bl_ HB)) : w.heap.size ≤ gb338)); have n3_ := Aside0.mk ((by rw [hg]; exact (below_size (bl_ HB)) : w.heap.size ≤ gb338)); clear HB; have HB := n0_; have BK338 := n1_; have GW338 := n2_; have GE338 := n3_; clear n0_ n1_ n2_ n3_; clear hb hbox hg; have hcz7_0 : w6.cell? ⟨gb338, 0, none⟩ = some (.int .i64 a0_0) := bc_ BK338 0 rfl; have hcz7_1 : w6.cell? ⟨gb338, 1, none⟩ = some (.slice A0_1 l0_1.length c0_1) := bc_ BK338 1 rfl; have hcz7_2 : w6.cell? ⟨gb338, 2, none⟩ = some (.slice A0_2 l0_2.length c0_2) := bc_ BK338 2 rfl; have hcz7_3 : w6.cell? ⟨gb338, 3, none⟩ = some (.int .i64 a0_3) := bc_ BK338 3 rfl; have hcz7_4 : w6.cell? ⟨gb338, 4, none⟩ = some (.int .i64 a0_4) := bc_ BK338 4 rfl; have hcz7_5 : w6.cell? ⟨gb338, 5, none⟩ = some (.int .i64 a0_5) := bc_ BK338 5 rfl; have hcz7_6 : w6.cell? ⟨gb338, 6, none⟩ = some (.int .i64 a0_6) := bc_ BK338 6 rfl; have hcz7_7 : w6.cell? ⟨gb338, 7, none⟩ = some (.int .i64 a0_7) := bc_ BK338 7 rfl; have hcz7_8 : w6.cell? ⟨gb338, 8, none⟩ = some (.slice A0_8 l0_8.length c0_8) := bc_ BK338 8 rfl; have hcz7_9 : w6.cell? ⟨gb338, 9, none⟩ = some (.int .i64 a0_9) := bc_ BK338 9 rfl; have hfz7_0 := bf_ BK338 0; have hfz7_1 := bf_ BK338 1; have hfz7_2 := bf_ BK338 2; have hfz7_3 := bf_ BK338 3; have hfz7_4 := bf_ BK338 4; have hfz7_5 := bf_ BK338 5; have hfz7_6 := bf_ BK338 6; have hfz7_7 := bf_ BK338 7; have hfz7_8 := bf_ BK338 8; have hfz7_9 := bf_ BK338 9) | ((with_reducible refine gate_callee (f := 45) rfl ?_); refine goesL_ (some 13) rfl rfl Try.func45 (by kernel_rfl) rfl #[.agg #[.int .i64 a0_0, .slice A0_1 l0_1.length c0_1, .slice A0_2 l0_2.length c0_2, .int .i64 a0_3, .int .i64 a0_4, .int .i64 a0_5, .int .i64 a0_6, .int .i64 a0_7, .slice A0_8 l0_8.length c0_8, .int .i64 a0_9], .int .i64 a1, .int .i64 a2, .int .i64 a3] rfl mp_ ?_; (with_reducible refine (impl_SightAt.calls k a0_0 _ _ l0_1 _ _ l0_2 a0_3 a0_4 a0_5 a0_6 a0_7 _ _ l0_8 a0_9 a1 a2 a3 t339 _ ?side1 ?side2 ?side3 ?side4 ?side5 ?side6 A5.out).mono ?_); (case side1 => exact ck_ HR0_1 HB); (case side2 => exact HC0_1.out); (case side3 => exact ck_ HR0_2 HB); (case side4 => exact HC0_2.out); (case side5 => exact ck_ HR0_8 HB); (case side6 => exact HC0_8.out); rintro e w8 ⟨rfl, hb⟩; refine ⟨_, rfl, ?_⟩; have n0_ := Aside0.mk (blk_below (bk_ BK338) hb); have n1_ := Aside0.mk (below_step (bl1_ HB GE338) hb); clear BK338; clear HB; have BK338 := n0_; have HB := n1_; clear n0_ n1_; (try clear hb); (try clear hb2); (try clear hk); (try clear hi)))
 go_ret
 exact ⟨by first | rfl | (simp [errW_none, errW_some] <;> rfl) | (simp [*, errW_none, errW_some] <;> rfl), by repeat (first | (with_reducible first | exact HB.out | apply below_alloc | apply pw_below_drewN | apply below_drew1 | refine below_set ?_ GE338.out) | exact HB.out)⟩

/-! ### laws_FnExactIsSure: function 13 -/
def laws_FnExactIsSure.f (k : Nat) (a0_0 : Int) (l0_1 : List (S93)) (l0_2 : List (S95)) (a0_3 : Int) (a0_4 : Int) (a0_5 : Int) (a0_6 : Int) (a0_7 : Int) (l0_8 : List (S99)) (a0_9 : Int) (a1 : Int) (a2 : Int) (a3 : Int) : Option (Bool) := (laws_szSky.f a0_0 l0_1 l0_2 a0_3 a0_4 a0_5 a0_6 a0_7 l0_8 a0_9 1048576).bind fun t341 => (if t341 < 0 then (some true) else ((laws_toSky.f k a0_0 l0_1 l0_2 a0_3 a0_4 a0_5 a0_6 a0_7 l0_8 a0_9).bind fun bt342 => ((spec_IsSure.f k bt342.1 bt342.2.1 bt342.2.2.1 bt342.2.2.2.1 bt342.2.2.2.2.1 bt342.2.2.2.2.2.1 bt342.2.2.2.2.2.2.1 bt342.2.2.2.2.2.2.2.1 bt342.2.2.2.2.2.2.2.2.1 bt342.2.2.2.2.2.2.2.2.2 a1 a2 a3).bind fun t358 => ((laws_toSky.f k a0_0 l0_1 l0_2 a0_3 a0_4 a0_5 a0_6 a0_7 l0_8 a0_9).bind fun bt359 => ((impl_IsSure.f k bt359.1 bt359.2.1 bt359.2.2.1 bt359.2.2.2.1 bt359.2.2.2.2.1 bt359.2.2.2.2.2.1 bt359.2.2.2.2.2.2.1 bt359.2.2.2.2.2.2.2.1 bt359.2.2.2.2.2.2.2.2.1 bt359.2.2.2.2.2.2.2.2.2 a1 a2 a3).bind fun t376 => (if (t376 != t358) = true then (some false) else ((laws_toSky.f k a0_0 l0_1 l0_2 a0_3 a0_4 a0_5 a0_6 a0_7 l0_8 a0_9).bind fun bt377 => ((laws_eqSky.f k bt359.1 bt359.2.1 bt359.2.2.1 bt359.2.2.2.1 bt359.2.2.2.2.1 bt359.2.2.2.2.2.1 bt359.2.2.2.2.2.2.1 bt359.2.2.2.2.2.2.2.1 bt359.2.2.2.2.2.2.2.2.1 bt359.2.2.2.2.2.2.2.2.2 bt377.1 bt377.2.1 bt377.2.2.1 bt377.2.2.2.1 bt377.2.2.2.2.1 bt377.2.2.2.2.2.1 bt377.2.2.2.2.2.2.1 bt377.2.2.2.2.2.2.2.1 bt377.2.2.2.2.2.2.2.2.1 bt377.2.2.2.2.2.2.2.2.2).bind fun t393 => (if t393 = true then (some true) else (some false))))))))))
theorem laws_FnExactIsSure.mono : ∀ a0 a1 a2 a3 a4 a5 a6 a7 a8 a9 a10 a11 a12 k, LeO (laws_FnExactIsSure.f k a0 a1 a2 a3 a4 a5 a6 a7 a8 a9 a10 a11 a12) (laws_FnExactIsSure.f (k + 1) a0 a1 a2 a3 a4 a5 a6 a7 a8 a9 a10 a11 a12) := by
 intro a0 a1 a2 a3 a4 a5 a6 a7 a8 a9 a10 a11 a12 k
 unfold laws_FnExactIsSure.f
 repeat' first
   | (with_reducible exact impl_IsSure.mono _ _ _ _ _ _ _ _ _ _ _ _ _ _)
   | (with_reducible exact laws_eqSky.mono _ _ _ _ _ _ _ _ _ _ _ _ _ _ _ _ _ _ _ _ _)
   | (with_reducible exact laws_toSky.mono _ _ _ _ _ _ _ _ _ _ _)
   | (with_reducible exact spec_IsSure.mono _ _ _ _ _ _ _ _ _ _ _ _ _ _)
   | (with_reducible exact LeO.refl _)
   | (with_reducible exact LeO.none _)
   | (with_reducible refine LeO.ite ?_ ?_)
   | (with_reducible refine LeO.bind ?_ (fun _ => ?_))
   | exact impl_IsSure.mono _ _ _ _ _ _ _ _ _ _ _ _ _ _
   | exact laws_eqSky.mono _ _ _ _ _ _ _ _ _ _ _ _ _ _ _ _ _ _ _ _ _
   | exact laws_toSky.mono _ _ _ _ _ _ _ _ _ _ _
   | exact spec_IsSure.mono _ _ _ _ _ _ _ _ _ _ _ _ _ _
   | exact LeO.none _
   | refine LeO.ite ?_ ?_
   | refine LeO.bind ?_ (fun _ => ?_)
set_option maxHeartbeats 8000000 in
set_option maxRecDepth 100000 in
theorem laws_FnExactIsSure.calls (k : Nat) (a0_0 : Int) (A0_1 : Option Addr) (c0_1 : Nat) (l0_1 : List (S93)) (A0_2 : Option Addr) (c0_2 : Nat) (l0_2 : List (S95)) (a0_3 : Int) (a0_4 : Int) (a0_5 : Int) (a0_6 : Int) (a0_7 : Int) (A0_8 : Option Addr) (c0_8 : Nat) (l0_8 : List (S99)) (a0_9 : Int) (a1 : Int) (a2 : Int) (a3 : Int) (r : Bool) (w : World) (hr0_1 : Kd.C k93 w A0_1 l0_1.length l0_1) (hc0_1 : l0_1.length ≤ c0_1) (hr0_2 : Kd.C k95 w A0_2 l0_2.length l0_2) (hc0_2 : l0_2.length ≤ c0_2) (hr0_8 : Kd.C k99 w A0_8 l0_8.length l0_8) (hc0_8 : l0_8.length ≤ c0_8) (h : laws_FnExactIsSure.f k a0_0 l0_1 l0_2 a0_3 a0_4 a0_5 a0_6 a0_7 l0_8 a0_9 a1 a2 a3 = some r) (hT_ : r = true := by rfl) :
  Calls Try.prog 13 #[.agg #[.int .i64 a0_0, .slice A0_1 l0_1.length c0_1, .slice A0_2 l0_2.length c0_2, .int .i64 a0_3, .int .i64 a0_4, .int .i64 a0_5, .int .i64 a0_6, .int .i64 a0_7, .slice A0_8 l0_8.length c0_8, .int .i64 a0_9], .int .i64 a1, .int .i64 a2, .int .i64 a3] w fun e w' => e = .returned (.bool r) ∧ Below w.heap.size w w' := by
 have hu38 := Try.underlying38
 have hu45 := Try.underlying45
 have HR0_1 := Aside0.mk hr0_1
 have HC0_1 := Aside0.mk hc0_1
 clear hr0_1 hc0_1
 have HR0_2 := Aside0.mk hr0_2
 have HC0_2 := Aside0.mk hc0_2
 clear hr0_2 hc0_2
 have HR0_8 := Aside0.mk hr0_8
 have HC0_8 := Aside0.mk hc0_8
 clear hr0_8 hc0_8
 have HB := Aside0.mk (Below.refl w.heap.size w)
 subst hT_
 have H := h
 clear h
 unfold laws_FnExactIsSure.f at H
 replace H := Option.bind_eq_some_iff.mp H
 obtain ⟨t341, A50, H⟩ := H
 have A5 := Aside0.mk A50
 clear A50
 by_cases c6 : t341 < 0
 ·rw [if_pos c6] at H
  have c6b0 : decide (t341 < 0) = true := decide_eq_true c6
  clear c6
  clear H
  go_enter Try.func13, Try.ntmps13
  go_wp2_with (first | ((with_reducible refine gate_dst (N := 4) rfl ?_); refine box_event ?hg (N := 4) ?hd (cs := #[.int .i64 a0_0, .slice A0_1 l0_1.length c0_1, .slice A0_2 l0_2.length c0_2, .int .i64 a0_3, .int .i64 a0_4, .int .i64 a0_5, .int .i64 a0_6, .int .i64 a0_7, .slice A0_8 l0_8.length c0_8, .int .i64 a0_9]) (t := 38) ?hr ?_; (case hd => rfl); (case hg => rfl); (case hr => first | (go_simp; done) | (go_simp; rfl)); intro gb340 hg w7 hbox hb; have n0_ := Aside0.mk (below_step (bl_ HB) hb); have n1_ := Aside0.mk (hbox); have n2_ := Aside0.mk ((by rw [hg]; exact (below_size (bl_ HB)) : w.heap.size ≤ gb340)); have n3_ := Aside0.mk ((by rw [hg]; exact (below_size (bl_ HB)) : w.heap.size ≤ gb340)); clear HB; have HB := n0_; have BK340 := n1_; have GW340 := n2_; have GE340 := n3_; clear n0_ n1_ n2_ n3_; clear hb hbox hg; have hcz8_0 : w7.cell? ⟨gb340, 0, none⟩ = some (.int .i64 a0_0) := bc_ BK340 0 rfl; have hcz8_1 : w7.cell? ⟨gb340, 1, none⟩ = some (.slice A0_1 l0_1.length c0_1) := bc_ BK340 1 rfl; have hcz8_2 : w7.cell? ⟨gb340, 2, none⟩ = some (.slice A0_2 l0_2.length c0_2) := bc_ BK340 2 rfl; have hcz8_3 : w7.cell? ⟨gb340, 3, none⟩ = some (.int .i64 a0_3) := bc_ BK340 3 rfl; have hcz8_4 : w7.cell? ⟨gb340, 4, none⟩ = some (.int .i64 a0_4) := bc_ BK340 4 rfl; have hcz8_5 : w7.cell? ⟨gb340, 5, none⟩ = some (.int .i64 a0_5) := bc_ BK340 5 rfl; have hcz8_6 : w7.cell? ⟨gb340, 6, none⟩ = some (.int .i64 a0_6) := bc_ BK340 6 rfl; have hcz8_7 : w7.cell? ⟨gb340, 7, none⟩ = some (.int .i64 a0_7) := bc_ BK340 7 rfl; have hcz8_8 : w7.cell? ⟨gb340, 8, none⟩ = some (.slice A0_8 l0_8.length c0_8) := bc_ BK340 8 rfl; have hcz8_9 : w7.cell? ⟨gb340, 9, none⟩ = some (.int .i64 a0_9) := bc_ BK340 9 rfl; have hfz8_0 := bf_ BK340 0; have hfz8_1 := bf_ BK340 1; have hfz8_2 := bf_ BK340 2; have hfz8_3 := bf_ BK340 3; have hfz8_4 := bf_ BK340 4; have hfz8_5 := bf_ BK340 5; have hfz8_6 := bf_ BK340 6; have hfz8_7 := bf_ BK340 7; have hfz8_8 := bf_ BK340 8; have hfz8_9 := bf_ BK340 9) | ((with_reducible refine gate_callee (f := 24) rfl ?_); refine goesL_ (some 15) rfl rfl Try.func24 (by kernel_rfl) rfl #[.agg #[.int .i64 a0_0, .slice A0_1 l0_1.length c0_1, .slice A0_2 l0_2.length c0_2, .int .i64 a0_3, .int .i64 a0_4, .int .i64 a0_5, .int .i64 a0_6, .int .i64 a0_7, .slice A0_8 l0_8.length c0_8, .int .i64 a0_9], .int .i64 1048576] rfl mp_ ?_; (with_reducible refine (laws_szSky.calls a0_0 _ _ l0_1 _ _ l0_2 a0_3 a0_4 a0_5 a0_6 a0_7 _ _ l0_8 a0_9 1048576 t341 _ ?side1 ?side2 ?side3 ?side4 ?side5 ?side6 A5.out).mono ?_); (case side1 => exact ck_ HR0_1 HB); (case side2 => exact HC0_1.out); (case side3 => exact ck_ HR0_2 HB); (case side4 => exact HC0_2.out); (case side5 => exact ck_ HR0_8 HB); (case side6 => exact HC0_8.out); rintro e w9 ⟨rfl, hb⟩; refine ⟨_, rfl, ?_⟩; have n0_ := Aside0.mk (blk_below (bk_ BK340) hb); have n1_ := Aside0.mk (below_step (bl1_ HB GE340) hb); clear BK340; clear HB; have BK340 := n0_; have HB := n1_; clear n0_ n1_; (try clear hb); (try clear hb2); (try clear hk); (try clear hi)))
  go_ret
  exact ⟨by first | rfl | (simp [errW_none, errW_some] <;> rfl) | (simp [*, errW_none, errW_some] <;> rfl), by repeat (first | (with_reducible first | exact HB.out | apply below_alloc | apply pw_below_drewN | apply below_drew1 | refine below_set ?_ GE340.out) | exact HB.out)⟩
 ·rw [if_neg c6] at H
  have c6b0 : decide (t341 < 0) = false := decide_eq_false c6
  clear c6
  replace H := Option.bind_eq_some_iff.mp H
  obtain ⟨⟨t342, t343, t346, t349, t350, t351, t352, t353, t354, t357⟩, A100, H⟩ := H
  replace H : ((spec_IsSure.f k t342 t343 t346 t349 t350 t351 t352 t353 t354 t357 a1 a2 a3).bind fun t358 => ((laws_toSky.f k a0_0 l0_1 l0_2 a0_3 a0_4 a0_5 a0_6 a0_7 l0_8 a0_9).bind fun bt359 => ((impl_IsSure.f k bt359.1 bt359.2.1 bt359.2.2.1 bt359.2.2.2.1 bt359.2.2.2.2.1 bt359.2.2.2.2.2.1 bt359.2.2.2.2.2.2.1 bt359.2.2.2.2.2.2.2.1 bt359.2.2.2.2.2.2.2.2.1 bt359.2.2.2.2.2.2.2.2.2 a1 a2 a3).bind fun t376 => (if (t376 != t358) = true then (some false) else ((laws_toSky.f k a0_0 l0_1 l0_2 a0_3 a0_4 a0_5 a0_6 a0_7 l0_8 a0_9).bind fun bt377 => ((laws_eqSky.f k bt359.1 bt359.2.1 bt359.2.2.1 bt359.2.2.2.1 bt359.2.2.2.2.1 bt359.2.2.2.2.2.1 bt359.2.2.2.2.2.2.1 bt359.2.2.2.2.2.2.2.1 bt359.2.2.2.2.2.2.2.2.1 bt359.2.2.2.2.2.2.2.2.2 bt377.1 bt377.2.1 bt377.2.2.1 bt377.2.2.2.1 bt377.2.2.2.2.1 bt377.2.2.2.2.2.1 bt377.2.2.2.2.2.2.1 bt377.2.2.2.2.2.2.2.1 bt377.2.2.2.2.2.2.2.2.1 bt377.2.2.2.2.2.2.2.2.2).bind fun t393 => (if t393 = true then (some true) else (some false)))))))) = some true := H
  have A10 := Aside0.mk A100
  clear A100
  replace H := Option.bind_eq_some_iff.mp H
  obtain ⟨t358, A110, H⟩ := H
  have A11 := Aside0.mk A110
  clear A110
  replace H := Option.bind_eq_some_iff.mp H
  obtain ⟨⟨t359, t360, t363, t366, t367, t368, t369, t370, t371, t374⟩, A120, H⟩ := H
  replace H : ((impl_IsSure.f k t359 t360 t363 t366 t367 t368 t369 t370 t371 t374 a1 a2 a3).bind fun t376 => (if (t376 != t358) = true then (some false) else ((laws_toSky.f k a0_0 l0_1 l0_2 a0_3 a0_4 a0_5 a0_6 a0_7 l0_8 a0_9).bind fun bt377 => ((laws_eqSky.f k t359 t360 t363 t366 t367 t368 t369 t370 t371 t374 bt377.1 bt377.2.1 bt377.2.2.1 bt377.2.2.2.1 bt377.2.2.2.2.1 bt377.2.2.2.2.2.1 bt377.2.2.2.2.2.2.1 bt377.2.2.2.2.2.2.2.1 bt377.2.2.2.2.2.2.2.2.1 bt377.2.2.2.2.2.2.2.2.2).bind fun t393 => (if t393 = true then (some true) else (some false)))))) = some true := H
  have A12 := Aside0.mk A120
  clear A120
  replace H := Option.bind_eq_some_iff.mp H
  obtain ⟨t376, A130, H⟩ := H
  have A13 := Aside0.mk A130
  clear A130
  by_cases c14 : (t376 != t358) = true
  ·rw [if_pos c14] at H
   have c14b0 : (t376 != t358) = true := c14
   (try (have c14b1 : decide (t376 = t358) = false := by simpa using c14))
   (try (have c14b2 : (t376 == t358) = false := by simpa using c14))
   (try (have c14b3 : ¬ (t376 = t358) := by simpa using c14))
   clear c14
   exact absurd H (by simp)
  ·rw [if_neg c14] at H
   have c14b0 : (t376 != t358) = false := by simpa using c14
   (try (have c14b1 : decide (t376 = t358) = true := by simpa using c14))
   (try (have c14b2 : (t376 == t358) = true := by simpa using c14))
   clear c14
   replace H := Option.bind_eq_some_iff.mp H
   obtain ⟨⟨t377, t378, t381, t384, t385, t386, t387, t388, t389, t392⟩, A150, H⟩ := H
   replace H : ((laws_eqSky.f k t359 t360 t363 t366 t367 t368 t369 t370 t371 t374 t377 t378 t381 t384 t385 t386 t387 t388 t389 t392).bind fun t393 => (if t393 = true then (some true) else (some false))) = some true := H
   have A15 := Aside0.mk A150
   clear A150
   replace H := Option.bind_eq_some_iff.mp H
   obtain ⟨t393, A160, H⟩ := H
   have A16 := Aside0.mk A160
   clear A160
   by_cases c17 : t393 = true
   ·subst c17
    have H1 : (some true) = some true := by first | (rw [if_pos rfl] at H; exact H) | rfl
    clear H
    have H := H1
    clear H1
    clear H
    go_enter Try.func13, Try.ntmps13
    try go_wp2_with (first | ((with_reducible refine gate_dst (N := 4) rfl ?_); refine box_event ?hg (N := 4) ?hd (cs := #[.int .i64 a0_0, .slice A0_1 l0_1.length c0_1, .slice A0_2 l0_2.length c0_2, .int .i64 a0_3, .int .i64 a0_4, .int .i64 a0_5, .int .i64 a0_6, .int .i64 a0_7, .slice A0_8 l0_8.length c0_8, .int .i64 a0_9]) (t := 38) ?hr ?_; (case hd => rfl); (case hg => rfl); (case hr => first | (go_simp; done) | (go_simp; rfl)); intro gb340 hg w18 hbox hb; have n0_ := Aside0.mk (below_step (bl_ HB) hb); have n1_ := Aside0.mk (hbox); have n2_ := Aside0.mk ((by rw [hg]; exact (below_size (bl_ HB)) : w.heap.size ≤ gb340)); have n3_ := Aside0.mk ((by rw [hg]; exact (below_size (bl_ HB)) : w.heap.size ≤ gb340)); clear HB; have HB := n0_; have BK340 := n1_; have GW340 := n2_; have GE340 := n3_; clear n0_ n1_ n2_ n3_; clear hb hbox hg; have hcz19_0 : w18.cell? ⟨gb340, 0, none⟩ = some (.int .i64 a0_0) := bc_ BK340 0 rfl; have hcz19_1 : w18.cell? ⟨gb340, 1, none⟩ = some (.slice A0_1 l0_1.length c0_1) := bc_ BK340 1 rfl; have hcz19_2 : w18.cell? ⟨gb340, 2, none⟩ = some (.slice A0_2 l0_2.length c0_2) := bc_ BK340 2 rfl; have hcz19_3 : w18.cell? ⟨gb340, 3, none⟩ = some (.int .i64 a0_3) := bc_ BK340 3 rfl; have hcz19_4 : w18.cell? ⟨gb340, 4, none⟩ = some (.int .i64 a0_4) := bc_ BK340 4 rfl; have hcz19_5 : w18.cell? ⟨gb340, 5, none⟩ = some (.int .i64 a0_5) := bc_ BK340 5 rfl; have hcz19_6 : w18.cell? ⟨gb340, 6, none⟩ = some (.int .i64 a0_6) := bc_ BK340 6 rfl; have hcz19_7 : w18.cell? ⟨gb340, 7, none⟩ = some (.int .i64 a0_7) := bc_ BK340 7 rfl; have hcz19_8 : w18.cell? ⟨gb340, 8, none⟩ = some (.slice A0_8 l0_8.length c0_8) := bc_ BK340 8 rfl; have hcz19_9 : w18.cell? ⟨gb340, 9, none⟩ = some (.int .i64 a0_9) := bc_ BK340 9 rfl; have hfz19_0 := bf_ BK340 0; have hfz19_1 := bf_ BK340 1; have hfz19_2 := bf_ BK340 2; have hfz19_3 := bf_ BK340 3; have hfz19_4 := bf_ BK340 4; have hfz19_5 := bf_ BK340 5; have hfz19_6 := bf_ BK340 6; have hfz19_7 := bf_ BK340 7; have hfz19_8 := bf_ BK340 8; have hfz19_9 := bf_ BK340 9) | ((with_reducible refine gate_callee (f := 24) rfl ?_); refine goesL_ (some 15) rfl rfl Try.func24 (by kernel_rfl) rfl #[.agg #[.int .i64 a0_0, .slice A0_1 l0_1.length c0_1, .slice A0_2 l0_2.length c0_2, .int .i64 a0_3, .int .i64 a0_4, .int .i64 a0_5, .int .i64 a0_6, .int .i64 a0_7, .slice A0_8 l0_8.length c0_8, .int .i64 a0_9], .int .i64 1048576] rfl mp_ ?_; (with_reducible refine (laws_szSky.calls a0_0 _ _ l0_1 _ _ l0_2 a0_3 a0_4 a0_5 a0_6 a0_7 _ _ l0_8 a0_9 1048576 t341 _ ?side1 ?side2 ?side3 ?side4 ?side5 ?side6 A5.out).mono ?_); (case side1 => exact ck_ HR0_1 HB); (case side2 => exact HC0_1.out); (case side3 => exact ck_ HR0_2 HB); (case side4 => exact HC0_2.out); (case side5 => exact ck_ HR0_8 HB); (case side6 => exact HC0_8.out); rintro e w20 ⟨rfl, hb⟩; refine ⟨_, rfl, ?_⟩; have n0_ := Aside0.mk (blk_below (bk_ BK340) hb); have n1_ := Aside0.mk (below_step (bl1_ HB GE340) hb); clear BK340; clear HB; have BK340 := n0_; have HB := n1_; clear n0_ n1_; (try clear hb); (try clear hb2); (try clear hk); (try clear hi); have hcz21_0 : w20.cell? ⟨gb340, 0, none⟩ = some (.int .i64 a0_0) := bc_ BK340 0 rfl; have hcz21_1 : w20.cell? ⟨gb340, 1, none⟩ = some (.slice A0_1 l0_1.length c0_1) := bc_ BK340 1 rfl; have hcz21_2 : w20.cell? ⟨gb340, 2, none⟩ = some (.slice A0_2 l0_2.length c0_2) := bc_ BK340 2 rfl; have hcz21_3 : w20.cell? ⟨gb340, 3, none⟩ = some (.int .i64 a0_3) := bc_ BK340 3 rfl; have hcz21_4 : w20.cell? ⟨gb340, 4, none⟩ = some (.int .i64 a0_4) := bc_ BK340 4 rfl; have hcz21_5 : w20.cell? ⟨gb340, 5, none⟩ = some (.int .i64 a0_5) := bc_ BK340 5 rfl; have hcz21_6 : w20.cell? ⟨gb340, 6, none⟩ = some (.int .i64 a0_6) := bc_ BK340 6 rfl; have hcz21_7 : w20.cell? ⟨gb340, 7, none⟩ = some (.int .i64 a0_7) := bc_ BK340 7 rfl; have hcz21_8 : w20.cell? ⟨gb340, 8, none⟩ = some (.slice A0_8 l0_8.length c0_8) := bc_ BK340 8 rfl; have hcz21_9 : w20.cell? ⟨gb340, 9, none⟩ = some (.int .i64 a0_9) := bc_ BK340 9 rfl; have hfz21_0 := bf_ BK340 0; have hfz21_1 := bf_ BK340 1; have hfz21_2 := bf_ BK340 2; have hfz21_3 := bf_ BK340 3; have hfz21_4 := bf_ BK340 4; have hfz21_5 := bf_ BK340 5; have hfz21_6 := bf_ BK340 6; have hfz21_7 := bf_ BK340 7; have hfz21_8 := bf_ BK340 8; have hfz21_9 := bf_ BK340 9) | ((with_reducible refine gate_callee (f := 26) rfl ?_); refine goesL_ (some 19) rfl rfl Try.func26 (by kernel_rfl) rfl #[.agg #[.int .i64 a0_0, .slice A0_1 l0_1.length c0_1, .slice A0_2 l0_2.length c0_2, .int .i64 a0_3, .int .i64 a0_4, .int .i64 a0_5, .int .i64 a0_6, .int .i64 a0_7, .slice A0_8 l0_8.length c0_8, .int .i64 a0_9]] rfl mp_ ?_; (with_reducible refine (laws_toSky.calls k a0_0 _ _ l0_1 _ _ l0_2 a0_3 a0_4 a0_5 a0_6 a0_7 _ _ l0_8 a0_9 t342 t343 t346 t349 t350 t351 t352 t353 t354 t357 _ ?side1 ?side2 ?side3 ?side4 ?side5 ?side6 A10.out).mono ?_); (case side1 => exact ck_ HR0_1 HB); (case side2 => exact HC0_1.out); (case side3 => exact ck_ HR0_2 HB); (case side4 => exact HC0_2.out); (case side5 => exact ck_ HR0_8 HB); (case side6 => exact HC0_8.out); rintro e w22 ⟨v344, v347, v355, rfl, ho0, ho1, ho2, hb⟩; refine ⟨_, rfl, ?_⟩; have n0_ := Aside0.mk (Kd.R_lower ho0 (below_size (bl1_ HB GE340))); have n1_ := Aside0.mk (Kd.R_lower ho1 (below_size (bl1_ HB GE340))); have n2_ := Aside0.mk (Kd.R_lower ho2 (below_size (bl1_ HB GE340))); have n3_ := Aside0.mk (blk_below (bk_ BK340) hb); have n4_ := Aside0.mk (below_step (bl1_ HB GE340) hb); clear BK340; clear HB; have HO345 := n0_; have HO348 := n1_; have HO356 := n2_; have BK340 := n3_; have HB := n4_; clear n0_ n1_ n2_ n3_ n4_; (try clear hb); (try clear hb2); (try clear hk); (try clear hi); (try clear ho0); (try clear ho1); (try clear ho2); obtain ⟨Ao23, co23, eo23⟩ := Kd.R_slice HO345.out; subst eo23; obtain ⟨Ao24, co24, eo24⟩ := Kd.R_slice HO348.out; subst eo24; obtain ⟨Ao25, co25, eo25⟩ := Kd.R_slice HO356.out; subst eo25) | ((with_reducible refine gate_callee (f := 46) rfl ?_); refine goesL_ (some 23) rfl rfl Try.func46 (by kernel_rfl) rfl #[.agg #[.int .i64 t342, .slice Ao23 t343.length co23, .slice Ao24 t346.length co24, .int .i64 t349, .int .i64 t350, .int .i64 t351, .int .i64 t352, .int .i64 t353, .slice Ao25 t354.length co25, .int .i64 t357], .int .i64 a1, .int .i64 a2, .int .i64 a3] rfl mp_ ?_; (with_reducible refine (spec_IsSure.calls k t342 _ _ t343 _ _ t346 t349 t350 t351 t352 t353 _ _ t354 t357 a1 a2 a3 t358 _ ?side1 ?side2 ?side3 ?side4 ?side5 ?side6 A11.out).mono ?_); (case side1 => repeat (first | exact (Kd.R_reads' HO345.out).2.2 | (with_reducible refine Kd.C_alloc ?_ _) | (with_reducible refine Kd.C_drewN ?_ _) | (with_reducible refine Kd.C_drew ?_))); (case side2 => exact (Kd.R_reads' HO345.out).2.1); (case side3 => repeat (first | exact (Kd.R_reads' HO348.out).2.2 | (with_reducible refine Kd.C_alloc ?_ _) | (with_reducible refine Kd.C_drewN ?_ _) | (with_reducible refine Kd.C_drew ?_))); (case side4 => exact (Kd.R_reads' HO348.out).2.1); (case side5 => repeat (first | exact (Kd.R_reads' HO356.out).2.2 | (with_reducible refine Kd.C_alloc ?_ _) | (with_reducible refine Kd.C_drewN ?_ _) | (with_reducible refine Kd.C_drew ?_))); (case side6 => exact (Kd.R_reads' HO356.out).2.1); rintro e w26 ⟨rfl, hb⟩; refine ⟨_, rfl, ?_⟩; have n0_ := Aside0.mk (Kd.R_below (by (with_reducible repeat (first | apply Kd.R_alloc | apply Kd.R_drewN | apply Kd.R_drew)); exact HO345.out) hb); have n1_ := Aside0.mk (Kd.R_below (by (with_reducible repeat (first | apply Kd.R_alloc | apply Kd.R_drewN | apply Kd.R_drew)); exact HO348.out) hb); have n2_ := Aside0.mk (Kd.R_below (by (with_reducible repeat (first | apply Kd.R_alloc | apply Kd.R_drewN | apply Kd.R_drew)); exact HO356.out) hb); have n3_ := Aside0.mk (blk_below (bk_ BK340) hb); have n4_ := Aside0.mk (below_step (bl1_ HB GE340) hb); clear HO345; clear HO348; clear HO356; clear BK340; clear HB; have HO345 := n0_; have HO348 := n1_; have HO356 := n2_; have BK340 := n3_; have HB := n4_; clear n0_ n1_ n2_ n3_ n4_; (try clear hb); (try clear hb2); (try clear hk); (try clear hi); have hcz27_0 : w26.cell? ⟨gb340, 0, none⟩ = some (.int .i64 a0_0) := bc_ BK340 0 rfl; have hcz27_1 : w26.cell? ⟨gb340, 1, none⟩ = some (.slice A0_1 l0_1.length c0_1) := bc_ BK340 1 rfl; have hcz27_2 : w26.cell? ⟨gb340, 2, none⟩ = some (.slice A0_2 l0_2.length c0_2) := bc_ BK340 2 rfl; have hcz27_3 : w26.cell? ⟨gb340, 3, none⟩ = some (.int .i64 a0_3) := bc_ BK340 3 rfl; have hcz27_4 : w26.cell? ⟨gb340, 4, none⟩ = some (.int .i64 a0_4) := bc_ BK340 4 rfl; have hcz27_5 : w26.cell? ⟨gb340, 5, none⟩ = some (.int .i64 a0_5) := bc_ BK340 5 rfl; have hcz27_6 : w26.cell? ⟨gb340, 6, none⟩ = some (.int .i64 a0_6) := bc_ BK340 6 rfl; have hcz27_7 : w26.cell? ⟨gb340, 7, none⟩ = some (.int .i64 a0_7) := bc_ BK340 7 rfl; have hcz27_8 : w26.cell? ⟨gb340, 8, none⟩ = some (.slice A0_8 l0_8.length c0_8) := bc_ BK340 8 rfl; have hcz27_9 : w26.cell? ⟨gb340, 9, none⟩ = some (.int .i64 a0_9) := bc_ BK340 9 rfl; have hfz27_0 := bf_ BK340 0; have hfz27_1 := bf_ BK340 1; have hfz27_2 := bf_ BK340 2; have hfz27_3 := bf_ BK340 3; have hfz27_4 := bf_ BK340 4; have hfz27_5 := bf_ BK340 5; have hfz27_6 := bf_ BK340 6; have hfz27_7 := bf_ BK340 7; have hfz27_8 := bf_ BK340 8; have hfz27_9 := bf_ BK340 9) | ((with_reducible refine gate_callee (f := 26) rfl ?_); refine goesL_ (some 25) rfl rfl Try.func26 (by kernel_rfl) rfl #[.agg #[.int .i64 a0_0, .slice A0_1 l0_1.length c0_1, .slice A0_2 l0_2.length c0_2, .int .i64 a0_3, .int .i64 a0_4, .int .i64 a0_5, .int .i64 a0_6, .int .i64 a0_7, .slice A0_8 l0_8.length c0_8, .int .i64 a0_9]] rfl mp_ ?_; (with_reducible refine (laws_toSky.calls k a0_0 _ _ l0_1 _ _ l0_2 a0_3 a0_4 a0_5 a0_6 a0_7 _ _ l0_8 a0_9 t359 t360 t363 t366 t367 t368 t369 t370 t371 t374 _ ?side1 ?side2 ?side3 ?side4 ?side5 ?side6 A12.out).mono ?_); (case side1 => exact ck_ HR0_1 HB); (case side2 => exact HC0_1.out); (case side3 => exact ck_ HR0_2 HB); (case side4 => exact HC0_2.out); (case side5 => exact ck_ HR0_8 HB); (case side6 => exact HC0_8.out); rintro e w28 ⟨v361, v364, v372, rfl, ho0, ho1, ho2, hb⟩; refine ⟨_, rfl, ?_⟩; have n0_ := Aside0.mk (Kd.R_elder' (by (with_reducible repeat (first | apply Kd.R_alloc | apply Kd.R_drewN | apply Kd.R_drew)); exact HO345.out) (Kd.R_base ho0) hb); have n1_ := Aside0.mk (Kd.R_elder' (by (with_reducible repeat (first | apply Kd.R_alloc | apply Kd.R_drewN | apply Kd.R_drew)); exact HO348.out) (Kd.R_base ho1) hb); have n2_ := Aside0.mk (Kd.R_elder' (by (with_reducible repeat (first | apply Kd.R_alloc | apply Kd.R_drewN | apply Kd.R_drew)); exact HO356.out) (Kd.R_base ho2) hb); have n3_ := Aside0.mk (Kd.R_lower (Kd.R_new' ho0 (Kd.R_lt (by (with_reducible repeat (first | apply Kd.R_alloc | apply Kd.R_drewN | apply Kd.R_drew)); exact HO345.out))) (below_size (bl1_ HB GE340))); have n4_ := Aside0.mk (Kd.R_lower (Kd.R_new' ho1 (Kd.R_lt (by (with_reducible repeat (first | apply Kd.R_alloc | apply Kd.R_drewN | apply Kd.R_drew)); exact HO348.out))) (below_size (bl1_ HB GE340))); have n5_ := Aside0.mk (Kd.R_lower (Kd.R_new' ho2 (Kd.R_lt (by (with_reducible repeat (first | apply Kd.R_alloc | apply Kd.R_drewN | apply Kd.R_drew)); exact HO356.out))) (below_size (bl1_ HB GE340))); have n6_ := Aside0.mk (blk_below (bk_ BK340) hb); have n7_ := Aside0.mk (below_step (bl1_ HB GE340) hb); clear HO345; clear HO348; clear HO356; clear BK340; clear HB; have HO345 := n0_; have HO348 := n1_; have HO356 := n2_; have HO362 := n3_; have HO365 := n4_; have HO373 := n5_; have BK340 := n6_; have HB := n7_; clear n0_ n1_ n2_ n3_ n4_ n5_ n6_ n7_; (try clear hb); (try clear hb2); (try clear hk); (try clear hi); (try clear ho0); (try clear ho1); (try clear ho2)) | ((with_reducible refine gate_dst (N := 11) rfl ?_); refine box_event ?hg (N := 11) ?hd (cs := #[.int .i64 0, .slice none 0 0, .slice none 0 0, .int .i64 0, .int .i64 0, .int .i64 0, .int .i64 0, .int .i64 0, .slice none 0 0, .int .i64 0]) (t := 45) ?hr ?_; (case hd => rfl); (case hg => rfl); (case hr => first | (go_simp; done) | (go_simp; rfl)); intro gb375 hg w29 hbox hb; have n0_ := Aside0.mk (Kd.R_below (by (with_reducible repeat (first | apply Kd.R_alloc | apply Kd.R_drewN | apply Kd.R_drew)); exact HO345.out) hb); have n1_ := Aside0.mk (Kd.R_below (by (with_reducible repeat (first | apply Kd.R_alloc | apply Kd.R_drewN | apply Kd.R_drew)); exact HO348.out) hb); have n2_ := Aside0.mk (Kd.R_below (by (with_reducible repeat (first | apply Kd.R_alloc | apply Kd.R_drewN | apply Kd.R_drew)); exact HO356.out) hb); have n3_ := Aside0.mk (Kd.R_below (by (with_reducible repeat (first | apply Kd.R_alloc | apply Kd.R_drewN | apply Kd.R_drew)); exact HO362.out) hb); have n4_ := Aside0.mk (Kd.R_below (by (with_reducible repeat (first | apply Kd.R_alloc | apply Kd.R_drewN | apply Kd.R_drew)); exact HO365.out) hb); have n5_ := Aside0.mk (Kd.R_below (by (with_reducible repeat (first | apply Kd.R_alloc | apply Kd.R_drewN | apply Kd.R_drew)); exact HO373.out) hb); have n6_ := Aside0.mk (blk_below (bk_ BK340) hb); have n7_ := Aside0.mk (below_step (bl1_ HB GE340) hb); have n8_ := Aside0.mk (hbox); have n9_ := Aside0.mk ((by rw [hg]; exact (below_size (bl1_ HB GE340)) : w.heap.size ≤ gb375)); have n10_ := Aside0.mk ((by rw [hg]; exact (below_size (bl1_ HB GE340)) : w.heap.size ≤ gb375)); have n11_ := Aside0.mk ((by rw [hg]; exact Nat.ne_of_lt (blk_lt (bk_ BK340)) : gb340 ≠ gb375)); have n12_ := Aside0.mk ((by rw [hg]; exact Nat.ne_of_gt (blk_lt (bk_ BK340)) : gb375 ≠ gb340)); clear HO345; clear HO348; clear HO356; clear HO362; clear HO365; clear HO373; clear BK340; clear HB; have HO345 := n0_; have HO348 := n1_; have HO356 := n2_; have HO362 := n3_; have HO365 := n4_; have HO373 := n5_; have BK340 := n6_; have HB := n7_; have BK375 := n8_; have GW375 := n9_; have GE375 := n10_; have NB340_375 := n11_; have NB375_340 := n12_; clear n0_ n1_ n2_ n3_ n4_ n5_ n6_ n7_ n8_ n9_ n10_ n11_ n12_; clear hb hbox hg; have hnb30 := NB375_340.out; have hnc30 := NB340_375.out; have hcz31_0 : w29.cell? ⟨gb375, 0, none⟩ = some (.int .i64 0) := bc_ BK375 0 rfl; have hcz31_1 : w29.cell? ⟨gb375, 1, none⟩ = some (.slice none 0 0) := bc_ BK375 1 rfl; have hcz31_2 : w29.cell? ⟨gb375, 2, none⟩ = some (.slice none 0 0) := bc_ BK375 2 rfl; have hcz31_3 : w29.cell? ⟨gb375, 3, none⟩ = some (.int .i64 0) := bc_ BK375 3 rfl; have hcz31_4 : w29.cell? ⟨gb375, 4, none⟩ = some (.int .i64 0) := bc_ BK375 4 rfl; have hcz31_5 : w29.cell? ⟨gb375, 5, none⟩ = some (.int .i64 0) := bc_ BK375 5 rfl; have hcz31_6 : w29.cell? ⟨gb375, 6, none⟩ = some (.int .i64 0) := bc_ BK375 6 rfl; have hcz31_7 : w29.cell? ⟨gb375, 7, none⟩ = some (.int .i64 0) := bc_ BK375 7 rfl; have hcz31_8 : w29.cell? ⟨gb375, 8, none⟩ = some (.slice none 0 0) := bc_ BK375 8 rfl; have hcz31_9 : w29.cell? ⟨gb375, 9, none⟩ = some (.int .i64 0) := bc_ BK375 9 rfl; have hfz31_0 := bf_ BK375 0; have hfz31_1 := bf_ BK375 1; have hfz31_2 := bf_ BK375 2; have hfz31_3 := bf_ BK375 3; have hfz31_4 := bf_ BK375 4; have hfz31_5 := bf_ BK375 5; have hfz31_6 := bf_ BK375 6; have hfz31_7 := bf_ BK375 7; have hfz31_8 := bf_ BK375 8; have hfz31_9 := bf_ BK375 9; obtain ⟨Ao32, co32, eo32⟩ := Kd.R_slice HO362.out; subst eo32; obtain ⟨Ao33, co33, eo33⟩ := Kd.R_slice HO365.out; subst eo33; obtain ⟨Ao34, co34, eo34⟩ := Kd.R_slice HO373.out; subst eo34) | ((with_reducible refine gate_callee (f := 47) rfl ?_); refine goesL_ (some 30) rfl rfl Try.func47 (by kernel_rfl) rfl #[.agg #[.int .i64 t359, .slice Ao32 t360.length co32, .slice Ao33 t363.length co33, .int .i64 t366, .int .i64 t367, .int .i64 t368, .int .i64 t369, .int .i64 t370, .slice Ao34 t371.length co34, .int .i64 t374], .int .i64 a1, .int .i64 a2, .int .i64 a3] rfl mp_ ?_; (with_reducible refine (impl_IsSure.calls k t359 _ _ t360 _ _ t363 t366 t367 t368 t369 t370 _ _ t371 t374 a1 a2 a3 t376 _ ?side1 ?side2 ?side3 ?side4 ?side5 ?side6 A13.out).mono ?_); (case side1 => refine (Kd.R_reads' (e := 70) (base := w.heap.size) (ok := fun k_ => (True ∧ some k_ ≠ (.slice Ao23 t343.length co23 : Value).ownBlock)) (n := t360.length) (c := co32) ?_).2.2; exact (by (with_reducible repeat (first | apply Kd.R_alloc | apply Kd.R_drewN | apply Kd.R_drew)); exact (Kd.R_mono (Kd.R_far (p := ⟨gb375, 9, none⟩) (Kd.R_far (p := ⟨gb375, 8, none⟩) (Kd.R_far (p := ⟨gb375, 7, none⟩) (Kd.R_far (p := ⟨gb375, 6, none⟩) (Kd.R_far (p := ⟨gb375, 5, none⟩) (Kd.R_far (p := ⟨gb375, 4, none⟩) (Kd.R_far (p := ⟨gb375, 3, none⟩) (Kd.R_far (p := ⟨gb375, 2, none⟩) (Kd.R_far (p := ⟨gb375, 1, none⟩) (Kd.R_far (p := ⟨gb375, 0, none⟩) (Kd.R_types HO362.out BK375.out (by decide)) (fun _ hk => hk.2) (.int .i64 t359)) (fun _ hk => hk.2) (.slice Ao32 t360.length co32)) (fun _ hk => hk.2) (.slice Ao33 t363.length co33)) (fun _ hk => hk.2) (.int .i64 t366)) (fun _ hk => hk.2) (.int .i64 t367)) (fun _ hk => hk.2) (.int .i64 t368)) (fun _ hk => hk.2) (.int .i64 t369)) (fun _ hk => hk.2) (.int .i64 t370)) (fun _ hk => hk.2) (.slice Ao34 t371.length co34)) (fun _ hk => hk.2) (.int .i64 t374)) (fun _ h_ => h_.1)))); (case side2 => exact (Kd.R_reads' HO362.out).2.1); (case side3 => refine (Kd.R_reads' (e := 72) (base := w.heap.size) (ok := fun k_ => (True ∧ some k_ ≠ (.slice Ao24 t346.length co24 : Value).ownBlock)) (n := t363.length) (c := co33) ?_).2.2; exact (by (with_reducible repeat (first | apply Kd.R_alloc | apply Kd.R_drewN | apply Kd.R_drew)); exact (Kd.R_mono (Kd.R_far (p := ⟨gb375, 9, none⟩) (Kd.R_far (p := ⟨gb375, 8, none⟩) (Kd.R_far (p := ⟨gb375, 7, none⟩) (Kd.R_far (p := ⟨gb375, 6, none⟩) (Kd.R_far (p := ⟨gb375, 5, none⟩) (Kd.R_far (p := ⟨gb375, 4, none⟩) (Kd.R_far (p := ⟨gb375, 3, none⟩) (Kd.R_far (p := ⟨gb375, 2, none⟩) (Kd.R_far (p := ⟨gb375, 1, none⟩) (Kd.R_far (p := ⟨gb375, 0, none⟩) (Kd.R_types HO365.out BK375.out (by decide)) (fun _ hk => hk.2) (.int .i64 t359)) (fun _ hk => hk.2) (.slice Ao32 t360.length co32)) (fun _ hk => hk.2) (.slice Ao33 t363.length co33)) (fun _ hk => hk.2) (.int .i64 t366)) (fun _ hk => hk.2) (.int .i64 t367)) (fun _ hk => hk.2) (.int .i64 t368)) (fun _ hk => hk.2) (.int .i64 t369)) (fun _ hk => hk.2) (.int .i64 t370)) (fun _ hk => hk.2) (.slice Ao34 t371.length co34)) (fun _ hk => hk.2) (.int .i64 t374)) (fun _ h_ => h_.1)))); (case side4 => exact (Kd.R_reads' HO365.out).2.1); (case side5 => refine (Kd.R_reads' (e := 83) (base := w.heap.size) (ok := fun k_ => (True ∧ some k_ ≠ (.slice Ao25 t354.length co25 : Value).ownBlock)) (n := t371.length) (c := co34) ?_).2.2; exact (by (with_reducible repeat (first | apply Kd.R_alloc | apply Kd.R_drewN | apply Kd.R_drew)); exact (Kd.R_mono (Kd.R_far (p := ⟨gb375, 9, none⟩) (Kd.R_far (p := ⟨gb375, 8, none⟩) (Kd.R_far (p := ⟨gb375, 7, none⟩) (Kd.R_far (p := ⟨gb375, 6, none⟩) (Kd.R_far (p := ⟨gb375, 5, none⟩) (Kd.R_far (p := ⟨gb375, 4, none⟩) (Kd.R_far (p := ⟨gb375, 3, none⟩) (Kd.R_far (p := ⟨gb375, 2, none⟩) (Kd.R_far (p := ⟨gb375, 1, none⟩) (Kd.R_far (p := ⟨gb375, 0, none⟩) (Kd.R_types HO373.out BK375.out (by decide)) (fun _ hk => hk.2) (.int .i64 t359)) (fun _ hk => hk.2) (.slice Ao32 t360.length co32)) (fun _ hk => hk.2) (.slice Ao33 t363.length co33)) (fun _ hk => hk.2) (.int .i64 t366)) (fun _ hk => hk.2) (.int .i64 t367)) (fun _ hk => hk.2) (.int .i64 t368)) (fun _ hk => hk.2) (.int .i64 t369)) (fun _ hk => hk.2) (.int .i64 t370)) (fun _ hk => hk.2) (.slice Ao34 t371.length co34)) (fun _ hk => hk.2) (.int .i64 t374)) (fun _ h_ => h_.1)))); (case side6 => exact (Kd.R_reads' HO373.out).2.1); rintro e w35 ⟨rfl, hb⟩; refine ⟨_, rfl, ?_⟩; have n0_ := Aside0.mk (Kd.R_below (by (with_reducible repeat (first | apply Kd.R_alloc | apply Kd.R_drewN | apply Kd.R_drew)); exact (Kd.R_mono (Kd.R_far (p := ⟨gb375, 9, none⟩) (Kd.R_far (p := ⟨gb375, 8, none⟩) (Kd.R_far (p := ⟨gb375, 7, none⟩) (Kd.R_far (p := ⟨gb375, 6, none⟩) (Kd.R_far (p := ⟨gb375, 5, none⟩) (Kd.R_far (p := ⟨gb375, 4, none⟩) (Kd.R_far (p := ⟨gb375, 3, none⟩) (Kd.R_far (p := ⟨gb375, 2, none⟩) (Kd.R_far (p := ⟨gb375, 1, none⟩) (Kd.R_far (p := ⟨gb375, 0, none⟩) (Kd.R_types HO345.out BK375.out (by decide)) (fun _ hk => hk.2) (.int .i64 t359)) (fun _ hk => hk.2) (.slice Ao32 t360.length co32)) (fun _ hk => hk.2) (.slice Ao33 t363.length co33)) (fun _ hk => hk.2) (.int .i64 t366)) (fun _ hk => hk.2) (.int .i64 t367)) (fun _ hk => hk.2) (.int .i64 t368)) (fun _ hk => hk.2) (.int .i64 t369)) (fun _ hk => hk.2) (.int .i64 t370)) (fun _ hk => hk.2) (.slice Ao34 t371.length co34)) (fun _ hk => hk.2) (.int .i64 t374)) (fun _ h_ => h_.1))) hb); have n1_ := Aside0.mk (Kd.R_below (by (with_reducible repeat (first | apply Kd.R_alloc | apply Kd.R_drewN | apply Kd.R_drew)); exact (Kd.R_mono (Kd.R_far (p := ⟨gb375, 9, none⟩) (Kd.R_far (p := ⟨gb375, 8, none⟩) (Kd.R_far (p := ⟨gb375, 7, none⟩) (Kd.R_far (p := ⟨gb375, 6, none⟩) (Kd.R_far (p := ⟨gb375, 5, none⟩) (Kd.R_far (p := ⟨gb375, 4, none⟩) (Kd.R_far (p := ⟨gb375, 3, none⟩) (Kd.R_far (p := ⟨gb375, 2, none⟩) (Kd.R_far (p := ⟨gb375, 1, none⟩) (Kd.R_far (p := ⟨gb375, 0, none⟩) (Kd.R_types HO348.out BK375.out (by decide)) (fun _ hk => hk.2) (.int .i64 t359)) (fun _ hk => hk.2) (.slice Ao32 t360.length co32)) (fun _ hk => hk.2) (.slice Ao33 t363.length co33)) (fun _ hk => hk.2) (.int .i64 t366)) (fun _ hk => hk.2) (.int .i64 t367)) (fun _ hk => hk.2) (.int .i64 t368)) (fun _ hk => hk.2) (.int .i64 t369)) (fun _ hk => hk.2) (.int .i64 t370)) (fun _ hk => hk.2) (.slice Ao34 t371.length co34)) (fun _ hk => hk.2) (.int .i64 t374)) (fun _ h_ => h_.1))) hb); have n2_ := Aside0.mk (Kd.R_below (by (with_reducible repeat (first | apply Kd.R_alloc | apply Kd.R_drewN | apply Kd.R_drew)); exact (Kd.R_mono (Kd.R_far (p := ⟨gb375, 9, none⟩) (Kd.R_far (p := ⟨gb375, 8, none⟩) (Kd.R_far (p := ⟨gb375, 7, none⟩) (Kd.R_far (p := ⟨gb375, 6, none⟩) (Kd.R_far (p := ⟨gb375, 5, none⟩) (Kd.R_far (p := ⟨gb375, 4, none⟩) (Kd.R_far (p := ⟨gb375, 3, none⟩) (Kd.R_far (p := ⟨gb375, 2, none⟩) (Kd.R_far (p := ⟨gb375, 1, none⟩) (Kd.R_far (p := ⟨gb375, 0, none⟩) (Kd.R_types HO356.out BK375.out (by decide)) (fun _ hk => hk.2) (.int .i64 t359)) (fun _ hk => hk.2) (.slice Ao32 t360.length co32)) (fun _ hk => hk.2) (.slice Ao33 t363.length co33)) (fun _ hk => hk.2) (.int .i64 t366)) (fun _ hk => hk.2) (.int .i64 t367)) (fun _ hk => hk.2) (.int .i64 t368)) (fun _ hk => hk.2) (.int .i64 t369)) (fun _ hk => hk.2) (.int .i64 t370)) (fun _ hk => hk.2) (.slice Ao34 t371.length co34)) (fun _ hk => hk.2) (.int .i64 t374)) (fun _ h_ => h_.1))) hb); have n3_ := Aside0.mk (Kd.R_below (by (with_reducible repeat (first | apply Kd.R_alloc | apply Kd.R_drewN | apply Kd.R_drew)); exact (Kd.R_mono (Kd.R_far (p := ⟨gb375, 9, none⟩) (Kd.R_far (p := ⟨gb375, 8, none⟩) (Kd.R_far (p := ⟨gb375, 7, none⟩) (Kd.R_far (p := ⟨gb375, 6, none⟩) (Kd.R_far (p := ⟨gb375, 5, none⟩) (Kd.R_far (p := ⟨gb375, 4, none⟩) (Kd.R_far (p := ⟨gb375, 3, none⟩) (Kd.R_far (p := ⟨gb375, 2, none⟩) (Kd.R_far (p := ⟨gb375, 1, none⟩) (Kd.R_far (p := ⟨gb375, 0, none⟩) (Kd.R_types HO362.out BK375.out (by decide)) (fun _ hk => hk.2) (.int .i64 t359)) (fun _ hk => hk.2) (.slice Ao32 t360.length co32)) (fun _ hk => hk.2) (.slice Ao33 t363.length co33)) (fun _ hk => hk.2) (.int .i64 t366)) (fun _ hk => hk.2) (.int .i64 t367)) (fun _ hk => hk.2) (.int .i64 t368)) (fun _ hk => hk.2) (.int .i64 t369)) (fun _ hk => hk.2) (.int .i64 t370)) (fun _ hk => hk.2) (.slice Ao34 t371.length co34)) (fun _ hk => hk.2) (.int .i64 t374)) (fun _ h_ => h_.1))) hb); have n4_ := Aside0.mk (Kd.R_below (by (with_reducible repeat (first | apply Kd.R_alloc | apply Kd.R_drewN | apply Kd.R_drew)); exact (Kd.R_mono (Kd.R_far (p := ⟨gb375, 9, none⟩) (Kd.R_far (p := ⟨gb375, 8, none⟩) (Kd.R_far (p := ⟨gb375, 7, none⟩) (Kd.R_far (p := ⟨gb375, 6, none⟩) (Kd.R_far (p := ⟨gb375, 5, none⟩) (Kd.R_far (p := ⟨gb375, 4, none⟩) (Kd.R_far (p := ⟨gb375, 3, none⟩) (Kd.R_far (p := ⟨gb375, 2, none⟩) (Kd.R_far (p := ⟨gb375, 1, none⟩) (Kd.R_far (p := ⟨gb375, 0, none⟩) (Kd.R_types HO365.out BK375.out (by decide)) (fun _ hk => hk.2) (.int .i64 t359)) (fun _ hk => hk.2) (.slice Ao32 t360.length co32)) (fun _ hk => hk.2) (.slice Ao33 t363.length co33)) (fun _ hk => hk.2) (.int .i64 t366)) (fun _ hk => hk.2) (.int .i64 t367)) (fun _ hk => hk.2) (.int .i64 t368)) (fun _ hk => hk.2) (.int .i64 t369)) (fun _ hk => hk.2) (.int .i64 t370)) (fun _ hk => hk.2) (.slice Ao34 t371.length co34)) (fun _ hk => hk.2) (.int .i64 t374)) (fun _ h_ => h_.1))) hb); have n5_ := Aside0.mk (Kd.R_below (by (with_reducible repeat (first | apply Kd.R_alloc | apply Kd.R_drewN | apply Kd.R_drew)); exact (Kd.R_mono (Kd.R_far (p := ⟨gb375, 9, none⟩) (Kd.R_far (p := ⟨gb375, 8, none⟩) (Kd.R_far (p := ⟨gb375, 7, none⟩) (Kd.R_far (p := ⟨gb375, 6, none⟩) (Kd.R_far (p := ⟨gb375, 5, none⟩) (Kd.R_far (p := ⟨gb375, 4, none⟩) (Kd.R_far (p := ⟨gb375, 3, none⟩) (Kd.R_far (p := ⟨gb375, 2, none⟩) (Kd.R_far (p := ⟨gb375, 1, none⟩) (Kd.R_far (p := ⟨gb375, 0, none⟩) (Kd.R_types HO373.out BK375.out (by decide)) (fun _ hk => hk.2) (.int .i64 t359)) (fun _ hk => hk.2) (.slice Ao32 t360.length co32)) (fun _ hk => hk.2) (.slice Ao33 t363.length co33)) (fun _ hk => hk.2) (.int .i64 t366)) (fun _ hk => hk.2) (.int .i64 t367)) (fun _ hk => hk.2) (.int .i64 t368)) (fun _ hk => hk.2) (.int .i64 t369)) (fun _ hk => hk.2) (.int .i64 t370)) (fun _ hk => hk.2) (.slice Ao34 t371.length co34)) (fun _ hk => hk.2) (.int .i64 t374)) (fun _ h_ => h_.1))) hb); have n6_ := Aside0.mk (blk_below (g := gb340) (o := .cells #[.int .i64 a0_0, .slice A0_1 l0_1.length c0_1, .slice A0_2 l0_2.length c0_2, .int .i64 a0_3, .int .i64 a0_4, .int .i64 a0_5, .int .i64 a0_6, .int .i64 a0_7, .slice A0_8 l0_8.length c0_8, .int .i64 a0_9] 38 (0, 0)) (by (with_reducible repeat (first | refine blk_drewN ?_ _ | refine blk_drew ?_ | refine blk_alloc ?_ _)); refine blk_far ?_ NB340_375.out _; (with_reducible repeat (first | refine blk_drewN ?_ _ | refine blk_drew ?_ | refine blk_alloc ?_ _)); refine blk_far ?_ NB340_375.out _; (with_reducible repeat (first | refine blk_drewN ?_ _ | refine blk_drew ?_ | refine blk_alloc ?_ _)); refine blk_far ?_ NB340_375.out _; (with_reducible repeat (first | refine blk_drewN ?_ _ | refine blk_drew ?_ | refine blk_alloc ?_ _)); refine blk_far ?_ NB340_375.out _; (with_reducible repeat (first | refine blk_drewN ?_ _ | refine blk_drew ?_ | refine blk_alloc ?_ _)); refine blk_far ?_ NB340_375.out _; (with_reducible repeat (first | refine blk_drewN ?_ _ | refine blk_drew ?_ | refine blk_alloc ?_ _)); refine blk_far ?_ NB340_375.out _; (with_reducible repeat (first | refine blk_drewN ?_ _ | refine blk_drew ?_ | refine blk_alloc ?_ _)); refine blk_far ?_ NB340_375.out _; (with_reducible repeat (first | refine blk_drewN ?_ _ | refine blk_drew ?_ | refine blk_alloc ?_ _)); refine blk_far ?_ NB340_375.out _; (with_reducible repeat (first | refine blk_drewN ?_ _ | refine blk_drew ?_ | refine blk_alloc ?_ _)); refine blk_far ?_ NB340_375.out _; (with_reducible repeat (first | refine blk_drewN ?_ _ | refine blk_drew ?_ | refine blk_alloc ?_ _)); refine blk_far ?_ NB340_375.out _; (with_reducible repeat (first | refine blk_drewN ?_ _ | refine blk_drew ?_ | refine blk_alloc ?_ _)); exact BK340.out) hb); have n7_ := Aside0.mk (blk_below (g := gb375) (o := .cells #[.int .i64 t359, .slice Ao32 t360.length co32, .slice Ao33 t363.length co33, .int .i64 t366, .int .i64 t367, .int .i64 t368, .int .i64 t369, .int .i64 t370, .slice Ao34 t371.length co34, .int .i64 t374] 45 (0, 0)) (by (with_reducible repeat (first | refine blk_drewN ?_ _ | refine blk_drew ?_ | refine blk_alloc ?_ _)); refine blk_put (cs := #[.int .i64 t359, .slice Ao32 t360.length co32, .slice Ao33 t363.length co33, .int .i64 t366, .int .i64 t367, .int .i64 t368, .int .i64 t369, .int .i64 t370, .slice Ao34 t371.length co34, .int .i64 0]) ?_ 9 _ rfl; (with_reducible repeat (first | refine blk_drewN ?_ _ | refine blk_drew ?_ | refine blk_alloc ?_ _)); refine blk_put (cs := #[.int .i64 t359, .slice Ao32 t360.length co32, .slice Ao33 t363.length co33, .int .i64 t366, .int .i64 t367, .int .i64 t368, .int .i64 t369, .int .i64 t370, .slice none 0 0, .int .i64 0]) ?_ 8 _ rfl; (with_reducible repeat (first | refine blk_drewN ?_ _ | refine blk_drew ?_ | refine blk_alloc ?_ _)); refine blk_put (cs := #[.int .i64 t359, .slice Ao32 t360.length co32, .slice Ao33 t363.length co33, .int .i64 t366, .int .i64 t367, .int .i64 t368, .int .i64 t369, .int .i64 0, .slice none 0 0, .int .i64 0]) ?_ 7 _ rfl; (with_reducible repeat (first | refine blk_drewN ?_ _ | refine blk_drew ?_ | refine blk_alloc ?_ _)); refine blk_put (cs := #[.int .i64 t359, .slice Ao32 t360.length co32, .slice Ao33 t363.length co33, .int .i64 t366, .int .i64 t367, .int .i64 t368, .int .i64 0, .int .i64 0, .slice none 0 0, .int .i64 0]) ?_ 6 _ rfl; (with_reducible repeat (first | refine blk_drewN ?_ _ | refine blk_drew ?_ | refine blk_alloc ?_ _)); refine blk_put (cs := #[.int .i64 t359, .slice Ao32 t360.length co32, .slice Ao33 t363.length co33, .int .i64 t366, .int .i64 t367, .int .i64 0, .int .i64 0, .int .i64 0, .slice none 0 0, .int .i64 0]) ?_ 5 _ rfl; (with_reducible repeat (first | refine blk_drewN ?_ _ | refine blk_drew ?_ | refine blk_alloc ?_ _)); refine blk_put (cs := #[.int .i64 t359, .slice Ao32 t360.length co32, .slice Ao33 t363.length co33, .int .i64 t366, .int .i64 0, .int .i64 0, .int .i64 0, .int .i64 0, .slice none 0 0, .int .i64 0]) ?_ 4 _ rfl; (with_reducible repeat (first | refine blk_drewN ?_ _ | refine blk_drew ?_ | refine blk_alloc ?_ _)); refine blk_put (cs := #[.int .i64 t359, .slice Ao32 t360.length co32, .slice Ao33 t363.length co33, .int .i64 0, .int .i64 0, .int .i64 0, .int .i64 0, .int .i64 0, .slice none 0 0, .int .i64 0]) ?_ 3 _ rfl; (with_reducible repeat (first | refine blk_drewN ?_ _ | refine blk_drew ?_ | refine blk_alloc ?_ _)); refine blk_put (cs := #[.int .i64 t359, .slice Ao32 t360.length co32, .slice none 0 0, .int .i64 0, .int .i64 0, .int .i64 0, .int .i64 0, .int .i64 0, .slice none 0 0, .int .i64 0]) ?_ 2 _ rfl; (with_reducible repeat (first | refine blk_drewN ?_ _ | refine blk_drew ?_ | refine blk_alloc ?_ _)); refine blk_put (cs := #[.int .i64 t359, .slice none 0 0, .slice none 0 0, .int .i64 0, .int .i64 0, .int .i64 0, .int .i64 0, .int .i64 0, .slice none 0 0, .int .i64 0]) ?_ 1 _ rfl; (with_reducible repeat (first | refine blk_drewN ?_ _ | refine blk_drew ?_ | refine blk_alloc ?_ _)); refine blk_put (cs := #[.int .i64 0, .slice none 0 0, .slice none 0 0, .int .i64 0, .int .i64 0, .int .i64 0, .int .i64 0, .int .i64 0, .slice none 0 0, .int .i64 0]) ?_ 0 _ rfl; (with_reducible repeat (first | refine blk_drewN ?_ _ | refine blk_drew ?_ | refine blk_alloc ?_ _)); exact BK375.out) hb); have n8_ := Aside0.mk (below_step (bl2_ HB GE340 GE375) hb); clear HO345; clear HO348; clear HO356; clear HO362; clear HO365; clear HO373; clear BK340; clear BK375; clear HB; have HO345 := n0_; have HO348 := n1_; have HO356 := n2_; have HO362 := n3_; have HO365 := n4_; have HO373 := n5_; have BK340 := n6_; have BK375 := n7_; have HB := n8_; clear n0_ n1_ n2_ n3_ n4_ n5_ n6_ n7_ n8_; (try clear hb); (try clear hb2); (try clear hk); (try clear hi)))
    have n0_ := Aside0.mk (Kd.R_drew HO345.out)
    have n1_ := Aside0.mk (Kd.R_drew HO348.out)
    have n2_ := Aside0.mk (Kd.R_drew HO356.out)
    have n3_ := Aside0.mk (Kd.R_drew HO362.out)
    have n4_ := Aside0.mk (Kd.R_drew HO365.out)
    have n5_ := Aside0.mk (Kd.R_drew HO373.out)
    have n6_ := Aside0.mk (blk_drew BK340.out)
    have n7_ := Aside0.mk (blk_drew BK375.out)
    have n8_ := Aside0.mk (below_drew1 HB.out)
    clear HO345
    clear HO348
    clear HO356
    clear HO362
    clear HO365
    clear HO373
    clear BK340
    clear BK375
    clear HB
    have HO345 := n0_
    have HO348 := n1_
    have HO356 := n2_
    have HO362 := n3_
    have HO365 := n4_
    have HO373 := n5_
    have BK340 := n6_
    have BK375 := n7_
    have HB := n8_
    clear n0_ n1_ n2_ n3_ n4_ n5_ n6_ n7_ n8_
    refine start_ (n := 5) (S := fun w' => w'.cell? ⟨gb375, 0, none⟩ = some (.int .i64 t359) ∧ w'.cell? ⟨gb375, 1, none⟩ = some (.slice Ao32 t360.length co32) ∧ w'.cell? ⟨gb375, 2, none⟩ = some (.slice Ao33 t363.length co33) ∧ w'.cell? ⟨gb375, 3, none⟩ = some (.int .i64 t366) ∧ w'.cell? ⟨gb375, 4, none⟩ = some (.int .i64 t367) ∧ w'.cell? ⟨gb375, 5, none⟩ = some (.int .i64 t368) ∧ w'.cell? ⟨gb375, 6, none⟩ = some (.int .i64 t369) ∧ w'.cell? ⟨gb375, 7, none⟩ = some (.int .i64 t370) ∧ w'.cell? ⟨gb375, 8, none⟩ = some (.slice Ao34 t371.length co34) ∧ w'.cell? ⟨gb375, 9, none⟩ = some (.int .i64 t374) ∧ w'.cell? ⟨gb340, 0, none⟩ = some (.int .i64 a0_0) ∧ w'.cell? ⟨gb340, 1, none⟩ = some (.slice A0_1 l0_1.length c0_1) ∧ w'.cell? ⟨gb340, 2, none⟩ = some (.slice A0_2 l0_2.length c0_2) ∧ w'.cell? ⟨gb340, 3, none⟩ = some (.int .i64 a0_3) ∧ w'.cell? ⟨gb340, 4, none⟩ = some (.int .i64 a0_4) ∧ w'.cell? ⟨gb340, 5, none⟩ = some (.int .i64 a0_5) ∧ w'.cell? ⟨gb340, 6, none⟩ = some (.int .i64 a0_6) ∧ w'.cell? ⟨gb340, 7, none⟩ = some (.int .i64 a0_7) ∧ w'.cell? ⟨gb340, 8, none⟩ = some (.slice A0_8 l0_8.length c0_8) ∧ w'.cell? ⟨gb340, 9, none⟩ = some (.int .i64 a0_9)) (ds := []) #[false, false, false, false, false] (by kernel_rfl) rfl rfl ⟨(bc_ BK375 0 rfl), (bc_ BK375 1 rfl), (bc_ BK375 2 rfl), (bc_ BK375 3 rfl), (bc_ BK375 4 rfl), (bc_ BK375 5 rfl), (bc_ BK375 6 rfl), (bc_ BK375 7 rfl), (bc_ BK375 8 rfl), (bc_ BK375 9 rfl), (bc_ BK340 0 rfl), (bc_ BK340 1 rfl), (bc_ BK340 2 rfl), (bc_ BK340 3 rfl), (bc_ BK340 4 rfl), (bc_ BK340 5 rfl), (bc_ BK340 6 rfl), (bc_ BK340 7 rfl), (bc_ BK340 8 rfl), (bc_ BK340 9 rfl)⟩ (fun hHeld => ?_)
    generalize w35.drew = w36 at HO345 HO348 HO356 HO362 HO365 HO373 BK340 BK375 HB hHeld ⊢
    refine take_ (i := 0) (N := some 34) (v := ?_) (a' := ?_) #[true, false, false, false, false] rfl rfl (by kernel_rfl) (fun _ _ _ h => h) (Or.inl ⟨by rfl, ?_⟩) hHeld ?_ ?_
    rotate_left
    ·rintro w' ⟨s0, s1, s2, s3, s4, s5, s6, s7, s8, s9, s10, s11, s12, s13, s14, s15, s16, s17, s18, s19⟩
     go_simp
     with_reducible rfl
    rotate_left
    ·simp only [Act.put, List.setIfInBounds_toArray, List.set_cons_zero, List.set_cons_succ, i64_w, i32_w]
     rfl
    refine take_ (i := 1) (N := some 35) (v := ?_) (a' := ?_) #[true, true, false, false, false] rfl rfl (by kernel_rfl) (fun _ _ _ h => h) (Or.inl ⟨by rfl, ?_⟩) hHeld ?_ ?_
    rotate_left
    ·rintro w' ⟨s0, s1, s2, s3, s4, s5, s6, s7, s8, s9, s10, s11, s12, s13, s14, s15, s16, s17, s18, s19⟩
     go_simp
     with_reducible rfl
    rotate_left
    ·simp only [Act.put, List.setIfInBounds_toArray, List.set_cons_zero, List.set_cons_succ, i64_w, i32_w]
     rfl
    refine one_ (i := 2) (N := some 36) #[true, true, true, false, false] rfl rfl (by kernel_rfl) (by decide) (fun K hK => ?_)
    refine goes_ Try.func26 (by kernel_rfl) rfl #[.agg #[.int .i64 a0_0, .slice A0_1 l0_1.length c0_1, .slice A0_2 l0_2.length c0_2, .int .i64 a0_3, .int .i64 a0_4, .int .i64 a0_5, .int .i64 a0_6, .int .i64 a0_7, .slice A0_8 l0_8.length c0_8, .int .i64 a0_9]] (by rfl) rfl rfl mp_ ?_
    with_reducible refine (laws_toSky.calls k a0_0 _ _ l0_1 _ _ l0_2 a0_3 a0_4 a0_5 a0_6 a0_7 _ _ l0_8 a0_9 t377 t378 t381 t384 t385 t386 t387 t388 t389 t392 _ ?side1 ?side2 ?side3 ?side4 ?side5 ?side6 A15.out).mono ?_
    (case side1 => exact ck_ HR0_1 HB)
    (case side2 => exact HC0_1.out)
    (case side3 => exact ck_ HR0_2 HB)
    (case side4 => exact HC0_2.out)
    (case side5 => exact ck_ HR0_8 HB)
    (case side6 => exact HC0_8.out)
    rintro e w37 ⟨v379, v382, v390, rfl, ho0, ho1, ho2, hb⟩
    refine ⟨_, rfl, ?_⟩
    have n0_ := Aside0.mk (Kd.R_elder' (by (with_reducible repeat (first | apply Kd.R_alloc | apply Kd.R_drewN | apply Kd.R_drew)); exact HO345.out) (Kd.R_base ho0) hb)
    have n1_ := Aside0.mk (Kd.R_elder' (by (with_reducible repeat (first | apply Kd.R_alloc | apply Kd.R_drewN | apply Kd.R_drew)); exact HO348.out) (Kd.R_base ho1) hb)
    have n2_ := Aside0.mk (Kd.R_elder' (by (with_reducible repeat (first | apply Kd.R_alloc | apply Kd.R_drewN | apply Kd.R_drew)); exact HO356.out) (Kd.R_base ho2) hb)
    have n3_ := Aside0.mk (Kd.R_elder' (by (with_reducible repeat (first | apply Kd.R_alloc | apply Kd.R_drewN | apply Kd.R_drew)); exact HO362.out) (Kd.R_base ho0) hb)
    have n4_ := Aside0.mk (Kd.R_elder' (by (with_reducible repeat (first | apply Kd.R_alloc | apply Kd.R_drewN | apply Kd.R_drew)); exact HO365.out) (Kd.R_base ho1) hb)
    have n5_ := Aside0.mk (Kd.R_elder' (by (with_reducible repeat (first | apply Kd.R_alloc | apply Kd.R_drewN | apply Kd.R_drew)); exact HO373.out) (Kd.R_base ho2) hb)
    have n6_ := Aside0.mk (Kd.R_lower (Kd.R_new' (Kd.R_new' ho0 (Kd.R_lt (by (with_reducible repeat (first | apply Kd.R_alloc | apply Kd.R_drewN | apply Kd.R_drew)); exact HO345.out))) (Kd.R_lt (by (with_reducible repeat (first | apply Kd.R_alloc | apply Kd.R_drewN | apply Kd.R_drew)); exact HO362.out))) (below_size (bl2_ HB GE340 GE375)))
    have n7_ := Aside0.mk (Kd.R_lower (Kd.R_new' (Kd.R_new' ho1 (Kd.R_lt (by (with_reducible repeat (first | apply Kd.R_alloc | apply Kd.R_drewN | apply Kd.R_drew)); exact HO348.out))) (Kd.R_lt (by (with_reducible repeat (first | apply Kd.R_alloc | apply Kd.R_drewN | apply Kd.R_drew)); exact HO365.out))) (below_size (bl2_ HB GE340 GE375)))
    have n8_ := Aside0.mk (Kd.R_lower (Kd.R_new' (Kd.R_new' ho2 (Kd.R_lt (by (with_reducible repeat (first | apply Kd.R_alloc | apply Kd.R_drewN | apply Kd.R_drew)); exact HO356.out))) (Kd.R_lt (by (with_reducible repeat (first | apply Kd.R_alloc | apply Kd.R_drewN | apply Kd.R_drew)); exact HO373.out))) (below_size (bl2_ HB GE340 GE375)))
    have n9_ := Aside0.mk (blk_below (bk_ BK340) hb)
    have n10_ := Aside0.mk (blk_below (bk_ BK375) hb)
    have n11_ := Aside0.mk (below_step (bl2_ HB GE340 GE375) hb)
    clear HO345
    clear HO348
    clear HO356
    clear HO362
    clear HO365
    clear HO373
    clear BK340
    clear BK375
    clear HB
    have HO345 := n0_
    have HO348 := n1_
    have HO356 := n2_
    have HO362 := n3_
    have HO365 := n4_
    have HO373 := n5_
    have HO380 := n6_
    have HO383 := n7_
    have HO391 := n8_
    have BK340 := n9_
    have BK375 := n10_
    have HB := n11_
    clear n0_ n1_ n2_ n3_ n4_ n5_ n6_ n7_ n8_ n9_ n10_ n11_
    (try clear hb)
    (try clear hb2)
    (try clear hk)
    (try clear hi)
    (try clear ho0)
    (try clear ho1)
    (try clear ho2)
    obtain ⟨Ao38, co38, eo38⟩ := Kd.R_slice HO380.out
    (first | subst eo38 | (injection eo38 with f1_ f2_ f3_; have f4_ := f1_.symm; have f5_ := f3_.symm; clear f1_ f2_ f3_; subst f4_; subst f5_))
    obtain ⟨Ao39, co39, eo39⟩ := Kd.R_slice HO383.out
    (first | subst eo39 | (injection eo39 with f1_ f2_ f3_; have f4_ := f1_.symm; have f5_ := f3_.symm; clear f1_ f2_ f3_; subst f4_; subst f5_))
    obtain ⟨Ao40, co40, eo40⟩ := Kd.R_slice HO391.out
    (first | subst eo40 | (injection eo40 with f1_ f2_ f3_; have f4_ := f1_.symm; have f5_ := f3_.symm; clear f1_ f2_ f3_; subst f4_; subst f5_))
    refine hK.out _ _ ⟨(bc_ BK375 0 rfl), (bc_ BK375 1 rfl), (bc_ BK375 2 rfl), (bc_ BK375 3 rfl), (bc_ BK375 4 rfl), (bc_ BK375 5 rfl), (bc_ BK375 6 rfl), (bc_ BK375 7 rfl), (bc_ BK375 8 rfl), (bc_ BK375 9 rfl), (bc_ BK340 0 rfl), (bc_ BK340 1 rfl), (bc_ BK340 2 rfl), (bc_ BK340 3 rfl), (bc_ BK340 4 rfl), (bc_ BK340 5 rfl), (bc_ BK340 6 rfl), (bc_ BK340 7 rfl), (bc_ BK340 8 rfl), (bc_ BK340 9 rfl)⟩ (fun hHeld => ?_)
    clear hK K
    refine norm_ (a' := ?_) ?_ ?_
    rotate_left
    ·show Act.put _ (some 36) _ = _
     simp only [Act.put, List.setIfInBounds_toArray, List.set_cons_zero, List.set_cons_succ, i64_w, i32_w]
     rfl
    refine one_ (i := 3) (N := some 37) #[true, true, true, true, false] rfl rfl (by kernel_rfl) (by decide) (fun K hK => ?_)
    refine goes_ Try.func28 (by kernel_rfl) rfl #[.agg #[.int .i64 t359, .slice Ao32 t360.length co32, .slice Ao33 t363.length co33, .int .i64 t366, .int .i64 t367, .int .i64 t368, .int .i64 t369, .int .i64 t370, .slice Ao34 t371.length co34, .int .i64 t374], .agg #[.int .i64 t377, .slice Ao38 t378.length co38, .slice Ao39 t381.length co39, .int .i64 t384, .int .i64 t385, .int .i64 t386, .int .i64 t387, .int .i64 t388, .slice Ao40 t389.length co40, .int .i64 t392]] (by rfl) rfl rfl mp_ ?_
    with_reducible refine (laws_eqSky.calls k t359 _ _ t360 _ _ t363 t366 t367 t368 t369 t370 _ _ t371 t374 t377 _ _ t378 _ _ t381 t384 t385 t386 t387 t388 _ _ t389 t392 true _ ?side1 ?side2 ?side3 ?side4 ?side5 ?side6 ?side7 ?side8 ?side9 ?side10 ?side11 ?side12 A16.out).mono ?_
    (case side1 => repeat (first | exact (Kd.R_reads' HO362.out).2.2 | (with_reducible refine Kd.C_alloc ?_ _) | (with_reducible refine Kd.C_drewN ?_ _) | (with_reducible refine Kd.C_drew ?_)))
    (case side2 => exact (Kd.R_reads' HO362.out).2.1)
    (case side3 => repeat (first | exact (Kd.R_reads' HO365.out).2.2 | (with_reducible refine Kd.C_alloc ?_ _) | (with_reducible refine Kd.C_drewN ?_ _) | (with_reducible refine Kd.C_drew ?_)))
    (case side4 => exact (Kd.R_reads' HO365.out).2.1)
    (case side5 => repeat (first | exact (Kd.R_reads' HO373.out).2.2 | (with_reducible refine Kd.C_alloc ?_ _) | (with_reducible refine Kd.C_drewN ?_ _) | (with_reducible refine Kd.C_drew ?_)))
    (case side6 => exact (Kd.R_reads' HO373.out).2.1)
    (case side7 => repeat (first | exact (Kd.R_reads' HO380.out).2.2 | (with_reducible refine Kd.C_alloc ?_ _) | (with_reducible refine Kd.C_drewN ?_ _) | (with_reducible refine Kd.C_drew ?_)))
    (case side8 => exact (Kd.R_reads' HO380.out).2.1)
    (case side9 => repeat (first | exact (Kd.R_reads' HO383.out).2.2 | (with_reducible refine Kd.C_alloc ?_ _) | (with_reducible refine Kd.C_drewN ?_ _) | (with_reducible refine Kd.C_drew ?_)))
    (case side10 => exact (Kd.R_reads' HO383.out).2.1)
    (case side11 => repeat (first | exact (Kd.R_reads' HO391.out).2.2 | (with_reducible refine Kd.C_alloc ?_ _) | (with_reducible refine Kd.C_drewN ?_ _) | (with_reducible refine Kd.C_drew ?_)))
    (case side12 => exact (Kd.R_reads' HO391.out).2.1)
    rintro e w41 ⟨rfl, hb⟩
    refine ⟨_, rfl, ?_⟩
    have n0_ := Aside0.mk (Kd.R_below (by (with_reducible repeat (first | apply Kd.R_alloc | apply Kd.R_drewN | apply Kd.R_drew)); exact HO345.out) hb)
    have n1_ := Aside0.mk (Kd.R_below (by (with_reducible repeat (first | apply Kd.R_alloc | apply Kd.R_drewN | apply Kd.R_drew)); exact HO348.out) hb)
    have n2_ := Aside0.mk (Kd.R_below (by (with_reducible repeat (first | apply Kd.R_alloc | apply Kd.R_drewN | apply Kd.R_drew)); exact HO356.out) hb)
    have n3_ := Aside0.mk (Kd.R_below (by (with_reducible repeat (first | apply Kd.R_alloc | apply Kd.R_drewN | apply Kd.R_drew)); exact HO362.out) hb)
    have n4_ := Aside0.mk (Kd.R_below (by (with_reducible repeat (first | apply Kd.R_alloc | apply Kd.R_drewN | apply Kd.R_drew)); exact HO365.out) hb)
    have n5_ := Aside0.mk (Kd.R_below (by (with_reducible repeat (first | apply Kd.R_alloc | apply Kd.R_drewN | apply Kd.R_drew)); exact HO373.out) hb)
    have n6_ := Aside0.mk (Kd.R_below (by (with_reducible repeat (first | apply Kd.R_alloc | apply Kd.R_drewN | apply Kd.R_drew)); exact HO380.out) hb)
    have n7_ := Aside0.mk (Kd.R_below (by (with_reducible repeat (first | apply Kd.R_alloc | apply Kd.R_drewN | apply Kd.R_drew)); exact HO383.out) hb)
    have n8_ := Aside0.mk (Kd.R_below (by (with_reducible repeat (first | apply Kd.R_alloc | apply Kd.R_drewN | apply Kd.R_drew)); exact HO391.out) hb)
    have n9_ := Aside0.mk (blk_below (bk_ BK340) hb)
    have n10_ := Aside0.mk (blk_below (bk_ BK375) hb)
    have n11_ := Aside0.mk (below_step (bl2_ HB GE340 GE375) hb)
    clear HO345
    clear HO348
    clear HO356
    clear HO362
    clear HO365
    clear HO373
    clear HO380
    clear HO383
    clear HO391
    clear BK340
    clear BK375
    clear HB
    have HO345 := n0_
    have HO348 := n1_
    have HO356 := n2_
    have HO362 := n3_
    have HO365 := n4_
    have HO373 := n5_
    have HO380 := n6_
    have HO383 := n7_
    have HO391 := n8_
    have BK340 := n9_
    have BK375 := n10_
    have HB := n11_
    clear n0_ n1_ n2_ n3_ n4_ n5_ n6_ n7_ n8_ n9_ n10_ n11_
    (try clear hb)
    (try clear hb2)
    (try clear hk)
    (try clear hi)
    refine hK.out _ _ ⟨(bc_ BK375 0 rfl), (bc_ BK375 1 rfl), (bc_ BK375 2 rfl), (bc_ BK375 3 rfl), (bc_ BK375 4 rfl), (bc_ BK375 5 rfl), (bc_ BK375 6 rfl), (bc_ BK375 7 rfl), (bc_ BK375 8 rfl), (bc_ BK375 9 rfl), (bc_ BK340 0 rfl), (bc_ BK340 1 rfl), (bc_ BK340 2 rfl), (bc_ BK340 3 rfl), (bc_ BK340 4 rfl), (bc_ BK340 5 rfl), (bc_ BK340 6 rfl), (bc_ BK340 7 rfl), (bc_ BK340 8 rfl), (bc_ BK340 9 rfl)⟩ (fun hHeld => ?_)
    clear hK K
    refine norm_ (a' := ?_) ?_ ?_
    rotate_left
    ·show Act.put _ (some 37) _ = _
     simp only [Act.put, List.setIfInBounds_toArray, List.set_cons_zero, List.set_cons_succ, i64_w, i32_w]
     rfl
    refine pure_ (i := 4) (N := some 38) (v := ?_) (a' := ?_) #[true, true, true, true, true] rfl rfl (by kernel_rfl) (fun _ _ _ h => h) (Or.inl ⟨by rfl, ?_⟩) ?_ ?_
    rotate_left
    ·intro w'
     go_simp
     with_reducible rfl
    rotate_left
    ·simp only [Act.put, List.setIfInBounds_toArray, List.set_cons_zero, List.set_cons_succ, i64_w, i32_w]
     rfl
    refine done_ (by kernel_rfl) ?_
    try go_wp2
    go_ret
    exact ⟨by first | rfl | (simp [errW_none, errW_some] <;> rfl) | (simp [*, errW_none, errW_some] <;> rfl), by repeat (first | (with_reducible first | exact HB.out | apply below_alloc | apply pw_below_drewN | apply below_drew1 | refine below_set ?_ GE340.out | refine below_set ?_ GE375.out) | exact HB.out)⟩
   ·replace c17 := Bool.eq_false_iff.mpr c17
    subst c17
    have H1 : (some false) = some true := by first | (rw [if_neg (show ¬ (false = true) by decide)] at H; exact H) | rfl
    clear H
    have H := H1
    clear H1
    exact absurd H (by simp)

end Go.Proofs.Ytflngcegkhgocaa.PFnExactIsSure
