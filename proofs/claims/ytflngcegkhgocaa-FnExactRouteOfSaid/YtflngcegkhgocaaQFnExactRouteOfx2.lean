-- Written by a program of this session for this claim (the kit's printer with changes).
import Derived.Test.YtflngcegkhgocaaQFnExactRouteOfx0
import Derived.Test.YtflngcegkhgocaaQFnExactRouteOfx1
namespace Go.Proofs.Ytflngcegkhgocaa.PFnExactRouteOf
open Go.RowKit Go.Proofs.YtflngcegkhgocaaW.PrintWords Go.Proofs.YtflngcegkhgocaaW.PrintLast Go.Proofs.YtflngcegkhgocaaW.PrintMore
attribute [local go_sem] max2_int min2_int max_two min_two max_three min_three max_four min_four   -- for this text's walks alone
set_option linter.unusedVariables false
set_option linter.unusedSimpArgs false

/-! ### laws_FnExactRouteOf: function 3 -/
def laws_FnExactRouteOf.j0 : Nat → Int → List Int → List Int → Bool → Int → List Int → List Int → Option (Bool)
  | 0, _, _, _, _, _, _, _ => none
  | k + 1, x1, x6, x8, x46, x162000, x162001, x162002 => if x46 = true then (some false) else ((laws_markIntS.f k x8 1).bind fun bt197 => ((laws_heldIntS.f k bt197.2 1).bind fun t199 => (if t199 < 0 then (some false) else (if t199 = bt197.1 then ((laws_toTable.f k x162000 x162001 x162002).bind fun bt200 => ((impl_RouteOf.f k bt200.1 bt200.2.1 bt200.2.2 x1).bind fun t207 => ((laws_eqIntS.f k t207 x6).bind fun t210 => (if t210 = true then ((laws_heldIntS.f k bt197.2 1).bind fun t211 => (if t211 < 0 then (some false) else (if t211 = bt197.1 then (some true) else (some false)))) else (some false))))) else (some false)))))
def laws_FnExactRouteOf.f (k : Nat) (a0_0 : Int) (l0_1 : List Int) (l0_2 : List Int) (a1 : Int) : Option (Bool) := (laws_szTable.f a0_0 l0_1 l0_2 1048576).bind fun t162 => (if t162 < 0 then (some true) else ((laws_toTable.f k a0_0 l0_1 l0_2).bind fun bt163 => ((spec_RouteOf.f k bt163.1 bt163.2.1 bt163.2.2 a1).bind fun t170 => ((laws_toTable.f k a0_0 l0_1 l0_2).bind fun bt173 => ((impl_RouteOf.f k bt173.1 bt173.2.1 bt173.2.2 a1).bind fun t181 => ((laws_eqIntS.f k t181 t170).bind fun t184 => (if t184 = true then ((laws_toTable.f k a0_0 l0_1 l0_2).bind fun bt185 => ((laws_eqTable.f k bt173.1 bt173.2.1 bt173.2.2 bt185.1 bt185.2.1 bt185.2.2).bind fun t192 => (if t192 = true then ((laws_markTable.f k bt173.1 bt173.2.1 bt173.2.2 1).bind fun bt193 => (if bt193.1 < 0 then (laws_FnExactRouteOf.j0 k a1 t170 t181 true a0_0 l0_1 l0_2) else ((laws_eqIntS.f k t181 t170).bind fun t196 => (laws_FnExactRouteOf.j0 k a1 t170 t181 (!t196) a0_0 l0_1 l0_2)))) else (some false)))) else (some false))))))))
theorem laws_FnExactRouteOf.mono_l : ∀ k, (∀ y0 y1 y2 y3 y4 y5 y6, LeO (laws_FnExactRouteOf.j0 k y0 y1 y2 y3 y4 y5 y6) (laws_FnExactRouteOf.j0 (k + 1) y0 y1 y2 y3 y4 y5 y6))
  | 0 => fun _ _ _ _ _ _ _ r h => by simp [laws_FnExactRouteOf.j0] at h
  | k + 1 => by
    have ih0 := laws_FnExactRouteOf.mono_l k
    · intro y0 y1 y2 y3 y4 y5 y6
      unfold laws_FnExactRouteOf.j0
      repeat' first
      | (with_reducible exact ih0 _ _ _ _ _ _ _)
      | (with_reducible exact impl_RouteOf.mono _ _ _ _ _)
      | (with_reducible exact laws_eqIntS.mono _ _ _)
      | (with_reducible exact laws_eqTable.mono _ _ _ _ _ _ _)
      | (with_reducible exact laws_heldIntS.mono _ _ _)
      | (with_reducible exact laws_markIntS.mono _ _ _)
      | (with_reducible exact laws_markTable.mono _ _ _ _ _)
      | (with_reducible exact laws_toTable.mono _ _ _ _)
      | (with_reducible exact spec_RouteOf.mono _ _ _ _ _)
      | (with_reducible exact LeO.refl _)
      | (with_reducible exact LeO.none _)
      | (with_reducible refine LeO.ite ?_ ?_)
      | (with_reducible refine LeO.bind ?_ (fun _ => ?_))
      | exact ih0 _ _ _ _ _ _ _
      | exact impl_RouteOf.mono _ _ _ _ _
      | exact laws_eqIntS.mono _ _ _
      | exact laws_eqTable.mono _ _ _ _ _ _ _
      | exact laws_heldIntS.mono _ _ _
      | exact laws_markIntS.mono _ _ _
      | exact laws_markTable.mono _ _ _ _ _
      | exact laws_toTable.mono _ _ _ _
      | exact spec_RouteOf.mono _ _ _ _ _
      | exact LeO.none _
      | refine LeO.ite ?_ ?_
      | refine LeO.bind ?_ (fun _ => ?_)
theorem laws_FnExactRouteOf.mono : ∀ a0 a1 a2 a3 k, LeO (laws_FnExactRouteOf.f k a0 a1 a2 a3) (laws_FnExactRouteOf.f (k + 1) a0 a1 a2 a3) := by
  intro a0 a1 a2 a3 k
  have ih0 := laws_FnExactRouteOf.mono_l k
  unfold laws_FnExactRouteOf.f
  repeat' first
      | (with_reducible exact ih0 _ _ _ _ _ _ _)
      | (with_reducible exact impl_RouteOf.mono _ _ _ _ _)
      | (with_reducible exact laws_eqIntS.mono _ _ _)
      | (with_reducible exact laws_eqTable.mono _ _ _ _ _ _ _)
      | (with_reducible exact laws_heldIntS.mono _ _ _)
      | (with_reducible exact laws_markIntS.mono _ _ _)
      | (with_reducible exact laws_markTable.mono _ _ _ _ _)
      | (with_reducible exact laws_toTable.mono _ _ _ _)
      | (with_reducible exact spec_RouteOf.mono _ _ _ _ _)
      | (with_reducible exact LeO.refl _)
      | (with_reducible exact LeO.none _)
      | (with_reducible refine LeO.ite ?_ ?_)
      | (with_reducible refine LeO.bind ?_ (fun _ => ?_))
      | exact ih0 _ _ _ _ _ _ _
      | exact impl_RouteOf.mono _ _ _ _ _
      | exact laws_eqIntS.mono _ _ _
      | exact laws_eqTable.mono _ _ _ _ _ _ _
      | exact laws_heldIntS.mono _ _ _
      | exact laws_markIntS.mono _ _ _
      | exact laws_markTable.mono _ _ _ _ _
      | exact laws_toTable.mono _ _ _ _
      | exact spec_RouteOf.mono _ _ _ _ _
      | exact LeO.none _
      | refine LeO.ite ?_ ?_
      | refine LeO.bind ?_ (fun _ => ?_)
set_option maxHeartbeats 8000000 in
set_option maxRecDepth 100000 in
theorem laws_FnExactRouteOf.calls (k : Nat) (a0_0 : Int) (A0_1 : Option Addr) (c0_1 : Nat) (l0_1 : List Int) (A0_2 : Option Addr) (c0_2 : Nat) (l0_2 : List Int) (a1 : Int) (r : Bool) (w : World) (hr0_1 : Kd.C (Kd.int .i64) w A0_1 l0_1.length l0_1) (hc0_1 : l0_1.length ≤ c0_1) (hr0_2 : Kd.C (Kd.int .i64) w A0_2 l0_2.length l0_2) (hc0_2 : l0_2.length ≤ c0_2) (h : laws_FnExactRouteOf.f k a0_0 l0_1 l0_2 a1 = some r) (hT_ : r = true := by rfl) :
    Calls Try.prog 3 #[.agg #[.int .i64 a0_0, .slice A0_1 l0_1.length c0_1, .slice A0_2 l0_2.length c0_2], .int .i64 a1] w fun e w' => e = .returned (.bool r) ∧ Below w.heap.size w w' := by
  have hu24 := Try.underlying24
  have hu27 := Try.underlying27
  have HR0_1 := Aside0.mk hr0_1
  have HC0_1 := Aside0.mk hc0_1
  clear hr0_1 hc0_1
  have HR0_2 := Aside0.mk hr0_2
  have HC0_2 := Aside0.mk hc0_2
  clear hr0_2 hc0_2
  have HB := Aside0.mk (Below.refl w.heap.size w)
  subst hT_
  have H := h
  clear h
  unfold laws_FnExactRouteOf.f at H
  replace H := Option.bind_eq_some_iff.mp H
  obtain ⟨t162, A30, H⟩ := H
  have A3 := Aside0.mk A30
  clear A30
  by_cases c4 : t162 < 0
  · rw [if_pos c4] at H
    have c4b0 : decide (t162 < 0) = true := decide_eq_true c4
    clear c4
    clear H
    go_enter Try.func3, Try.ntmps3
    go_wp2_with (first | ((with_reducible refine gate_dst (N := 2) rfl ?_); refine box_event ?hg (N := 2) ?hd (cs := #[.int .i64 a0_0, .slice A0_1 l0_1.length c0_1, .slice A0_2 l0_2.length c0_2]) (t := 24) ?hr ?_; (case hd => rfl); (case hg => rfl); (case hr => first | (go_simp; done) | (go_simp; rfl)); intro gb161 hg w5 hbox hb; have n0_ := Aside0.mk (below_step (by repeat (first | (with_reducible first | exact HB.out | apply below_alloc | apply pw_below_drewN | apply below_drew1) | exact HB.out)) hb); have n1_ := Aside0.mk (hbox); have n2_ := Aside0.mk ((by rw [hg]; exact (below_size (by repeat (first | (with_reducible first | exact HB.out | apply below_alloc | apply pw_below_drewN | apply below_drew1) | exact HB.out))) : w.heap.size ≤ gb161)); have n3_ := Aside0.mk ((by rw [hg]; exact (below_size (by repeat (first | (with_reducible first | exact HB.out | apply below_alloc | apply pw_below_drewN | apply below_drew1) | exact HB.out))) : w.heap.size ≤ gb161)); clear HB; have HB := n0_; have BK161 := n1_; have GW161 := n2_; have GE161 := n3_; clear n0_ n1_ n2_ n3_; clear hb hbox hg; have hcz6_0 : w5.cell? ⟨gb161, 0, none⟩ = some (.int .i64 a0_0) := (blk_cell BK161.out 0).trans rfl; have hcz6_1 : w5.cell? ⟨gb161, 1, none⟩ = some (.slice A0_1 l0_1.length c0_1) := (blk_cell BK161.out 1).trans rfl; have hcz6_2 : w5.cell? ⟨gb161, 2, none⟩ = some (.slice A0_2 l0_2.length c0_2) := (blk_cell BK161.out 2).trans rfl; have hfz6_0 := blk_frozen BK161.out 0; have hfz6_1 := blk_frozen BK161.out 1; have hfz6_2 := blk_frozen BK161.out 2) | ((with_reducible refine gate_callee (f := 15) rfl ?_); refine goesL_ (some 15) rfl rfl Try.func15 (by kernel_rfl) rfl #[.agg #[.int .i64 a0_0, .slice A0_1 l0_1.length c0_1, .slice A0_2 l0_2.length c0_2], .int .i64 1048576] rfl (by (try simp only [List.map_toArray, List.map_cons, List.map_nil]); first | done | rfl | (simp only [List.length_drop, List.length_take]; rfl)) ?_; (with_reducible refine (laws_szTable.calls a0_0 _ _ l0_1 _ _ l0_2 1048576 t162 _ ?side1 ?side2 ?side3 ?side4 A3.out).mono ?_); (case side1 => repeat (first | exact (Kd.C_below HR0_1.out HB.out) | (with_reducible refine Kd.C_alloc ?_ _) | (with_reducible refine Kd.C_drewN ?_ _) | (with_reducible refine Kd.C_drew ?_))); (case side2 => exact HC0_1.out); (case side3 => repeat (first | exact (Kd.C_below HR0_2.out HB.out) | (with_reducible refine Kd.C_alloc ?_ _) | (with_reducible refine Kd.C_drewN ?_ _) | (with_reducible refine Kd.C_drew ?_))); (case side4 => exact HC0_2.out); rintro e w7 ⟨rfl, hb⟩; refine ⟨_, rfl, ?_⟩; have n0_ := Aside0.mk (blk_below (g := gb161) (o := .cells #[.int .i64 a0_0, .slice A0_1 l0_1.length c0_1, .slice A0_2 l0_2.length c0_2] 24 (0, 0)) (by (with_reducible repeat (first | refine blk_drewN ?_ _ | refine blk_drew ?_ | refine blk_alloc ?_ _)); exact BK161.out) hb); have n1_ := Aside0.mk (below_step (by repeat (first | (with_reducible first | exact HB.out | apply below_alloc | apply pw_below_drewN | apply below_drew1 | refine below_set ?_ GE161.out) | exact HB.out)) hb); clear BK161; clear HB; have BK161 := n0_; have HB := n1_; clear n0_ n1_; (try clear hb); (try clear hb2); (try clear hk); (try clear hi)))
    go_ret
    exact ⟨by first | rfl | (simp [errW_none, errW_some] <;> rfl) | (simp [*, errW_none, errW_some] <;> rfl), by repeat (first | (with_reducible first | exact HB.out | apply below_alloc | apply pw_below_drewN | apply below_drew1 | refine below_set ?_ GE161.out) | exact HB.out)⟩
  · rw [if_neg c4] at H
    have c4b0 : decide (t162 < 0) = false := decide_eq_false c4
    clear c4
    replace H := Option.bind_eq_some_iff.mp H
    obtain ⟨⟨t163, t164, t167⟩, A80, H⟩ := H
    replace H : ((spec_RouteOf.f k t163 t164 t167 a1).bind fun t170 => ((laws_toTable.f k a0_0 l0_1 l0_2).bind fun bt173 => ((impl_RouteOf.f k bt173.1 bt173.2.1 bt173.2.2 a1).bind fun t181 => ((laws_eqIntS.f k t181 t170).bind fun t184 => (if t184 = true then ((laws_toTable.f k a0_0 l0_1 l0_2).bind fun bt185 => ((laws_eqTable.f k bt173.1 bt173.2.1 bt173.2.2 bt185.1 bt185.2.1 bt185.2.2).bind fun t192 => (if t192 = true then ((laws_markTable.f k bt173.1 bt173.2.1 bt173.2.2 1).bind fun bt193 => (if bt193.1 < 0 then (laws_FnExactRouteOf.j0 k a1 t170 t181 true a0_0 l0_1 l0_2) else ((laws_eqIntS.f k t181 t170).bind fun t196 => (laws_FnExactRouteOf.j0 k a1 t170 t181 (!t196) a0_0 l0_1 l0_2)))) else (some false)))) else (some false)))))) = some true := H
    have A8 := Aside0.mk A80
    clear A80
    replace H := Option.bind_eq_some_iff.mp H
    obtain ⟨t170, A90, H⟩ := H
    have A9 := Aside0.mk A90
    clear A90
    replace H := Option.bind_eq_some_iff.mp H
    obtain ⟨⟨t173, t174, t177⟩, A100, H⟩ := H
    replace H : ((impl_RouteOf.f k t173 t174 t177 a1).bind fun t181 => ((laws_eqIntS.f k t181 t170).bind fun t184 => (if t184 = true then ((laws_toTable.f k a0_0 l0_1 l0_2).bind fun bt185 => ((laws_eqTable.f k t173 t174 t177 bt185.1 bt185.2.1 bt185.2.2).bind fun t192 => (if t192 = true then ((laws_markTable.f k t173 t174 t177 1).bind fun bt193 => (if bt193.1 < 0 then (laws_FnExactRouteOf.j0 k a1 t170 t181 true a0_0 l0_1 l0_2) else ((laws_eqIntS.f k t181 t170).bind fun t196 => (laws_FnExactRouteOf.j0 k a1 t170 t181 (!t196) a0_0 l0_1 l0_2)))) else (some false)))) else (some false)))) = some true := H
    have A10 := Aside0.mk A100
    clear A100
    replace H := Option.bind_eq_some_iff.mp H
    obtain ⟨t181, A110, H⟩ := H
    have A11 := Aside0.mk A110
    clear A110
    replace H := Option.bind_eq_some_iff.mp H
    obtain ⟨t184, A120, H⟩ := H
    have A12 := Aside0.mk A120
    clear A120
    by_cases c13 : t184 = true
    · subst c13
      have H1 : ((laws_toTable.f k a0_0 l0_1 l0_2).bind fun bt185 => ((laws_eqTable.f k t173 t174 t177 bt185.1 bt185.2.1 bt185.2.2).bind fun t192 => (if t192 = true then ((laws_markTable.f k t173 t174 t177 1).bind fun bt193 => (if bt193.1 < 0 then (laws_FnExactRouteOf.j0 k a1 t170 t181 true a0_0 l0_1 l0_2) else ((laws_eqIntS.f k t181 t170).bind fun t196 => (laws_FnExactRouteOf.j0 k a1 t170 t181 (!t196) a0_0 l0_1 l0_2)))) else (some false)))) = some true := by first | (rw [if_pos rfl] at H; exact H) | rfl
      clear H
      have H := H1
      clear H1
      replace H := Option.bind_eq_some_iff.mp H
      obtain ⟨⟨t185, t186, t189⟩, A140, H⟩ := H
      replace H : ((laws_eqTable.f k t173 t174 t177 t185 t186 t189).bind fun t192 => (if t192 = true then ((laws_markTable.f k t173 t174 t177 1).bind fun bt193 => (if bt193.1 < 0 then (laws_FnExactRouteOf.j0 k a1 t170 t181 true a0_0 l0_1 l0_2) else ((laws_eqIntS.f k t181 t170).bind fun t196 => (laws_FnExactRouteOf.j0 k a1 t170 t181 (!t196) a0_0 l0_1 l0_2)))) else (some false))) = some true := H
      have A14 := Aside0.mk A140
      clear A140
      replace H := Option.bind_eq_some_iff.mp H
      obtain ⟨t192, A150, H⟩ := H
      have A15 := Aside0.mk A150
      clear A150
      by_cases c16 : t192 = true
      · subst c16
        have H1 : ((laws_markTable.f k t173 t174 t177 1).bind fun bt193 => (if bt193.1 < 0 then (laws_FnExactRouteOf.j0 k a1 t170 t181 true a0_0 l0_1 l0_2) else ((laws_eqIntS.f k t181 t170).bind fun t196 => (laws_FnExactRouteOf.j0 k a1 t170 t181 (!t196) a0_0 l0_1 l0_2)))) = some true := by first | (rw [if_pos rfl] at H; exact H) | rfl
        clear H
        have H := H1
        clear H1
        replace H := Option.bind_eq_some_iff.mp H
        obtain ⟨⟨t193, t194, t195⟩, A170, H⟩ := H
        replace H : (if t193 < 0 then (laws_FnExactRouteOf.j0 k a1 t170 t181 true a0_0 l0_1 l0_2) else ((laws_eqIntS.f k t181 t170).bind fun t196 => (laws_FnExactRouteOf.j0 k a1 t170 t181 (!t196) a0_0 l0_1 l0_2))) = some true := H
        have A17 := Aside0.mk A170
        clear A170
        have HC18 := Aside0.mk H
        clear H
        go_enter Try.func3, Try.ntmps3
        try go_wp2_with (first | ((with_reducible refine gate_dst (N := 2) rfl ?_); refine box_event ?hg (N := 2) ?hd (cs := #[.int .i64 a0_0, .slice A0_1 l0_1.length c0_1, .slice A0_2 l0_2.length c0_2]) (t := 24) ?hr ?_; (case hd => rfl); (case hg => rfl); (case hr => first | (go_simp; done) | (go_simp; rfl)); intro gb161 hg w19 hbox hb; have n0_ := Aside0.mk (below_step (by repeat (first | (with_reducible first | exact HB.out | apply below_alloc | apply pw_below_drewN | apply below_drew1) | exact HB.out)) hb); have n1_ := Aside0.mk (hbox); have n2_ := Aside0.mk ((by rw [hg]; exact (below_size (by repeat (first | (with_reducible first | exact HB.out | apply below_alloc | apply pw_below_drewN | apply below_drew1) | exact HB.out))) : w.heap.size ≤ gb161)); have n3_ := Aside0.mk ((by rw [hg]; exact (below_size (by repeat (first | (with_reducible first | exact HB.out | apply below_alloc | apply pw_below_drewN | apply below_drew1) | exact HB.out))) : w.heap.size ≤ gb161)); clear HB; have HB := n0_; have BK161 := n1_; have GW161 := n2_; have GE161 := n3_; clear n0_ n1_ n2_ n3_; clear hb hbox hg; have hcz20_0 : w19.cell? ⟨gb161, 0, none⟩ = some (.int .i64 a0_0) := (blk_cell BK161.out 0).trans rfl; have hcz20_1 : w19.cell? ⟨gb161, 1, none⟩ = some (.slice A0_1 l0_1.length c0_1) := (blk_cell BK161.out 1).trans rfl; have hcz20_2 : w19.cell? ⟨gb161, 2, none⟩ = some (.slice A0_2 l0_2.length c0_2) := (blk_cell BK161.out 2).trans rfl; have hfz20_0 := blk_frozen BK161.out 0; have hfz20_1 := blk_frozen BK161.out 1; have hfz20_2 := blk_frozen BK161.out 2) | ((with_reducible refine gate_callee (f := 15) rfl ?_); refine goesL_ (some 15) rfl rfl Try.func15 (by kernel_rfl) rfl #[.agg #[.int .i64 a0_0, .slice A0_1 l0_1.length c0_1, .slice A0_2 l0_2.length c0_2], .int .i64 1048576] rfl (by (try simp only [List.map_toArray, List.map_cons, List.map_nil]); first | done | rfl | (simp only [List.length_drop, List.length_take]; rfl)) ?_; (with_reducible refine (laws_szTable.calls a0_0 _ _ l0_1 _ _ l0_2 1048576 t162 _ ?side1 ?side2 ?side3 ?side4 A3.out).mono ?_); (case side1 => repeat (first | exact (Kd.C_below HR0_1.out HB.out) | (with_reducible refine Kd.C_alloc ?_ _) | (with_reducible refine Kd.C_drewN ?_ _) | (with_reducible refine Kd.C_drew ?_))); (case side2 => exact HC0_1.out); (case side3 => repeat (first | exact (Kd.C_below HR0_2.out HB.out) | (with_reducible refine Kd.C_alloc ?_ _) | (with_reducible refine Kd.C_drewN ?_ _) | (with_reducible refine Kd.C_drew ?_))); (case side4 => exact HC0_2.out); rintro e w21 ⟨rfl, hb⟩; refine ⟨_, rfl, ?_⟩; have n0_ := Aside0.mk (blk_below (g := gb161) (o := .cells #[.int .i64 a0_0, .slice A0_1 l0_1.length c0_1, .slice A0_2 l0_2.length c0_2] 24 (0, 0)) (by (with_reducible repeat (first | refine blk_drewN ?_ _ | refine blk_drew ?_ | refine blk_alloc ?_ _)); exact BK161.out) hb); have n1_ := Aside0.mk (below_step (by repeat (first | (with_reducible first | exact HB.out | apply below_alloc | apply pw_below_drewN | apply below_drew1 | refine below_set ?_ GE161.out) | exact HB.out)) hb); clear BK161; clear HB; have BK161 := n0_; have HB := n1_; clear n0_ n1_; (try clear hb); (try clear hb2); (try clear hk); (try clear hi); have hcz22_0 : w21.cell? ⟨gb161, 0, none⟩ = some (.int .i64 a0_0) := (blk_cell BK161.out 0).trans rfl; have hcz22_1 : w21.cell? ⟨gb161, 1, none⟩ = some (.slice A0_1 l0_1.length c0_1) := (blk_cell BK161.out 1).trans rfl; have hcz22_2 : w21.cell? ⟨gb161, 2, none⟩ = some (.slice A0_2 l0_2.length c0_2) := (blk_cell BK161.out 2).trans rfl; have hfz22_0 := blk_frozen BK161.out 0; have hfz22_1 := blk_frozen BK161.out 1; have hfz22_2 := blk_frozen BK161.out 2) | ((with_reducible refine gate_callee (f := 17) rfl ?_); refine goesL_ (some 19) rfl rfl Try.func17 (by kernel_rfl) rfl #[.agg #[.int .i64 a0_0, .slice A0_1 l0_1.length c0_1, .slice A0_2 l0_2.length c0_2]] rfl (by (try simp only [List.map_toArray, List.map_cons, List.map_nil]); first | done | rfl | (simp only [List.length_drop, List.length_take]; rfl)) ?_; (with_reducible refine (laws_toTable.calls k a0_0 _ _ l0_1 _ _ l0_2 t163 t164 t167 _ ?side1 ?side2 ?side3 ?side4 A8.out).mono ?_); (case side1 => repeat (first | exact (Kd.C_below HR0_1.out HB.out) | (with_reducible refine Kd.C_alloc ?_ _) | (with_reducible refine Kd.C_drewN ?_ _) | (with_reducible refine Kd.C_drew ?_))); (case side2 => exact HC0_1.out); (case side3 => repeat (first | exact (Kd.C_below HR0_2.out HB.out) | (with_reducible refine Kd.C_alloc ?_ _) | (with_reducible refine Kd.C_drewN ?_ _) | (with_reducible refine Kd.C_drew ?_))); (case side4 => exact HC0_2.out); rintro e w23 ⟨v165, v168, rfl, ho0, ho1, hb⟩; refine ⟨_, rfl, ?_⟩; have n0_ := Aside0.mk (Kd.R_lower ho0 (below_size (by repeat (first | (with_reducible first | exact HB.out | apply below_alloc | apply pw_below_drewN | apply below_drew1 | refine below_set ?_ GE161.out) | exact HB.out)))); have n1_ := Aside0.mk (Kd.R_lower ho1 (below_size (by repeat (first | (with_reducible first | exact HB.out | apply below_alloc | apply pw_below_drewN | apply below_drew1 | refine below_set ?_ GE161.out) | exact HB.out)))); have n2_ := Aside0.mk (blk_below (g := gb161) (o := .cells #[.int .i64 a0_0, .slice A0_1 l0_1.length c0_1, .slice A0_2 l0_2.length c0_2] 24 (0, 0)) (by (with_reducible repeat (first | refine blk_drewN ?_ _ | refine blk_drew ?_ | refine blk_alloc ?_ _)); exact BK161.out) hb); have n3_ := Aside0.mk (below_step (by repeat (first | (with_reducible first | exact HB.out | apply below_alloc | apply pw_below_drewN | apply below_drew1 | refine below_set ?_ GE161.out) | exact HB.out)) hb); clear BK161; clear HB; have HO166 := n0_; have HO169 := n1_; have BK161 := n2_; have HB := n3_; clear n0_ n1_ n2_ n3_; (try clear hb); (try clear hb2); (try clear hk); (try clear hi); (try clear ho0); (try clear ho1); obtain ⟨Ao24, co24, eo24⟩ := Kd.R_slice HO166.out; subst eo24; obtain ⟨Ao25, co25, eo25⟩ := Kd.R_slice HO169.out; subst eo25) | ((with_reducible refine gate_callee (f := 16) rfl ?_); refine goesL_ (some 21) rfl rfl Try.func16 (by kernel_rfl) rfl #[.agg #[.int .i64 t163, .slice Ao24 t164.length co24, .slice Ao25 t167.length co25], .int .i64 a1] rfl (by (try simp only [List.map_toArray, List.map_cons, List.map_nil]); first | done | rfl | (simp only [List.length_drop, List.length_take]; rfl)) ?_; (with_reducible refine (spec_RouteOf.calls k t163 _ _ t164 _ _ t167 a1 t170 _ ?side1 ?side2 ?side3 ?side4 A9.out).mono ?_); (case side1 => repeat (first | exact (Kd.R_reads' HO166.out).2.2 | (with_reducible refine Kd.C_alloc ?_ _) | (with_reducible refine Kd.C_drewN ?_ _) | (with_reducible refine Kd.C_drew ?_))); (case side2 => exact (Kd.R_reads' HO166.out).2.1); (case side3 => repeat (first | exact (Kd.R_reads' HO169.out).2.2 | (with_reducible refine Kd.C_alloc ?_ _) | (with_reducible refine Kd.C_drewN ?_ _) | (with_reducible refine Kd.C_drew ?_))); (case side4 => exact (Kd.R_reads' HO169.out).2.1); rintro e w26 ⟨v171, rfl, ho0, hb⟩; refine ⟨_, rfl, ?_⟩; have n0_ := Aside0.mk (Kd.R_elder' (by (with_reducible repeat (first | apply Kd.R_alloc | apply Kd.R_drewN | apply Kd.R_drew)); exact HO166.out) (Kd.R_base ho0) hb); have n1_ := Aside0.mk (Kd.R_elder' (by (with_reducible repeat (first | apply Kd.R_alloc | apply Kd.R_drewN | apply Kd.R_drew)); exact HO169.out) (Kd.R_base ho0) hb); have n2_ := Aside0.mk (Kd.R_lower (Kd.R_new' (Kd.R_new' ho0 (Kd.R_lt (by (with_reducible repeat (first | apply Kd.R_alloc | apply Kd.R_drewN | apply Kd.R_drew)); exact HO166.out))) (Kd.R_lt (by (with_reducible repeat (first | apply Kd.R_alloc | apply Kd.R_drewN | apply Kd.R_drew)); exact HO169.out))) (below_size (by repeat (first | (with_reducible first | exact HB.out | apply below_alloc | apply pw_below_drewN | apply below_drew1 | refine below_set ?_ GE161.out) | exact HB.out)))); have n3_ := Aside0.mk (blk_below (g := gb161) (o := .cells #[.int .i64 a0_0, .slice A0_1 l0_1.length c0_1, .slice A0_2 l0_2.length c0_2] 24 (0, 0)) (by (with_reducible repeat (first | refine blk_drewN ?_ _ | refine blk_drew ?_ | refine blk_alloc ?_ _)); exact BK161.out) hb); have n4_ := Aside0.mk (below_step (by repeat (first | (with_reducible first | exact HB.out | apply below_alloc | apply pw_below_drewN | apply below_drew1 | refine below_set ?_ GE161.out) | exact HB.out)) hb); clear HO166; clear HO169; clear BK161; clear HB; have HO166 := n0_; have HO169 := n1_; have HO172 := n2_; have BK161 := n3_; have HB := n4_; clear n0_ n1_ n2_ n3_ n4_; (try clear hb); (try clear hb2); (try clear hk); (try clear hi); (try clear ho0); have hcz27_0 : w26.cell? ⟨gb161, 0, none⟩ = some (.int .i64 a0_0) := (blk_cell BK161.out 0).trans rfl; have hcz27_1 : w26.cell? ⟨gb161, 1, none⟩ = some (.slice A0_1 l0_1.length c0_1) := (blk_cell BK161.out 1).trans rfl; have hcz27_2 : w26.cell? ⟨gb161, 2, none⟩ = some (.slice A0_2 l0_2.length c0_2) := (blk_cell BK161.out 2).trans rfl; have hfz27_0 := blk_frozen BK161.out 0; have hfz27_1 := blk_frozen BK161.out 1; have hfz27_2 := blk_frozen BK161.out 2) | ((with_reducible refine gate_callee (f := 17) rfl ?_); refine goesL_ (some 23) rfl rfl Try.func17 (by kernel_rfl) rfl #[.agg #[.int .i64 a0_0, .slice A0_1 l0_1.length c0_1, .slice A0_2 l0_2.length c0_2]] rfl (by (try simp only [List.map_toArray, List.map_cons, List.map_nil]); first | done | rfl | (simp only [List.length_drop, List.length_take]; rfl)) ?_; (with_reducible refine (laws_toTable.calls k a0_0 _ _ l0_1 _ _ l0_2 t173 t174 t177 _ ?side1 ?side2 ?side3 ?side4 A10.out).mono ?_); (case side1 => repeat (first | exact (Kd.C_below HR0_1.out HB.out) | (with_reducible refine Kd.C_alloc ?_ _) | (with_reducible refine Kd.C_drewN ?_ _) | (with_reducible refine Kd.C_drew ?_))); (case side2 => exact HC0_1.out); (case side3 => repeat (first | exact (Kd.C_below HR0_2.out HB.out) | (with_reducible refine Kd.C_alloc ?_ _) | (with_reducible refine Kd.C_drewN ?_ _) | (with_reducible refine Kd.C_drew ?_))); (case side4 => exact HC0_2.out); rintro e w28 ⟨v175, v178, rfl, ho0, ho1, hb⟩; refine ⟨_, rfl, ?_⟩; have n0_ := Aside0.mk (Kd.R_mono (Kd.R_told (Kd.R_told (Kd.R_old (by (with_reducible repeat (first | apply Kd.R_alloc | apply Kd.R_drewN | apply Kd.R_drew)); exact HO166.out) hb) (Kd.R_base ho0)) (Kd.R_base ho1)) (fun _ h_ => h_.1)); have n1_ := Aside0.mk (Kd.R_mono (Kd.R_told (Kd.R_told (Kd.R_old (by (with_reducible repeat (first | apply Kd.R_alloc | apply Kd.R_drewN | apply Kd.R_drew)); exact HO169.out) hb) (Kd.R_base ho0)) (Kd.R_base ho1)) (fun _ h_ => h_.1)); have n2_ := Aside0.mk (Kd.R_mono (Kd.R_told (Kd.R_told (Kd.R_old (by (with_reducible repeat (first | apply Kd.R_alloc | apply Kd.R_drewN | apply Kd.R_drew)); exact HO172.out) hb) (Kd.R_base ho0)) (Kd.R_base ho1)) (fun _ h_ => h_.1)); have n3_ := Aside0.mk (Kd.R_lower (Kd.R_new' (Kd.R_new' (Kd.R_new' ho0 (Kd.R_lt (by (with_reducible repeat (first | apply Kd.R_alloc | apply Kd.R_drewN | apply Kd.R_drew)); exact HO166.out))) (Kd.R_lt (by (with_reducible repeat (first | apply Kd.R_alloc | apply Kd.R_drewN | apply Kd.R_drew)); exact HO169.out))) (Kd.R_lt (by (with_reducible repeat (first | apply Kd.R_alloc | apply Kd.R_drewN | apply Kd.R_drew)); exact HO172.out))) (below_size (by repeat (first | (with_reducible first | exact HB.out | apply below_alloc | apply pw_below_drewN | apply below_drew1 | refine below_set ?_ GE161.out) | exact HB.out)))); have n4_ := Aside0.mk (Kd.R_lower (Kd.R_new' (Kd.R_new' (Kd.R_new' ho1 (Kd.R_lt (by (with_reducible repeat (first | apply Kd.R_alloc | apply Kd.R_drewN | apply Kd.R_drew)); exact HO166.out))) (Kd.R_lt (by (with_reducible repeat (first | apply Kd.R_alloc | apply Kd.R_drewN | apply Kd.R_drew)); exact HO169.out))) (Kd.R_lt (by (with_reducible repeat (first | apply Kd.R_alloc | apply Kd.R_drewN | apply Kd.R_drew)); exact HO172.out))) (below_size (by repeat (first | (with_reducible first | exact HB.out | apply below_alloc | apply pw_below_drewN | apply below_drew1 | refine below_set ?_ GE161.out) | exact HB.out)))); have n5_ := Aside0.mk (blk_below (g := gb161) (o := .cells #[.int .i64 a0_0, .slice A0_1 l0_1.length c0_1, .slice A0_2 l0_2.length c0_2] 24 (0, 0)) (by (with_reducible repeat (first | refine blk_drewN ?_ _ | refine blk_drew ?_ | refine blk_alloc ?_ _)); exact BK161.out) hb); have n6_ := Aside0.mk (below_step (by repeat (first | (with_reducible first | exact HB.out | apply below_alloc | apply pw_below_drewN | apply below_drew1 | refine below_set ?_ GE161.out) | exact HB.out)) hb); clear HO166; clear HO169; clear HO172; clear BK161; clear HB; have HO166 := n0_; have HO169 := n1_; have HO172 := n2_; have HO176 := n3_; have HO179 := n4_; have BK161 := n5_; have HB := n6_; clear n0_ n1_ n2_ n3_ n4_ n5_ n6_; (try clear hb); (try clear hb2); (try clear hk); (try clear hi); (try clear ho0); (try clear ho1)) | ((with_reducible refine gate_dst (N := 7) rfl ?_); refine box_event ?hg (N := 7) ?hd (cs := #[.int .i64 0, .slice none 0 0, .slice none 0 0]) (t := 27) ?hr ?_; (case hd => rfl); (case hg => rfl); (case hr => first | (go_simp; done) | (go_simp; rfl)); intro gb180 hg w29 hbox hb; have n0_ := Aside0.mk (Kd.R_below (by (with_reducible repeat (first | apply Kd.R_alloc | apply Kd.R_drewN | apply Kd.R_drew)); exact HO166.out) hb); have n1_ := Aside0.mk (Kd.R_below (by (with_reducible repeat (first | apply Kd.R_alloc | apply Kd.R_drewN | apply Kd.R_drew)); exact HO169.out) hb); have n2_ := Aside0.mk (Kd.R_below (by (with_reducible repeat (first | apply Kd.R_alloc | apply Kd.R_drewN | apply Kd.R_drew)); exact HO172.out) hb); have n3_ := Aside0.mk (Kd.R_below (by (with_reducible repeat (first | apply Kd.R_alloc | apply Kd.R_drewN | apply Kd.R_drew)); exact HO176.out) hb); have n4_ := Aside0.mk (Kd.R_below (by (with_reducible repeat (first | apply Kd.R_alloc | apply Kd.R_drewN | apply Kd.R_drew)); exact HO179.out) hb); have n5_ := Aside0.mk (blk_below (g := gb161) (o := .cells #[.int .i64 a0_0, .slice A0_1 l0_1.length c0_1, .slice A0_2 l0_2.length c0_2] 24 (0, 0)) (by (with_reducible repeat (first | refine blk_drewN ?_ _ | refine blk_drew ?_ | refine blk_alloc ?_ _)); exact BK161.out) hb); have n6_ := Aside0.mk (below_step (by repeat (first | (with_reducible first | exact HB.out | apply below_alloc | apply pw_below_drewN | apply below_drew1 | refine below_set ?_ GE161.out) | exact HB.out)) hb); have n7_ := Aside0.mk (hbox); have n8_ := Aside0.mk ((by rw [hg]; exact (below_size (by repeat (first | (with_reducible first | exact HB.out | apply below_alloc | apply pw_below_drewN | apply below_drew1 | refine below_set ?_ GE161.out) | exact HB.out))) : w.heap.size ≤ gb180)); have n9_ := Aside0.mk ((by rw [hg]; exact (below_size (by repeat (first | (with_reducible first | exact HB.out | apply below_alloc | apply pw_below_drewN | apply below_drew1 | refine below_set ?_ GE161.out) | exact HB.out))) : w.heap.size ≤ gb180)); have n10_ := Aside0.mk ((by rw [hg]; exact Nat.ne_of_lt (blk_lt (g := gb161) (o := .cells #[.int .i64 a0_0, .slice A0_1 l0_1.length c0_1, .slice A0_2 l0_2.length c0_2] 24 (0, 0)) (by (with_reducible repeat (first | refine blk_drewN ?_ _ | refine blk_drew ?_ | refine blk_alloc ?_ _)); exact BK161.out)) : gb161 ≠ gb180)); have n11_ := Aside0.mk ((by rw [hg]; exact Nat.ne_of_gt (blk_lt (g := gb161) (o := .cells #[.int .i64 a0_0, .slice A0_1 l0_1.length c0_1, .slice A0_2 l0_2.length c0_2] 24 (0, 0)) (by (with_reducible repeat (first | refine blk_drewN ?_ _ | refine blk_drew ?_ | refine blk_alloc ?_ _)); exact BK161.out)) : gb180 ≠ gb161)); clear HO166; clear HO169; clear HO172; clear HO176; clear HO179; clear BK161; clear HB; have HO166 := n0_; have HO169 := n1_; have HO172 := n2_; have HO176 := n3_; have HO179 := n4_; have BK161 := n5_; have HB := n6_; have BK180 := n7_; have GW180 := n8_; have GE180 := n9_; have NB161_180 := n10_; have NB180_161 := n11_; clear n0_ n1_ n2_ n3_ n4_ n5_ n6_ n7_ n8_ n9_ n10_ n11_; clear hb hbox hg; have hnb30 := NB180_161.out; have hnc30 := NB161_180.out; have hcz31_0 : w29.cell? ⟨gb180, 0, none⟩ = some (.int .i64 0) := (blk_cell BK180.out 0).trans rfl; have hcz31_1 : w29.cell? ⟨gb180, 1, none⟩ = some (.slice none 0 0) := (blk_cell BK180.out 1).trans rfl; have hcz31_2 : w29.cell? ⟨gb180, 2, none⟩ = some (.slice none 0 0) := (blk_cell BK180.out 2).trans rfl; have hfz31_0 := blk_frozen BK180.out 0; have hfz31_1 := blk_frozen BK180.out 1; have hfz31_2 := blk_frozen BK180.out 2; obtain ⟨Ao32, co32, eo32⟩ := Kd.R_slice HO176.out; subst eo32; obtain ⟨Ao33, co33, eo33⟩ := Kd.R_slice HO179.out; subst eo33) | ((with_reducible refine gate_callee (f := 18) rfl ?_); refine goesL_ (some 26) rfl rfl Try.func18 (by kernel_rfl) rfl #[.agg #[.int .i64 t173, .slice Ao32 t174.length co32, .slice Ao33 t177.length co33], .int .i64 a1] rfl (by (try simp only [List.map_toArray, List.map_cons, List.map_nil]); first | done | rfl | (simp only [List.length_drop, List.length_take]; rfl)) ?_; (with_reducible refine (impl_RouteOf.calls k t173 _ _ t174 _ _ t177 a1 t181 _ ?side1 ?side2 ?side3 ?side4 A11.out).mono ?_); (case side1 => refine (Kd.R_reads' (e := 3) (base := w.heap.size) (ok := fun k_ => (((some k_ ≠ (.slice Ao33 t177.length co33 : Value).ownBlock ∧ some k_ ≠ (.slice Ao24 t164.length co24 : Value).ownBlock) ∧ some k_ ≠ (.slice Ao25 t167.length co25 : Value).ownBlock) ∧ some k_ ≠ (v171 : Value).ownBlock)) (n := t174.length) (c := co32) ?_).2.2; exact (by (with_reducible repeat (first | apply Kd.R_alloc | apply Kd.R_drewN | apply Kd.R_drew)); exact (Kd.R_mono (Kd.R_far (p := ⟨gb180, 2, none⟩) (Kd.R_far (p := ⟨gb180, 1, none⟩) (Kd.R_far (p := ⟨gb180, 0, none⟩) (Kd.R_types HO176.out BK180.out (by decide)) (fun _ hk => (by revert hk; simp only [and_imp]; intros; assumption)) (.int .i64 t173)) (fun _ hk => (by revert hk; simp only [and_imp]; intros; assumption)) (.slice Ao32 t174.length co32)) (fun _ hk => (by revert hk; simp only [and_imp]; intros; assumption)) (.slice Ao33 t177.length co33)) (fun _ h_ => h_.1)))); (case side2 => exact (Kd.R_reads' HO176.out).2.1); (case side3 => refine (Kd.R_reads' (e := 3) (base := w.heap.size) (ok := fun k_ => (((some k_ ≠ (.slice Ao32 t174.length co32 : Value).ownBlock ∧ some k_ ≠ (.slice Ao24 t164.length co24 : Value).ownBlock) ∧ some k_ ≠ (.slice Ao25 t167.length co25 : Value).ownBlock) ∧ some k_ ≠ (v171 : Value).ownBlock)) (n := t177.length) (c := co33) ?_).2.2; exact (by (with_reducible repeat (first | apply Kd.R_alloc | apply Kd.R_drewN | apply Kd.R_drew)); exact (Kd.R_mono (Kd.R_far (p := ⟨gb180, 2, none⟩) (Kd.R_far (p := ⟨gb180, 1, none⟩) (Kd.R_far (p := ⟨gb180, 0, none⟩) (Kd.R_types HO179.out BK180.out (by decide)) (fun _ hk => (by revert hk; simp only [and_imp]; intros; assumption)) (.int .i64 t173)) (fun _ hk => (by revert hk; simp only [and_imp]; intros; assumption)) (.slice Ao32 t174.length co32)) (fun _ hk => (by revert hk; simp only [and_imp]; intros; assumption)) (.slice Ao33 t177.length co33)) (fun _ h_ => h_.1)))); (case side4 => exact (Kd.R_reads' HO179.out).2.1); rintro e w34 ⟨v182, rfl, ho0, hb⟩; refine ⟨_, rfl, ?_⟩; have n0_ := Aside0.mk (Kd.R_elder' (by (with_reducible repeat (first | apply Kd.R_alloc | apply Kd.R_drewN | apply Kd.R_drew)); exact (Kd.R_mono (Kd.R_far (p := ⟨gb180, 2, none⟩) (Kd.R_far (p := ⟨gb180, 1, none⟩) (Kd.R_far (p := ⟨gb180, 0, none⟩) (Kd.R_types HO166.out BK180.out (by decide)) (fun _ hk => (by revert hk; simp only [and_imp]; intros; assumption)) (.int .i64 t173)) (fun _ hk => (by revert hk; simp only [and_imp]; intros; assumption)) (.slice Ao32 t174.length co32)) (fun _ hk => (by revert hk; simp only [and_imp]; intros; assumption)) (.slice Ao33 t177.length co33)) (fun _ h_ => h_.1))) (Kd.R_base ho0) hb); have n1_ := Aside0.mk (Kd.R_elder' (by (with_reducible repeat (first | apply Kd.R_alloc | apply Kd.R_drewN | apply Kd.R_drew)); exact (Kd.R_mono (Kd.R_far (p := ⟨gb180, 2, none⟩) (Kd.R_far (p := ⟨gb180, 1, none⟩) (Kd.R_far (p := ⟨gb180, 0, none⟩) (Kd.R_types HO169.out BK180.out (by decide)) (fun _ hk => (by revert hk; simp only [and_imp]; intros; assumption)) (.int .i64 t173)) (fun _ hk => (by revert hk; simp only [and_imp]; intros; assumption)) (.slice Ao32 t174.length co32)) (fun _ hk => (by revert hk; simp only [and_imp]; intros; assumption)) (.slice Ao33 t177.length co33)) (fun _ h_ => h_.1))) (Kd.R_base ho0) hb); have n2_ := Aside0.mk (Kd.R_elder' (by (with_reducible repeat (first | apply Kd.R_alloc | apply Kd.R_drewN | apply Kd.R_drew)); exact (Kd.R_mono (Kd.R_far (p := ⟨gb180, 2, none⟩) (Kd.R_far (p := ⟨gb180, 1, none⟩) (Kd.R_far (p := ⟨gb180, 0, none⟩) (Kd.R_types HO172.out BK180.out (by decide)) (fun _ hk => (by revert hk; simp only [and_imp]; intros; assumption)) (.int .i64 t173)) (fun _ hk => (by revert hk; simp only [and_imp]; intros; assumption)) (.slice Ao32 t174.length co32)) (fun _ hk => (by revert hk; simp only [and_imp]; intros; assumption)) (.slice Ao33 t177.length co33)) (fun _ h_ => h_.1))) (Kd.R_base ho0) hb); have n3_ := Aside0.mk (Kd.R_elder' (by (with_reducible repeat (first | apply Kd.R_alloc | apply Kd.R_drewN | apply Kd.R_drew)); exact (Kd.R_mono (Kd.R_far (p := ⟨gb180, 2, none⟩) (Kd.R_far (p := ⟨gb180, 1, none⟩) (Kd.R_far (p := ⟨gb180, 0, none⟩) (Kd.R_types HO176.out BK180.out (by decide)) (fun _ hk => (by revert hk; simp only [and_imp]; intros; assumption)) (.int .i64 t173)) (fun _ hk => (by revert hk; simp only [and_imp]; intros; assumption)) (.slice Ao32 t174.length co32)) (fun _ hk => (by revert hk; simp only [and_imp]; intros; assumption)) (.slice Ao33 t177.length co33)) (fun _ h_ => h_.1))) (Kd.R_base ho0) hb); have n4_ := Aside0.mk (Kd.R_elder' (by (with_reducible repeat (first | apply Kd.R_alloc | apply Kd.R_drewN | apply Kd.R_drew)); exact (Kd.R_mono (Kd.R_far (p := ⟨gb180, 2, none⟩) (Kd.R_far (p := ⟨gb180, 1, none⟩) (Kd.R_far (p := ⟨gb180, 0, none⟩) (Kd.R_types HO179.out BK180.out (by decide)) (fun _ hk => (by revert hk; simp only [and_imp]; intros; assumption)) (.int .i64 t173)) (fun _ hk => (by revert hk; simp only [and_imp]; intros; assumption)) (.slice Ao32 t174.length co32)) (fun _ hk => (by revert hk; simp only [and_imp]; intros; assumption)) (.slice Ao33 t177.length co33)) (fun _ h_ => h_.1))) (Kd.R_base ho0) hb); have n5_ := Aside0.mk (Kd.R_lower (Kd.R_new' (Kd.R_new' (Kd.R_new' (Kd.R_new' (Kd.R_new' ho0 (Kd.R_lt (by (with_reducible repeat (first | apply Kd.R_alloc | apply Kd.R_drewN | apply Kd.R_drew)); exact (Kd.R_mono (Kd.R_far (p := ⟨gb180, 2, none⟩) (Kd.R_far (p := ⟨gb180, 1, none⟩) (Kd.R_far (p := ⟨gb180, 0, none⟩) (Kd.R_types HO166.out BK180.out (by decide)) (fun _ hk => (by revert hk; simp only [and_imp]; intros; assumption)) (.int .i64 t173)) (fun _ hk => (by revert hk; simp only [and_imp]; intros; assumption)) (.slice Ao32 t174.length co32)) (fun _ hk => (by revert hk; simp only [and_imp]; intros; assumption)) (.slice Ao33 t177.length co33)) (fun _ h_ => h_.1))))) (Kd.R_lt (by (with_reducible repeat (first | apply Kd.R_alloc | apply Kd.R_drewN | apply Kd.R_drew)); exact (Kd.R_mono (Kd.R_far (p := ⟨gb180, 2, none⟩) (Kd.R_far (p := ⟨gb180, 1, none⟩) (Kd.R_far (p := ⟨gb180, 0, none⟩) (Kd.R_types HO169.out BK180.out (by decide)) (fun _ hk => (by revert hk; simp only [and_imp]; intros; assumption)) (.int .i64 t173)) (fun _ hk => (by revert hk; simp only [and_imp]; intros; assumption)) (.slice Ao32 t174.length co32)) (fun _ hk => (by revert hk; simp only [and_imp]; intros; assumption)) (.slice Ao33 t177.length co33)) (fun _ h_ => h_.1))))) (Kd.R_lt (by (with_reducible repeat (first | apply Kd.R_alloc | apply Kd.R_drewN | apply Kd.R_drew)); exact (Kd.R_mono (Kd.R_far (p := ⟨gb180, 2, none⟩) (Kd.R_far (p := ⟨gb180, 1, none⟩) (Kd.R_far (p := ⟨gb180, 0, none⟩) (Kd.R_types HO172.out BK180.out (by decide)) (fun _ hk => (by revert hk; simp only [and_imp]; intros; assumption)) (.int .i64 t173)) (fun _ hk => (by revert hk; simp only [and_imp]; intros; assumption)) (.slice Ao32 t174.length co32)) (fun _ hk => (by revert hk; simp only [and_imp]; intros; assumption)) (.slice Ao33 t177.length co33)) (fun _ h_ => h_.1))))) (Kd.R_lt (by (with_reducible repeat (first | apply Kd.R_alloc | apply Kd.R_drewN | apply Kd.R_drew)); exact (Kd.R_mono (Kd.R_far (p := ⟨gb180, 2, none⟩) (Kd.R_far (p := ⟨gb180, 1, none⟩) (Kd.R_far (p := ⟨gb180, 0, none⟩) (Kd.R_types HO176.out BK180.out (by decide)) (fun _ hk => (by revert hk; simp only [and_imp]; intros; assumption)) (.int .i64 t173)) (fun _ hk => (by revert hk; simp only [and_imp]; intros; assumption)) (.slice Ao32 t174.length co32)) (fun _ hk => (by revert hk; simp only [and_imp]; intros; assumption)) (.slice Ao33 t177.length co33)) (fun _ h_ => h_.1))))) (Kd.R_lt (by (with_reducible repeat (first | apply Kd.R_alloc | apply Kd.R_drewN | apply Kd.R_drew)); exact (Kd.R_mono (Kd.R_far (p := ⟨gb180, 2, none⟩) (Kd.R_far (p := ⟨gb180, 1, none⟩) (Kd.R_far (p := ⟨gb180, 0, none⟩) (Kd.R_types HO179.out BK180.out (by decide)) (fun _ hk => (by revert hk; simp only [and_imp]; intros; assumption)) (.int .i64 t173)) (fun _ hk => (by revert hk; simp only [and_imp]; intros; assumption)) (.slice Ao32 t174.length co32)) (fun _ hk => (by revert hk; simp only [and_imp]; intros; assumption)) (.slice Ao33 t177.length co33)) (fun _ h_ => h_.1))))) (below_size (by repeat (first | (with_reducible first | exact HB.out | apply below_alloc | apply pw_below_drewN | apply below_drew1 | refine below_set ?_ GE161.out | refine below_set ?_ GE180.out) | exact HB.out)))); have n6_ := Aside0.mk (blk_below (g := gb161) (o := .cells #[.int .i64 a0_0, .slice A0_1 l0_1.length c0_1, .slice A0_2 l0_2.length c0_2] 24 (0, 0)) (by (with_reducible repeat (first | refine blk_drewN ?_ _ | refine blk_drew ?_ | refine blk_alloc ?_ _)); refine blk_far ?_ NB161_180.out _; (with_reducible repeat (first | refine blk_drewN ?_ _ | refine blk_drew ?_ | refine blk_alloc ?_ _)); refine blk_far ?_ NB161_180.out _; (with_reducible repeat (first | refine blk_drewN ?_ _ | refine blk_drew ?_ | refine blk_alloc ?_ _)); refine blk_far ?_ NB161_180.out _; (with_reducible repeat (first | refine blk_drewN ?_ _ | refine blk_drew ?_ | refine blk_alloc ?_ _)); exact BK161.out) hb); have n7_ := Aside0.mk (blk_below (g := gb180) (o := .cells #[.int .i64 t173, .slice Ao32 t174.length co32, .slice Ao33 t177.length co33] 27 (0, 0)) (by (with_reducible repeat (first | refine blk_drewN ?_ _ | refine blk_drew ?_ | refine blk_alloc ?_ _)); refine blk_put (cs := #[.int .i64 t173, .slice Ao32 t174.length co32, .slice none 0 0]) ?_ 2 _ rfl; (with_reducible repeat (first | refine blk_drewN ?_ _ | refine blk_drew ?_ | refine blk_alloc ?_ _)); refine blk_put (cs := #[.int .i64 t173, .slice none 0 0, .slice none 0 0]) ?_ 1 _ rfl; (with_reducible repeat (first | refine blk_drewN ?_ _ | refine blk_drew ?_ | refine blk_alloc ?_ _)); refine blk_put (cs := #[.int .i64 0, .slice none 0 0, .slice none 0 0]) ?_ 0 _ rfl; (with_reducible repeat (first | refine blk_drewN ?_ _ | refine blk_drew ?_ | refine blk_alloc ?_ _)); exact BK180.out) hb); have n8_ := Aside0.mk (below_step (by repeat (first | (with_reducible first | exact HB.out | apply below_alloc | apply pw_below_drewN | apply below_drew1 | refine below_set ?_ GE161.out | refine below_set ?_ GE180.out) | exact HB.out)) hb); clear HO166; clear HO169; clear HO172; clear HO176; clear HO179; clear BK161; clear BK180; clear HB; have HO166 := n0_; have HO169 := n1_; have HO172 := n2_; have HO176 := n3_; have HO179 := n4_; have HO183 := n5_; have BK161 := n6_; have BK180 := n7_; have HB := n8_; clear n0_ n1_ n2_ n3_ n4_ n5_ n6_ n7_ n8_; (try clear hb); (try clear hb2); (try clear hk); (try clear hi); (try clear ho0); obtain ⟨Ao35, co35, eo35⟩ := Kd.R_slice HO183.out; subst eo35; obtain ⟨Ao36, co36, eo36⟩ := Kd.R_slice HO172.out; subst eo36) | ((with_reducible refine gate_callee (f := 19) rfl ?_); refine goesL_ (some 29) rfl rfl Try.func19 (by kernel_rfl) rfl #[.slice Ao35 t181.length co35, .slice Ao36 t170.length co36] rfl (by (try simp only [List.map_toArray, List.map_cons, List.map_nil]); first | done | rfl | (simp only [List.length_drop, List.length_take]; rfl)) ?_; (with_reducible refine (laws_eqIntS.calls k _ _ t181 _ _ t170 true _ ?side1 ?side2 ?side3 ?side4 A12.out).mono ?_); (case side1 => repeat (first | exact (Kd.R_reads' HO183.out).2.2 | (with_reducible refine Kd.C_alloc ?_ _) | (with_reducible refine Kd.C_drewN ?_ _) | (with_reducible refine Kd.C_drew ?_))); (case side2 => exact (Kd.R_reads' HO183.out).2.1); (case side3 => repeat (first | exact (Kd.R_reads' HO172.out).2.2 | (with_reducible refine Kd.C_alloc ?_ _) | (with_reducible refine Kd.C_drewN ?_ _) | (with_reducible refine Kd.C_drew ?_))); (case side4 => exact (Kd.R_reads' HO172.out).2.1); rintro e w' ⟨rfl, ⟨nd, rfl⟩⟩; refine ⟨_, rfl, ?_⟩))
        (try (rw [drewN_self w34]; generalize hq_ : World.drewN w34 _ = w34; have n0_ : Aside0 (Kd.R (Kd.int .i64) 3 w34 w.heap.size (fun k_ => some k_ ≠ (.slice Ao25 t167.length co25 : Value).ownBlock ∧ some k_ ≠ (.slice Ao36 t170.length co36 : Value).ownBlock ∧ some k_ ≠ (.slice Ao32 t174.length co32 : Value).ownBlock ∧ some k_ ≠ (.slice Ao33 t177.length co33 : Value).ownBlock ∧ some k_ ≠ (.slice Ao35 t181.length co35 : Value).ownBlock) (.slice Ao24 t164.length co24) t164) := ⟨by rw [← hq_]; exact (by (with_reducible repeat (first | apply Kd.R_alloc | apply Kd.R_drewN | apply Kd.R_drew)); exact Kd.R_mono HO166.out (fun _ hk => ⟨(by revert hk; simp only [and_imp]; intros; assumption), ⟨(by revert hk; simp only [and_imp]; intros; assumption), ⟨(by revert hk; simp only [and_imp]; intros; assumption), ⟨(by revert hk; simp only [and_imp]; intros; assumption), (by revert hk; simp only [and_imp]; intros; assumption)⟩⟩⟩⟩))⟩; have n1_ : Aside0 (Kd.R (Kd.int .i64) 3 w34 w.heap.size (fun k_ => some k_ ≠ (.slice Ao24 t164.length co24 : Value).ownBlock ∧ some k_ ≠ (.slice Ao36 t170.length co36 : Value).ownBlock ∧ some k_ ≠ (.slice Ao32 t174.length co32 : Value).ownBlock ∧ some k_ ≠ (.slice Ao33 t177.length co33 : Value).ownBlock ∧ some k_ ≠ (.slice Ao35 t181.length co35 : Value).ownBlock) (.slice Ao25 t167.length co25) t167) := ⟨by rw [← hq_]; exact (by (with_reducible repeat (first | apply Kd.R_alloc | apply Kd.R_drewN | apply Kd.R_drew)); exact Kd.R_mono HO169.out (fun _ hk => ⟨(by revert hk; simp only [and_imp]; intros; assumption), ⟨(by revert hk; simp only [and_imp]; intros; assumption), ⟨(by revert hk; simp only [and_imp]; intros; assumption), ⟨(by revert hk; simp only [and_imp]; intros; assumption), (by revert hk; simp only [and_imp]; intros; assumption)⟩⟩⟩⟩))⟩; have n2_ : Aside0 (Kd.R (Kd.int .i64) 3 w34 w.heap.size (fun k_ => some k_ ≠ (.slice Ao24 t164.length co24 : Value).ownBlock ∧ some k_ ≠ (.slice Ao25 t167.length co25 : Value).ownBlock ∧ some k_ ≠ (.slice Ao32 t174.length co32 : Value).ownBlock ∧ some k_ ≠ (.slice Ao33 t177.length co33 : Value).ownBlock ∧ some k_ ≠ (.slice Ao35 t181.length co35 : Value).ownBlock) (.slice Ao36 t170.length co36) t170) := ⟨by rw [← hq_]; exact (by (with_reducible repeat (first | apply Kd.R_alloc | apply Kd.R_drewN | apply Kd.R_drew)); exact Kd.R_mono HO172.out (fun _ hk => ⟨(by revert hk; simp only [and_imp]; intros; assumption), ⟨(by revert hk; simp only [and_imp]; intros; assumption), ⟨(by revert hk; simp only [and_imp]; intros; assumption), ⟨(by revert hk; simp only [and_imp]; intros; assumption), (by revert hk; simp only [and_imp]; intros; assumption)⟩⟩⟩⟩))⟩; have n3_ : Aside0 (Kd.R (Kd.int .i64) 3 w34 w.heap.size (fun k_ => some k_ ≠ (.slice Ao24 t164.length co24 : Value).ownBlock ∧ some k_ ≠ (.slice Ao25 t167.length co25 : Value).ownBlock ∧ some k_ ≠ (.slice Ao36 t170.length co36 : Value).ownBlock ∧ some k_ ≠ (.slice Ao33 t177.length co33 : Value).ownBlock ∧ some k_ ≠ (.slice Ao35 t181.length co35 : Value).ownBlock) (.slice Ao32 t174.length co32) t174) := ⟨by rw [← hq_]; exact (by (with_reducible repeat (first | apply Kd.R_alloc | apply Kd.R_drewN | apply Kd.R_drew)); exact Kd.R_mono HO176.out (fun _ hk => ⟨(by revert hk; simp only [and_imp]; intros; assumption), ⟨(by revert hk; simp only [and_imp]; intros; assumption), ⟨(by revert hk; simp only [and_imp]; intros; assumption), ⟨(by revert hk; simp only [and_imp]; intros; assumption), (by revert hk; simp only [and_imp]; intros; assumption)⟩⟩⟩⟩))⟩; have n4_ : Aside0 (Kd.R (Kd.int .i64) 3 w34 w.heap.size (fun k_ => some k_ ≠ (.slice Ao24 t164.length co24 : Value).ownBlock ∧ some k_ ≠ (.slice Ao25 t167.length co25 : Value).ownBlock ∧ some k_ ≠ (.slice Ao36 t170.length co36 : Value).ownBlock ∧ some k_ ≠ (.slice Ao32 t174.length co32 : Value).ownBlock ∧ some k_ ≠ (.slice Ao35 t181.length co35 : Value).ownBlock) (.slice Ao33 t177.length co33) t177) := ⟨by rw [← hq_]; exact (by (with_reducible repeat (first | apply Kd.R_alloc | apply Kd.R_drewN | apply Kd.R_drew)); exact Kd.R_mono HO179.out (fun _ hk => ⟨(by revert hk; simp only [and_imp]; intros; assumption), ⟨(by revert hk; simp only [and_imp]; intros; assumption), ⟨(by revert hk; simp only [and_imp]; intros; assumption), ⟨(by revert hk; simp only [and_imp]; intros; assumption), (by revert hk; simp only [and_imp]; intros; assumption)⟩⟩⟩⟩))⟩; have n5_ : Aside0 (Kd.R (Kd.int .i64) 3 w34 w.heap.size (fun k_ => some k_ ≠ (.slice Ao24 t164.length co24 : Value).ownBlock ∧ some k_ ≠ (.slice Ao25 t167.length co25 : Value).ownBlock ∧ some k_ ≠ (.slice Ao36 t170.length co36 : Value).ownBlock ∧ some k_ ≠ (.slice Ao32 t174.length co32 : Value).ownBlock ∧ some k_ ≠ (.slice Ao33 t177.length co33 : Value).ownBlock) (.slice Ao35 t181.length co35) t181) := ⟨by rw [← hq_]; exact (by (with_reducible repeat (first | apply Kd.R_alloc | apply Kd.R_drewN | apply Kd.R_drew)); exact Kd.R_mono HO183.out (fun _ hk => ⟨(by revert hk; simp only [and_imp]; intros; assumption), ⟨(by revert hk; simp only [and_imp]; intros; assumption), ⟨(by revert hk; simp only [and_imp]; intros; assumption), ⟨(by revert hk; simp only [and_imp]; intros; assumption), (by revert hk; simp only [and_imp]; intros; assumption)⟩⟩⟩⟩))⟩; have n6_ : Aside0 (w34.heap[gb161]? = some (.cells #[.int .i64 a0_0, .slice A0_1 l0_1.length c0_1, .slice A0_2 l0_2.length c0_2] 24 (0, 0))) := ⟨by rw [← hq_]; exact (by (with_reducible repeat (first | refine blk_drewN ?_ _ | refine blk_drew ?_ | refine blk_alloc ?_ _)); exact BK161.out)⟩; have n7_ : Aside0 (w34.heap[gb180]? = some (.cells #[.int .i64 t173, .slice Ao32 t174.length co32, .slice Ao33 t177.length co33] 27 (0, 0))) := ⟨by rw [← hq_]; exact (by (with_reducible repeat (first | refine blk_drewN ?_ _ | refine blk_drew ?_ | refine blk_alloc ?_ _)); exact BK180.out)⟩; have n8_ : Aside0 (Below w.heap.size w w34) := ⟨by rw [← hq_]; exact (by repeat (first | (with_reducible first | exact HB.out | apply below_alloc | apply pw_below_drewN | apply below_drew1 | refine below_set ?_ GE161.out | refine below_set ?_ GE180.out) | exact HB.out))⟩; clear HO166 HO169 HO172 HO176 HO179 HO183 BK161 BK180 HB hq_; have HO166 := n0_; have HO169 := n1_; have HO172 := n2_; have HO176 := n3_; have HO179 := n4_; have HO183 := n5_; have BK161 := n6_; have BK180 := n7_; have HB := n8_; clear n0_ n1_ n2_ n3_ n4_ n5_ n6_ n7_ n8_))
        have n0_ := Aside0.mk (Kd.R_drew HO166.out)
        have n1_ := Aside0.mk (Kd.R_drew HO169.out)
        have n2_ := Aside0.mk (Kd.R_drew HO172.out)
        have n3_ := Aside0.mk (Kd.R_drew HO176.out)
        have n4_ := Aside0.mk (Kd.R_drew HO179.out)
        have n5_ := Aside0.mk (Kd.R_drew HO183.out)
        have n6_ := Aside0.mk (blk_drew BK161.out)
        have n7_ := Aside0.mk (blk_drew BK180.out)
        have n8_ := Aside0.mk (below_drew1 HB.out)
        clear HO166
        clear HO169
        clear HO172
        clear HO176
        clear HO179
        clear HO183
        clear BK161
        clear BK180
        clear HB
        have HO166 := n0_
        have HO169 := n1_
        have HO172 := n2_
        have HO176 := n3_
        have HO179 := n4_
        have HO183 := n5_
        have BK161 := n6_
        have BK180 := n7_
        have HB := n8_
        clear n0_ n1_ n2_ n3_ n4_ n5_ n6_ n7_ n8_
        refine start_ (n := 5) (S := fun w' => w'.cell? ⟨gb180, 0, none⟩ = some (.int .i64 t173) ∧ w'.cell? ⟨gb180, 1, none⟩ = some (.slice Ao32 t174.length co32) ∧ w'.cell? ⟨gb180, 2, none⟩ = some (.slice Ao33 t177.length co33) ∧ w'.cell? ⟨gb161, 0, none⟩ = some (.int .i64 a0_0) ∧ w'.cell? ⟨gb161, 1, none⟩ = some (.slice A0_1 l0_1.length c0_1) ∧ w'.cell? ⟨gb161, 2, none⟩ = some (.slice A0_2 l0_2.length c0_2)) (ds := []) #[false, false, false, false, false] (by kernel_rfl) rfl rfl ⟨(blk_cell BK180.out 0).trans rfl, (blk_cell BK180.out 1).trans rfl, (blk_cell BK180.out 2).trans rfl, (blk_cell BK161.out 0).trans rfl, (blk_cell BK161.out 1).trans rfl, (blk_cell BK161.out 2).trans rfl⟩ (fun hHeld => ?_)
        generalize w34.drew = w37 at HO166 HO169 HO172 HO176 HO179 HO183 BK161 BK180 HB hHeld ⊢
        refine take_ (i := 0) (N := some 31) (v := ?_) (a' := ?_) #[true, false, false, false, false] rfl rfl (by kernel_rfl) (fun _ _ _ h => h) (Or.inl ⟨by rfl, ?_⟩) hHeld ?_ ?_
        rotate_left
        · rintro w' ⟨s0, s1, s2, s3, s4, s5⟩
          go_simp
          with_reducible rfl
        rotate_left
        · simp only [Act.put, List.setIfInBounds_toArray, List.set_cons_zero, List.set_cons_succ, i64_w, i32_w]
          rfl
        refine take_ (i := 1) (N := some 32) (v := ?_) (a' := ?_) #[true, true, false, false, false] rfl rfl (by kernel_rfl) (fun _ _ _ h => h) (Or.inl ⟨by rfl, ?_⟩) hHeld ?_ ?_
        rotate_left
        · rintro w' ⟨s0, s1, s2, s3, s4, s5⟩
          go_simp
          with_reducible rfl
        rotate_left
        · simp only [Act.put, List.setIfInBounds_toArray, List.set_cons_zero, List.set_cons_succ, i64_w, i32_w]
          rfl
        refine one_ (i := 2) (N := some 33) #[true, true, true, false, false] rfl rfl (by kernel_rfl) (by decide) (fun K hK => ?_)
        refine goes_ Try.func17 (by kernel_rfl) rfl #[.agg #[.int .i64 a0_0, .slice A0_1 l0_1.length c0_1, .slice A0_2 l0_2.length c0_2]] (by rfl) rfl rfl (by (try simp only [List.map_toArray, List.map_cons, List.map_nil]); first | done | rfl | (simp only [List.length_drop, List.length_take]; rfl)) ?_
        with_reducible refine (laws_toTable.calls k a0_0 _ _ l0_1 _ _ l0_2 t185 t186 t189 _ ?side1 ?side2 ?side3 ?side4 A14.out).mono ?_
        (case side1 => repeat (first | exact (Kd.C_below HR0_1.out HB.out) | (with_reducible refine Kd.C_alloc ?_ _) | (with_reducible refine Kd.C_drewN ?_ _) | (with_reducible refine Kd.C_drew ?_)))
        (case side2 => exact HC0_1.out)
        (case side3 => repeat (first | exact (Kd.C_below HR0_2.out HB.out) | (with_reducible refine Kd.C_alloc ?_ _) | (with_reducible refine Kd.C_drewN ?_ _) | (with_reducible refine Kd.C_drew ?_)))
        (case side4 => exact HC0_2.out)
        rintro e w38 ⟨v187, v190, rfl, ho0, ho1, hb⟩
        refine ⟨_, rfl, ?_⟩
        have n0_ := Aside0.mk (Kd.R_mono (Kd.R_told (Kd.R_told (Kd.R_old (by (with_reducible repeat (first | apply Kd.R_alloc | apply Kd.R_drewN | apply Kd.R_drew)); exact HO166.out) hb) (Kd.R_base ho0)) (Kd.R_base ho1)) (fun _ h_ => h_.1))
        have n1_ := Aside0.mk (Kd.R_mono (Kd.R_told (Kd.R_told (Kd.R_old (by (with_reducible repeat (first | apply Kd.R_alloc | apply Kd.R_drewN | apply Kd.R_drew)); exact HO169.out) hb) (Kd.R_base ho0)) (Kd.R_base ho1)) (fun _ h_ => h_.1))
        have n2_ := Aside0.mk (Kd.R_mono (Kd.R_told (Kd.R_told (Kd.R_old (by (with_reducible repeat (first | apply Kd.R_alloc | apply Kd.R_drewN | apply Kd.R_drew)); exact HO172.out) hb) (Kd.R_base ho0)) (Kd.R_base ho1)) (fun _ h_ => h_.1))
        have n3_ := Aside0.mk (Kd.R_mono (Kd.R_told (Kd.R_told (Kd.R_old (by (with_reducible repeat (first | apply Kd.R_alloc | apply Kd.R_drewN | apply Kd.R_drew)); exact HO176.out) hb) (Kd.R_base ho0)) (Kd.R_base ho1)) (fun _ h_ => h_.1))
        have n4_ := Aside0.mk (Kd.R_mono (Kd.R_told (Kd.R_told (Kd.R_old (by (with_reducible repeat (first | apply Kd.R_alloc | apply Kd.R_drewN | apply Kd.R_drew)); exact HO179.out) hb) (Kd.R_base ho0)) (Kd.R_base ho1)) (fun _ h_ => h_.1))
        have n5_ := Aside0.mk (Kd.R_mono (Kd.R_told (Kd.R_told (Kd.R_old (by (with_reducible repeat (first | apply Kd.R_alloc | apply Kd.R_drewN | apply Kd.R_drew)); exact HO183.out) hb) (Kd.R_base ho0)) (Kd.R_base ho1)) (fun _ h_ => h_.1))
        have n6_ := Aside0.mk (Kd.R_lower (Kd.R_new' (Kd.R_new' (Kd.R_new' (Kd.R_new' (Kd.R_new' (Kd.R_new' ho0 (Kd.R_lt (by (with_reducible repeat (first | apply Kd.R_alloc | apply Kd.R_drewN | apply Kd.R_drew)); exact HO166.out))) (Kd.R_lt (by (with_reducible repeat (first | apply Kd.R_alloc | apply Kd.R_drewN | apply Kd.R_drew)); exact HO169.out))) (Kd.R_lt (by (with_reducible repeat (first | apply Kd.R_alloc | apply Kd.R_drewN | apply Kd.R_drew)); exact HO172.out))) (Kd.R_lt (by (with_reducible repeat (first | apply Kd.R_alloc | apply Kd.R_drewN | apply Kd.R_drew)); exact HO176.out))) (Kd.R_lt (by (with_reducible repeat (first | apply Kd.R_alloc | apply Kd.R_drewN | apply Kd.R_drew)); exact HO179.out))) (Kd.R_lt (by (with_reducible repeat (first | apply Kd.R_alloc | apply Kd.R_drewN | apply Kd.R_drew)); exact HO183.out))) (below_size (by repeat (first | (with_reducible first | exact HB.out | apply below_alloc | apply pw_below_drewN | apply below_drew1 | refine below_set ?_ GE161.out | refine below_set ?_ GE180.out) | exact HB.out))))
        have n7_ := Aside0.mk (Kd.R_lower (Kd.R_new' (Kd.R_new' (Kd.R_new' (Kd.R_new' (Kd.R_new' (Kd.R_new' ho1 (Kd.R_lt (by (with_reducible repeat (first | apply Kd.R_alloc | apply Kd.R_drewN | apply Kd.R_drew)); exact HO166.out))) (Kd.R_lt (by (with_reducible repeat (first | apply Kd.R_alloc | apply Kd.R_drewN | apply Kd.R_drew)); exact HO169.out))) (Kd.R_lt (by (with_reducible repeat (first | apply Kd.R_alloc | apply Kd.R_drewN | apply Kd.R_drew)); exact HO172.out))) (Kd.R_lt (by (with_reducible repeat (first | apply Kd.R_alloc | apply Kd.R_drewN | apply Kd.R_drew)); exact HO176.out))) (Kd.R_lt (by (with_reducible repeat (first | apply Kd.R_alloc | apply Kd.R_drewN | apply Kd.R_drew)); exact HO179.out))) (Kd.R_lt (by (with_reducible repeat (first | apply Kd.R_alloc | apply Kd.R_drewN | apply Kd.R_drew)); exact HO183.out))) (below_size (by repeat (first | (with_reducible first | exact HB.out | apply below_alloc | apply pw_below_drewN | apply below_drew1 | refine below_set ?_ GE161.out | refine below_set ?_ GE180.out) | exact HB.out))))
        have n8_ := Aside0.mk (blk_below (g := gb161) (o := .cells #[.int .i64 a0_0, .slice A0_1 l0_1.length c0_1, .slice A0_2 l0_2.length c0_2] 24 (0, 0)) (by (with_reducible repeat (first | refine blk_drewN ?_ _ | refine blk_drew ?_ | refine blk_alloc ?_ _)); exact BK161.out) hb)
        have n9_ := Aside0.mk (blk_below (g := gb180) (o := .cells #[.int .i64 t173, .slice Ao32 t174.length co32, .slice Ao33 t177.length co33] 27 (0, 0)) (by (with_reducible repeat (first | refine blk_drewN ?_ _ | refine blk_drew ?_ | refine blk_alloc ?_ _)); exact BK180.out) hb)
        have n10_ := Aside0.mk (below_step (by repeat (first | (with_reducible first | exact HB.out | apply below_alloc | apply pw_below_drewN | apply below_drew1 | refine below_set ?_ GE161.out | refine below_set ?_ GE180.out) | exact HB.out)) hb)
        clear HO166
        clear HO169
        clear HO172
        clear HO176
        clear HO179
        clear HO183
        clear BK161
        clear BK180
        clear HB
        have HO166 := n0_
        have HO169 := n1_
        have HO172 := n2_
        have HO176 := n3_
        have HO179 := n4_
        have HO183 := n5_
        have HO188 := n6_
        have HO191 := n7_
        have BK161 := n8_
        have BK180 := n9_
        have HB := n10_
        clear n0_ n1_ n2_ n3_ n4_ n5_ n6_ n7_ n8_ n9_ n10_
        (try clear hb)
        (try clear hb2)
        (try clear hk)
        (try clear hi)
        (try clear ho0)
        (try clear ho1)
        obtain ⟨Ao39, co39, eo39⟩ := Kd.R_slice HO188.out
        (first | subst eo39 | (injection eo39 with f1_ f2_ f3_; have f4_ := f1_.symm; have f5_ := f3_.symm; clear f1_ f2_ f3_; subst f4_; subst f5_))
        obtain ⟨Ao40, co40, eo40⟩ := Kd.R_slice HO191.out
        (first | subst eo40 | (injection eo40 with f1_ f2_ f3_; have f4_ := f1_.symm; have f5_ := f3_.symm; clear f1_ f2_ f3_; subst f4_; subst f5_))
        refine hK.out _ _ ⟨(blk_cell BK180.out 0).trans rfl, (blk_cell BK180.out 1).trans rfl, (blk_cell BK180.out 2).trans rfl, (blk_cell BK161.out 0).trans rfl, (blk_cell BK161.out 1).trans rfl, (blk_cell BK161.out 2).trans rfl⟩ (fun hHeld => ?_)
        clear hK K
        refine norm_ (a' := ?_) ?_ ?_
        rotate_left
        · show Act.put _ (some 33) _ = _
          simp only [Act.put, List.setIfInBounds_toArray, List.set_cons_zero, List.set_cons_succ, i64_w, i32_w]
          rfl
        refine one_ (i := 3) (N := some 34) #[true, true, true, true, false] rfl rfl (by kernel_rfl) (by decide) (fun K hK => ?_)
        refine goes_ Try.func20 (by kernel_rfl) rfl #[.agg #[.int .i64 t173, .slice Ao32 t174.length co32, .slice Ao33 t177.length co33], .agg #[.int .i64 t185, .slice Ao39 t186.length co39, .slice Ao40 t189.length co40]] (by rfl) rfl rfl (by (try simp only [List.map_toArray, List.map_cons, List.map_nil]); first | done | rfl | (simp only [List.length_drop, List.length_take]; rfl)) ?_
        with_reducible refine (laws_eqTable.calls k t173 _ _ t174 _ _ t177 t185 _ _ t186 _ _ t189 true _ ?side1 ?side2 ?side3 ?side4 ?side5 ?side6 ?side7 ?side8 A15.out).mono ?_
        (case side1 => repeat (first | exact (Kd.R_reads' HO176.out).2.2 | (with_reducible refine Kd.C_alloc ?_ _) | (with_reducible refine Kd.C_drewN ?_ _) | (with_reducible refine Kd.C_drew ?_)))
        (case side2 => exact (Kd.R_reads' HO176.out).2.1)
        (case side3 => repeat (first | exact (Kd.R_reads' HO179.out).2.2 | (with_reducible refine Kd.C_alloc ?_ _) | (with_reducible refine Kd.C_drewN ?_ _) | (with_reducible refine Kd.C_drew ?_)))
        (case side4 => exact (Kd.R_reads' HO179.out).2.1)
        (case side5 => repeat (first | exact (Kd.R_reads' HO188.out).2.2 | (with_reducible refine Kd.C_alloc ?_ _) | (with_reducible refine Kd.C_drewN ?_ _) | (with_reducible refine Kd.C_drew ?_)))
        (case side6 => exact (Kd.R_reads' HO188.out).2.1)
        (case side7 => repeat (first | exact (Kd.R_reads' HO191.out).2.2 | (with_reducible refine Kd.C_alloc ?_ _) | (with_reducible refine Kd.C_drewN ?_ _) | (with_reducible refine Kd.C_drew ?_)))
        (case side8 => exact (Kd.R_reads' HO191.out).2.1)
        rintro e w41 ⟨rfl, hb⟩
        refine ⟨_, rfl, ?_⟩
        have n0_ := Aside0.mk (Kd.R_below (by (with_reducible repeat (first | apply Kd.R_alloc | apply Kd.R_drewN | apply Kd.R_drew)); exact HO166.out) hb)
        have n1_ := Aside0.mk (Kd.R_below (by (with_reducible repeat (first | apply Kd.R_alloc | apply Kd.R_drewN | apply Kd.R_drew)); exact HO169.out) hb)
        have n2_ := Aside0.mk (Kd.R_below (by (with_reducible repeat (first | apply Kd.R_alloc | apply Kd.R_drewN | apply Kd.R_drew)); exact HO172.out) hb)
        have n3_ := Aside0.mk (Kd.R_below (by (with_reducible repeat (first | apply Kd.R_alloc | apply Kd.R_drewN | apply Kd.R_drew)); exact HO176.out) hb)
        have n4_ := Aside0.mk (Kd.R_below (by (with_reducible repeat (first | apply Kd.R_alloc | apply Kd.R_drewN | apply Kd.R_drew)); exact HO179.out) hb)
        have n5_ := Aside0.mk (Kd.R_below (by (with_reducible repeat (first | apply Kd.R_alloc | apply Kd.R_drewN | apply Kd.R_drew)); exact HO183.out) hb)
        have n6_ := Aside0.mk (Kd.R_below (by (with_reducible repeat (first | apply Kd.R_alloc | apply Kd.R_drewN | apply Kd.R_drew)); exact HO188.out) hb)
        have n7_ := Aside0.mk (Kd.R_below (by (with_reducible repeat (first | apply Kd.R_alloc | apply Kd.R_drewN | apply Kd.R_drew)); exact HO191.out) hb)
        have n8_ := Aside0.mk (blk_below (g := gb161) (o := .cells #[.int .i64 a0_0, .slice A0_1 l0_1.length c0_1, .slice A0_2 l0_2.length c0_2] 24 (0, 0)) (by (with_reducible repeat (first | refine blk_drewN ?_ _ | refine blk_drew ?_ | refine blk_alloc ?_ _)); exact BK161.out) hb)
        have n9_ := Aside0.mk (blk_below (g := gb180) (o := .cells #[.int .i64 t173, .slice Ao32 t174.length co32, .slice Ao33 t177.length co33] 27 (0, 0)) (by (with_reducible repeat (first | refine blk_drewN ?_ _ | refine blk_drew ?_ | refine blk_alloc ?_ _)); exact BK180.out) hb)
        have n10_ := Aside0.mk (below_step (by repeat (first | (with_reducible first | exact HB.out | apply below_alloc | apply pw_below_drewN | apply below_drew1 | refine below_set ?_ GE161.out | refine below_set ?_ GE180.out) | exact HB.out)) hb)
        clear HO166
        clear HO169
        clear HO172
        clear HO176
        clear HO179
        clear HO183
        clear HO188
        clear HO191
        clear BK161
        clear BK180
        clear HB
        have HO166 := n0_
        have HO169 := n1_
        have HO172 := n2_
        have HO176 := n3_
        have HO179 := n4_
        have HO183 := n5_
        have HO188 := n6_
        have HO191 := n7_
        have BK161 := n8_
        have BK180 := n9_
        have HB := n10_
        clear n0_ n1_ n2_ n3_ n4_ n5_ n6_ n7_ n8_ n9_ n10_
        (try clear hb)
        (try clear hb2)
        (try clear hk)
        (try clear hi)
        refine hK.out _ _ ⟨(blk_cell BK180.out 0).trans rfl, (blk_cell BK180.out 1).trans rfl, (blk_cell BK180.out 2).trans rfl, (blk_cell BK161.out 0).trans rfl, (blk_cell BK161.out 1).trans rfl, (blk_cell BK161.out 2).trans rfl⟩ (fun hHeld => ?_)
        clear hK K
        refine norm_ (a' := ?_) ?_ ?_
        rotate_left
        · show Act.put _ (some 34) _ = _
          simp only [Act.put, List.setIfInBounds_toArray, List.set_cons_zero, List.set_cons_succ, i64_w, i32_w]
          rfl
        refine pure_ (i := 4) (N := some 35) (v := ?_) (a' := ?_) #[true, true, true, true, true] rfl rfl (by kernel_rfl) (fun _ _ _ h => h) (Or.inl ⟨by rfl, ?_⟩) ?_ ?_
        rotate_left
        · intro w'
          go_simp
          with_reducible rfl
        rotate_left
        · simp only [Act.put, List.setIfInBounds_toArray, List.set_cons_zero, List.set_cons_succ, i64_w, i32_w]
          rfl
        refine done_ (by kernel_rfl) ?_
        have hcz42_0 : w41.cell? ⟨gb180, 0, none⟩ = some (.int .i64 t173) := (blk_cell BK180.out 0).trans rfl
        have hcz42_1 : w41.cell? ⟨gb180, 1, none⟩ = some (.slice Ao32 t174.length co32) := (blk_cell BK180.out 1).trans rfl
        have hcz42_2 : w41.cell? ⟨gb180, 2, none⟩ = some (.slice Ao33 t177.length co33) := (blk_cell BK180.out 2).trans rfl
        have hfz42_0 := blk_frozen BK180.out 0
        have hfz42_1 := blk_frozen BK180.out 1
        have hfz42_2 := blk_frozen BK180.out 2
        go_upto_region 14 with (first | ((with_reducible refine gate_callee (f := 21) rfl ?_); refine goesL_ (some 38) rfl rfl Try.func21 (by kernel_rfl) rfl #[.agg #[.int .i64 t173, .slice Ao32 t174.length co32, .slice Ao33 t177.length co33], .int .i64 1] rfl (by (try simp only [List.map_toArray, List.map_cons, List.map_nil]); first | done | rfl | (simp only [List.length_drop, List.length_take]; rfl)) ?_; (with_reducible refine (laws_markTable.calls k t173 (fun k_ => some k_ = (.slice Ao32 t174.length co32 : Value).ownBlock) (.slice Ao32 t174.length co32) t174 (fun k_ => some k_ = (.slice Ao33 t177.length co33 : Value).ownBlock) (.slice Ao33 t177.length co33) t177 1 t193 t194 t195 w _ ?side1 ?side2 ?side3 ?side4 ?side5 A17.out).mono ?_); (case side1 => repeat (first | (with_reducible first | exact HB.out | apply below_alloc | apply pw_below_drewN | apply below_drew1 | refine below_set ?_ GE161.out | refine below_set ?_ GE180.out) | exact HB.out)); (case side2 => exact Kd.R_tight rfl HO176.out); (case side3 => exact fun k_ e_ => (by have h_ := HO176.out.1 k_ e_.symm; revert h_; simp only [and_imp]; intros; assumption)); (case side4 => exact Kd.R_tight rfl HO179.out); (case side5 => exact fun k_ e_ => (by have h_ := HO179.out.1 k_ e_.symm; revert h_; simp only [and_imp]; intros; assumption)); rintro e w43 ⟨rfl, hy0, hy1, hb, hkp⟩; refine ⟨_, rfl, ?_⟩; have n0_ := Aside0.mk (blk_kept (by (with_reducible repeat (first | refine blk_drewN ?_ _ | refine blk_drew ?_ | refine blk_alloc ?_ _)); exact BK161.out) hkp (fun hs_ => Or.elim hs_ (fun e_ => (fun e_ => (Kd.R_ne HO176.out BK161.out (by decide)) e_) e_) (fun e_ => (fun e_ => (Kd.R_ne HO179.out BK161.out (by decide)) e_) e_))); have n1_ := Aside0.mk (Kd.R_mono (ok' := fun k_ => some k_ ≠ (.slice Ao25 t167.length co25 : Value).ownBlock ∧ some k_ ≠ (.slice Ao36 t170.length co36 : Value).ownBlock ∧ some k_ ≠ (.slice Ao32 t174.length co32 : Value).ownBlock ∧ some k_ ≠ (.slice Ao33 t177.length co33 : Value).ownBlock ∧ some k_ ≠ (.slice Ao35 t181.length co35 : Value).ownBlock ∧ some k_ ≠ (.slice Ao39 t186.length co39 : Value).ownBlock ∧ some k_ ≠ (.slice Ao40 t189.length co40 : Value).ownBlock) (Kd.R_keptB (HO166.out) hkp (fun k_ hk_ hs_ => Or.elim hs_ (fun e_ => absurd e_ (by revert hk_; simp only [and_imp]; intros; assumption)) (fun e_ => absurd e_ (by revert hk_; simp only [and_imp]; intros; assumption)))) (fun k_ hk_ => ⟨(by revert hk_; simp only [and_imp]; intros; assumption), (by revert hk_; simp only [and_imp]; intros; assumption), (by revert hk_; simp only [and_imp]; intros; assumption), (by revert hk_; simp only [and_imp]; intros; assumption), (by revert hk_; simp only [and_imp]; intros; assumption), (by revert hk_; simp only [and_imp]; intros; assumption), (by revert hk_; simp only [and_imp]; intros; assumption)⟩)); have n2_ := Aside0.mk (Kd.R_mono (ok' := fun k_ => some k_ ≠ (.slice Ao24 t164.length co24 : Value).ownBlock ∧ some k_ ≠ (.slice Ao36 t170.length co36 : Value).ownBlock ∧ some k_ ≠ (.slice Ao32 t174.length co32 : Value).ownBlock ∧ some k_ ≠ (.slice Ao33 t177.length co33 : Value).ownBlock ∧ some k_ ≠ (.slice Ao35 t181.length co35 : Value).ownBlock ∧ some k_ ≠ (.slice Ao39 t186.length co39 : Value).ownBlock ∧ some k_ ≠ (.slice Ao40 t189.length co40 : Value).ownBlock) (Kd.R_keptB (HO169.out) hkp (fun k_ hk_ hs_ => Or.elim hs_ (fun e_ => absurd e_ (by revert hk_; simp only [and_imp]; intros; assumption)) (fun e_ => absurd e_ (by revert hk_; simp only [and_imp]; intros; assumption)))) (fun k_ hk_ => ⟨(by revert hk_; simp only [and_imp]; intros; assumption), (by revert hk_; simp only [and_imp]; intros; assumption), (by revert hk_; simp only [and_imp]; intros; assumption), (by revert hk_; simp only [and_imp]; intros; assumption), (by revert hk_; simp only [and_imp]; intros; assumption), (by revert hk_; simp only [and_imp]; intros; assumption), (by revert hk_; simp only [and_imp]; intros; assumption)⟩)); have n3_ := Aside0.mk (Kd.R_mono (ok' := fun k_ => some k_ ≠ (.slice Ao24 t164.length co24 : Value).ownBlock ∧ some k_ ≠ (.slice Ao25 t167.length co25 : Value).ownBlock ∧ some k_ ≠ (.slice Ao32 t174.length co32 : Value).ownBlock ∧ some k_ ≠ (.slice Ao33 t177.length co33 : Value).ownBlock ∧ some k_ ≠ (.slice Ao35 t181.length co35 : Value).ownBlock ∧ some k_ ≠ (.slice Ao39 t186.length co39 : Value).ownBlock ∧ some k_ ≠ (.slice Ao40 t189.length co40 : Value).ownBlock) (Kd.R_keptB (HO172.out) hkp (fun k_ hk_ hs_ => Or.elim hs_ (fun e_ => absurd e_ (by revert hk_; simp only [and_imp]; intros; assumption)) (fun e_ => absurd e_ (by revert hk_; simp only [and_imp]; intros; assumption)))) (fun k_ hk_ => ⟨(by revert hk_; simp only [and_imp]; intros; assumption), (by revert hk_; simp only [and_imp]; intros; assumption), (by revert hk_; simp only [and_imp]; intros; assumption), (by revert hk_; simp only [and_imp]; intros; assumption), (by revert hk_; simp only [and_imp]; intros; assumption), (by revert hk_; simp only [and_imp]; intros; assumption), (by revert hk_; simp only [and_imp]; intros; assumption)⟩)); have n4_ := Aside0.mk (Kd.R_reok rfl hy0 (fun k_ e_ => HO176.out.1 k_ e_)); have n5_ := Aside0.mk (Kd.R_reok rfl hy1 (fun k_ e_ => HO179.out.1 k_ e_)); have n6_ := Aside0.mk (blk_kept (by (with_reducible repeat (first | refine blk_drewN ?_ _ | refine blk_drew ?_ | refine blk_alloc ?_ _)); exact BK180.out) hkp (fun hs_ => Or.elim hs_ (fun e_ => (fun e_ => (Kd.R_ne HO176.out BK180.out (by decide)) e_) e_) (fun e_ => (fun e_ => (Kd.R_ne HO179.out BK180.out (by decide)) e_) e_))); have n7_ := Aside0.mk (Kd.R_mono (ok' := fun k_ => some k_ ≠ (.slice Ao24 t164.length co24 : Value).ownBlock ∧ some k_ ≠ (.slice Ao25 t167.length co25 : Value).ownBlock ∧ some k_ ≠ (.slice Ao36 t170.length co36 : Value).ownBlock ∧ some k_ ≠ (.slice Ao32 t174.length co32 : Value).ownBlock ∧ some k_ ≠ (.slice Ao33 t177.length co33 : Value).ownBlock ∧ some k_ ≠ (.slice Ao39 t186.length co39 : Value).ownBlock ∧ some k_ ≠ (.slice Ao40 t189.length co40 : Value).ownBlock) (Kd.R_keptB (HO183.out) hkp (fun k_ hk_ hs_ => Or.elim hs_ (fun e_ => absurd e_ (by revert hk_; simp only [and_imp]; intros; assumption)) (fun e_ => absurd e_ (by revert hk_; simp only [and_imp]; intros; assumption)))) (fun k_ hk_ => ⟨(by revert hk_; simp only [and_imp]; intros; assumption), (by revert hk_; simp only [and_imp]; intros; assumption), (by revert hk_; simp only [and_imp]; intros; assumption), (by revert hk_; simp only [and_imp]; intros; assumption), (by revert hk_; simp only [and_imp]; intros; assumption), (by revert hk_; simp only [and_imp]; intros; assumption), (by revert hk_; simp only [and_imp]; intros; assumption)⟩)); have n8_ := Aside0.mk (Kd.R_mono (ok' := fun k_ => some k_ ≠ (.slice Ao24 t164.length co24 : Value).ownBlock ∧ some k_ ≠ (.slice Ao25 t167.length co25 : Value).ownBlock ∧ some k_ ≠ (.slice Ao36 t170.length co36 : Value).ownBlock ∧ some k_ ≠ (.slice Ao32 t174.length co32 : Value).ownBlock ∧ some k_ ≠ (.slice Ao33 t177.length co33 : Value).ownBlock ∧ some k_ ≠ (.slice Ao35 t181.length co35 : Value).ownBlock ∧ some k_ ≠ (.slice Ao40 t189.length co40 : Value).ownBlock) (Kd.R_keptB (HO188.out) hkp (fun k_ hk_ hs_ => Or.elim hs_ (fun e_ => absurd e_ (by revert hk_; simp only [and_imp]; intros; assumption)) (fun e_ => absurd e_ (by revert hk_; simp only [and_imp]; intros; assumption)))) (fun k_ hk_ => ⟨(by revert hk_; simp only [and_imp]; intros; assumption), (by revert hk_; simp only [and_imp]; intros; assumption), (by revert hk_; simp only [and_imp]; intros; assumption), (by revert hk_; simp only [and_imp]; intros; assumption), (by revert hk_; simp only [and_imp]; intros; assumption), (by revert hk_; simp only [and_imp]; intros; assumption), (by revert hk_; simp only [and_imp]; intros; assumption)⟩)); have n9_ := Aside0.mk (Kd.R_mono (ok' := fun k_ => some k_ ≠ (.slice Ao24 t164.length co24 : Value).ownBlock ∧ some k_ ≠ (.slice Ao25 t167.length co25 : Value).ownBlock ∧ some k_ ≠ (.slice Ao36 t170.length co36 : Value).ownBlock ∧ some k_ ≠ (.slice Ao32 t174.length co32 : Value).ownBlock ∧ some k_ ≠ (.slice Ao33 t177.length co33 : Value).ownBlock ∧ some k_ ≠ (.slice Ao35 t181.length co35 : Value).ownBlock ∧ some k_ ≠ (.slice Ao39 t186.length co39 : Value).ownBlock) (Kd.R_keptB (HO191.out) hkp (fun k_ hk_ hs_ => Or.elim hs_ (fun e_ => absurd e_ (by revert hk_; simp only [and_imp]; intros; assumption)) (fun e_ => absurd e_ (by revert hk_; simp only [and_imp]; intros; assumption)))) (fun k_ hk_ => ⟨(by revert hk_; simp only [and_imp]; intros; assumption), (by revert hk_; simp only [and_imp]; intros; assumption), (by revert hk_; simp only [and_imp]; intros; assumption), (by revert hk_; simp only [and_imp]; intros; assumption), (by revert hk_; simp only [and_imp]; intros; assumption), (by revert hk_; simp only [and_imp]; intros; assumption), (by revert hk_; simp only [and_imp]; intros; assumption)⟩)); have n10_ := Aside0.mk (hb); clear BK161; clear HO166; clear HO169; clear HO172; clear HO176; clear HO179; clear BK180; clear HO183; clear HO188; clear HO191; clear HB; have BK161 := n0_; have HO166 := n1_; have HO169 := n2_; have HO172 := n3_; have HO176 := n4_; have HO179 := n5_; have BK180 := n6_; have HO183 := n7_; have HO188 := n8_; have HO191 := n9_; have HB := n10_; clear n0_ n1_ n2_ n3_ n4_ n5_ n6_ n7_ n8_ n9_ n10_; (try clear hb); (try clear hkp); (try clear hy0); (try clear hy1)))
        (try simp only [Act.put, List.setIfInBounds_toArray, List.set_cons_zero, List.set_cons_succ])
        go_cut [46] (fun v46 wc => ∃ (kq : Nat) (x46_17 : Bool), v46 = .bool x46_17 ∧ Aside0 (laws_FnExactRouteOf.j0 kq a1 t170 t181 x46_17 a0_0 l0_1 l0_2 = some true) ∧ Aside0 (kq ≤ k) ∧ Aside0 (Kd.R (Kd.int .i64) 3 wc w.heap.size (fun k_ => some k_ ≠ ((.slice Ao35 t181.length co35) : Value).ownBlock ∧ some k_ ≠ ((.slice Ao32 t174.length co32) : Value).ownBlock ∧ some k_ ≠ ((.slice Ao33 t177.length co33) : Value).ownBlock) (.slice Ao36 t170.length co36) t170) ∧ Aside0 (Kd.R (Kd.int .i64) 3 wc w.heap.size (fun k_ => some k_ ≠ ((.slice Ao36 t170.length co36) : Value).ownBlock ∧ some k_ ≠ ((.slice Ao32 t174.length co32) : Value).ownBlock ∧ some k_ ≠ ((.slice Ao33 t177.length co33) : Value).ownBlock) (.slice Ao35 t181.length co35) t181) ∧ Aside0 (Kd.R (Kd.int .i64) 3 wc w.heap.size (fun k_ => some k_ ≠ ((.slice Ao36 t170.length co36) : Value).ownBlock ∧ some k_ ≠ ((.slice Ao35 t181.length co35) : Value).ownBlock ∧ some k_ ≠ ((.slice Ao33 t177.length co33) : Value).ownBlock) (.slice Ao32 t174.length co32) t194) ∧ Aside0 (Kd.R (Kd.int .i64) 3 wc w.heap.size (fun k_ => some k_ ≠ ((.slice Ao36 t170.length co36) : Value).ownBlock ∧ some k_ ≠ ((.slice Ao35 t181.length co35) : Value).ownBlock ∧ some k_ ≠ ((.slice Ao32 t174.length co32) : Value).ownBlock) (.slice Ao33 t177.length co33) t195) ∧ Aside0 (wc.heap[gb161]? = some (.cells #[.int .i64 a0_0, (.slice A0_1 l0_1.length c0_1), (.slice A0_2 l0_2.length c0_2)] 24 (0, 0))) ∧ Aside0 (wc.heap[gb180]? = some (.cells #[.int .i64 t173, (.slice Ao32 t174.length co32), (.slice Ao33 t177.length co33)] 27 (0, 0))) ∧ Aside0 (Below w.heap.size w wc))
        case first =>
          have H := HC18.out
          clear HC18
          by_cases c44 : t193 < 0
          · rw [if_pos c44] at H
            have c44b0 : decide (t193 < 0) = true := decide_eq_true c44
            clear c44
            (first | rw [c44b0] | (simp only [i64_w, i32_w]; rw [c44b0]) | skip)
            have H' := Aside0.mk H
            clear H
            go_wp2
            go_meet
            case rel => exact ⟨_, (true), (by first | rfl | (simp; done) | (simp [*]; done)), H', ⟨by first | omega | exact Nat.le_refl _⟩, ⟨by (with_reducible repeat (first | apply Kd.R_alloc | apply Kd.R_drewN | apply Kd.R_drew)); exact Kd.R_mono HO172.out (fun _ hk => ⟨(by revert hk; simp only [and_imp]; intros; assumption), ⟨(by revert hk; simp only [and_imp]; intros; assumption), (by revert hk; simp only [and_imp]; intros; assumption)⟩⟩)⟩, ⟨by (with_reducible repeat (first | apply Kd.R_alloc | apply Kd.R_drewN | apply Kd.R_drew)); exact Kd.R_mono HO183.out (fun _ hk => ⟨(by revert hk; simp only [and_imp]; intros; assumption), ⟨(by revert hk; simp only [and_imp]; intros; assumption), (by revert hk; simp only [and_imp]; intros; assumption)⟩⟩)⟩, ⟨by (with_reducible repeat (first | apply Kd.R_alloc | apply Kd.R_drewN | apply Kd.R_drew)); exact Kd.R_mono HO176.out (fun _ hk => ⟨(by revert hk; simp only [and_imp]; intros; assumption), ⟨(by revert hk; simp only [and_imp]; intros; assumption), (by revert hk; simp only [and_imp]; intros; assumption)⟩⟩)⟩, ⟨by (with_reducible repeat (first | apply Kd.R_alloc | apply Kd.R_drewN | apply Kd.R_drew)); exact Kd.R_mono HO179.out (fun _ hk => ⟨(by revert hk; simp only [and_imp]; intros; assumption), ⟨(by revert hk; simp only [and_imp]; intros; assumption), (by revert hk; simp only [and_imp]; intros; assumption)⟩⟩)⟩, ⟨by (with_reducible repeat (first | refine blk_drewN ?_ _ | refine blk_drew ?_ | refine blk_alloc ?_ _)); exact BK161.out⟩, ⟨by (with_reducible repeat (first | refine blk_drewN ?_ _ | refine blk_drew ?_ | refine blk_alloc ?_ _)); exact BK180.out⟩, ⟨by repeat (first | (with_reducible first | exact HB.out | apply below_alloc | apply pw_below_drewN | apply below_drew1 | refine below_set ?_ GE161.out | refine below_set ?_ GE180.out) | exact HB.out)⟩⟩
          · rw [if_neg c44] at H
            have c44b0 : decide (t193 < 0) = false := decide_eq_false c44
            clear c44
            (first | rw [c44b0] | (simp only [i64_w, i32_w]; rw [c44b0]) | skip)
            replace H := Option.bind_eq_some_iff.mp H
            obtain ⟨t196, A450, H⟩ := H
            have A45 := Aside0.mk A450
            clear A450
            have H' := Aside0.mk H
            clear H
            go_wp2_with (first | (go_at_call 19; (with_reducible refine (laws_eqIntS.calls k _ _ t181 _ _ t170 t196 _ ?side1 ?side2 ?side3 ?side4 A45.out).mono ?_); (case side1 => repeat (first | exact (Kd.R_reads' HO183.out).2.2 | (with_reducible refine Kd.C_alloc ?_ _) | (with_reducible refine Kd.C_drewN ?_ _) | (with_reducible refine Kd.C_drew ?_))); (case side2 => exact (Kd.R_reads' HO183.out).2.1); (case side3 => repeat (first | exact (Kd.R_reads' HO172.out).2.2 | (with_reducible refine Kd.C_alloc ?_ _) | (with_reducible refine Kd.C_drewN ?_ _) | (with_reducible refine Kd.C_drew ?_))); (case side4 => exact (Kd.R_reads' HO172.out).2.1); rintro e w' ⟨rfl, ⟨nd, rfl⟩⟩))
            go_meet
            case rel => exact ⟨_, (!t196), (by first | rfl | (simp; done) | (simp [*]; done)), H', ⟨by first | omega | exact Nat.le_refl _⟩, ⟨by (with_reducible repeat (first | apply Kd.R_alloc | apply Kd.R_drewN | apply Kd.R_drew)); exact Kd.R_mono HO172.out (fun _ hk => ⟨(by revert hk; simp only [and_imp]; intros; assumption), ⟨(by revert hk; simp only [and_imp]; intros; assumption), (by revert hk; simp only [and_imp]; intros; assumption)⟩⟩)⟩, ⟨by (with_reducible repeat (first | apply Kd.R_alloc | apply Kd.R_drewN | apply Kd.R_drew)); exact Kd.R_mono HO183.out (fun _ hk => ⟨(by revert hk; simp only [and_imp]; intros; assumption), ⟨(by revert hk; simp only [and_imp]; intros; assumption), (by revert hk; simp only [and_imp]; intros; assumption)⟩⟩)⟩, ⟨by (with_reducible repeat (first | apply Kd.R_alloc | apply Kd.R_drewN | apply Kd.R_drew)); exact Kd.R_mono HO176.out (fun _ hk => ⟨(by revert hk; simp only [and_imp]; intros; assumption), ⟨(by revert hk; simp only [and_imp]; intros; assumption), (by revert hk; simp only [and_imp]; intros; assumption)⟩⟩)⟩, ⟨by (with_reducible repeat (first | apply Kd.R_alloc | apply Kd.R_drewN | apply Kd.R_drew)); exact Kd.R_mono HO179.out (fun _ hk => ⟨(by revert hk; simp only [and_imp]; intros; assumption), ⟨(by revert hk; simp only [and_imp]; intros; assumption), (by revert hk; simp only [and_imp]; intros; assumption)⟩⟩)⟩, ⟨by (with_reducible repeat (first | refine blk_drewN ?_ _ | refine blk_drew ?_ | refine blk_alloc ?_ _)); exact BK161.out⟩, ⟨by (with_reducible repeat (first | refine blk_drewN ?_ _ | refine blk_drew ?_ | refine blk_alloc ?_ _)); exact BK180.out⟩, ⟨by repeat (first | (with_reducible first | exact HB.out | apply below_alloc | apply pw_below_drewN | apply below_drew1 | refine below_set ?_ GE161.out | refine below_set ?_ GE180.out) | exact HB.out)⟩⟩
        case rest =>
          clear HC18
          try clear c1
          try clear c2
          try clear p2
          try clear c3
          try clear c4
          try clear c4b0
          try clear c13
          try clear c15
          try clear c16
          try clear c17
          try clear c18
          try clear c19
          try clear c20
          try clear c21
          try clear c30
          try clear c44
          try clear c44b0
          try clear hcz20_0
          try clear hcz20_1
          try clear hcz20_2
          try clear hcz22_0
          try clear hcz22_1
          try clear hcz22_2
          try clear hcz27_0
          try clear hcz27_1
          try clear hcz27_2
          try clear hcz31_0
          try clear hcz31_1
          try clear hcz31_2
          try clear hcz42_0
          try clear hcz42_1
          try clear hcz42_2
          try clear hcz6_0
          try clear hcz6_1
          try clear hcz6_2
          try clear hfz20_0
          try clear hfz20_1
          try clear hfz20_2
          try clear hfz22_0
          try clear hfz22_1
          try clear hfz22_2
          try clear hfz27_0
          try clear hfz27_1
          try clear hfz27_2
          try clear hfz31_0
          try clear hfz31_1
          try clear hfz31_2
          try clear hfz42_0
          try clear hfz42_1
          try clear hfz42_2
          try clear hfz6_0
          try clear hfz6_1
          try clear hfz6_2
          obtain ⟨kq, x46_17, rfl, HA, HJ17, HO_6, HO_8, HO_181001, HO_181002, BK161, BK180, HB⟩ := hcut
          have hl181001_17 := (Kd.R_reads' HO_181001.out).1
          rw [hl181001_17] at HO_181001
          (try simp only [hl181001_17])
          (try simp only [hl181001_17] at BK161)
          (try simp only [hl181001_17] at BK180)
          (try simp only [hl181001_17] at HO_6)
          (try simp only [hl181001_17] at HO_8)
          (try simp only [hl181001_17] at HO_181002)
          have hl181002_17 := (Kd.R_reads' HO_181002.out).1
          rw [hl181002_17] at HO_181002
          (try simp only [hl181002_17])
          (try simp only [hl181002_17] at BK161)
          (try simp only [hl181002_17] at BK180)
          (try simp only [hl181002_17] at HO_6)
          (try simp only [hl181002_17] at HO_8)
          (try simp only [hl181002_17] at HO_181001)
          cases kq with
          | zero => exact absurd HA.out (by simp [laws_FnExactRouteOf.j0])
          | succ kj17 =>
            have H := HA.out
            clear HA
            simp only [laws_FnExactRouteOf.j0] at H
            by_cases c46 : x46_17 = true
            · subst c46
              have H1 : (some false) = some true := by first | (rw [if_pos rfl] at H; exact H) | rfl
              clear H
              have H := H1
              clear H1
              exact absurd H (by simp)
            · replace c46 := Bool.eq_false_iff.mpr c46
              subst c46
              have H1 : ((laws_markIntS.f kj17 t181 1).bind fun bt197 => ((laws_heldIntS.f kj17 bt197.2 1).bind fun t199 => (if t199 < 0 then (some false) else (if t199 = bt197.1 then ((laws_toTable.f kj17 a0_0 l0_1 l0_2).bind fun bt200 => ((impl_RouteOf.f kj17 bt200.1 bt200.2.1 bt200.2.2 a1).bind fun t207 => ((laws_eqIntS.f kj17 t207 t170).bind fun t210 => (if t210 = true then ((laws_heldIntS.f kj17 bt197.2 1).bind fun t211 => (if t211 < 0 then (some false) else (if t211 = bt197.1 then (some true) else (some false)))) else (some false))))) else (some false))))) = some true := by first | (rw [if_neg (show ¬ (false = true) by decide)] at H; exact H) | rfl
              clear H
              have H := H1
              clear H1
              replace H := Option.bind_eq_some_iff.mp H
              obtain ⟨⟨t197, t198⟩, A470, H⟩ := H
              replace H : ((laws_heldIntS.f kj17 t198 1).bind fun t199 => (if t199 < 0 then (some false) else (if t199 = t197 then ((laws_toTable.f kj17 a0_0 l0_1 l0_2).bind fun bt200 => ((impl_RouteOf.f kj17 bt200.1 bt200.2.1 bt200.2.2 a1).bind fun t207 => ((laws_eqIntS.f kj17 t207 t170).bind fun t210 => (if t210 = true then ((laws_heldIntS.f kj17 t198 1).bind fun t211 => (if t211 < 0 then (some false) else (if t211 = t197 then (some true) else (some false)))) else (some false))))) else (some false)))) = some true := H
              have A47 := Aside0.mk A470
              clear A470
              replace H := Option.bind_eq_some_iff.mp H
              obtain ⟨t199, A480, H⟩ := H
              have A48 := Aside0.mk A480
              clear A480
              by_cases c49 : t199 < 0
              · rw [if_pos c49] at H
                have c49b0 : decide (t199 < 0) = true := decide_eq_true c49
                clear c49
                exact absurd H (by simp)
              · rw [if_neg c49] at H
                have c49b0 : decide (t199 < 0) = false := decide_eq_false c49
                clear c49
                by_cases c50 : t199 = t197
                · rw [if_pos c50] at H
                  have c50b0 : (t199 == t197) = true := beq_iff_eq.mpr c50
                  have c50b1 : (t199 != t197) = false := bne_eq_false_iff_eq.mpr c50
                  clear c50
                  replace H := Option.bind_eq_some_iff.mp H
                  obtain ⟨⟨t200, t201, t204⟩, A510, H⟩ := H
                  replace H : ((impl_RouteOf.f kj17 t200 t201 t204 a1).bind fun t207 => ((laws_eqIntS.f kj17 t207 t170).bind fun t210 => (if t210 = true then ((laws_heldIntS.f kj17 t198 1).bind fun t211 => (if t211 < 0 then (some false) else (if t211 = t197 then (some true) else (some false)))) else (some false)))) = some true := H
                  have A51 := Aside0.mk A510
                  clear A510
                  replace H := Option.bind_eq_some_iff.mp H
                  obtain ⟨t207, A520, H⟩ := H
                  have A52 := Aside0.mk A520
                  clear A520
                  replace H := Option.bind_eq_some_iff.mp H
                  obtain ⟨t210, A530, H⟩ := H
                  have A53 := Aside0.mk A530
                  clear A530
                  by_cases c54 : t210 = true
                  · subst c54
                    have H1 : ((laws_heldIntS.f kj17 t198 1).bind fun t211 => (if t211 < 0 then (some false) else (if t211 = t197 then (some true) else (some false)))) = some true := by first | (rw [if_pos rfl] at H; exact H) | rfl
                    clear H
                    have H := H1
                    clear H1
                    replace H := Option.bind_eq_some_iff.mp H
                    obtain ⟨t211, A550, H⟩ := H
                    have A55 := Aside0.mk A550
                    clear A550
                    by_cases c56 : t211 < 0
                    · rw [if_pos c56] at H
                      have c56b0 : decide (t211 < 0) = true := decide_eq_true c56
                      clear c56
                      exact absurd H (by simp)
                    · rw [if_neg c56] at H
                      have c56b0 : decide (t211 < 0) = false := decide_eq_false c56
                      clear c56
                      by_cases c57 : t211 = t197
                      · rw [if_pos c57] at H
                        have c57b0 : (t211 == t197) = true := beq_iff_eq.mpr c57
                        have c57b1 : (t211 != t197) = false := bne_eq_false_iff_eq.mpr c57
                        clear c57
                        clear H
                        go_wp2_with (first | ((with_reducible refine gate_callee (f := 22) rfl ?_); refine goesL_ (some 49) rfl rfl Try.func22 (by kernel_rfl) rfl #[.slice Ao35 t181.length co35, .int .i64 1] rfl (by (try simp only [List.map_toArray, List.map_cons, List.map_nil]); first | done | rfl | (simp only [List.length_drop, List.length_take]; rfl)) ?_; (with_reducible refine (laws_markIntS.calls kj17 (fun k_ => some k_ = (.slice Ao35 t181.length co35 : Value).ownBlock) (.slice Ao35 t181.length co35) t181 1 t197 t198 w _ ?side1 ?side2 A47.out).mono ?_); (case side1 => repeat (first | (with_reducible first | exact HB.out | apply below_alloc | apply pw_below_drewN | apply below_drew1 | refine below_set ?_ GE161.out | refine below_set ?_ GE180.out) | exact HB.out)); (case side2 => exact Kd.R_tight rfl HO_8.out); rintro e w58 ⟨rfl, hy0, hb, hkp⟩; refine ⟨_, rfl, ?_⟩; have n0_ := Aside0.mk (Kd.R_mono (ok' := fun k_ => some k_ ≠ (.slice Ao35 t181.length co35 : Value).ownBlock ∧ some k_ ≠ (.slice Ao32 t194.length co32 : Value).ownBlock ∧ some k_ ≠ (.slice Ao33 t195.length co33 : Value).ownBlock) (Kd.R_keptB (HO_6.out) hkp (fun k_ hk_ hs_ => absurd hs_ (by revert hk_; simp only [and_imp]; intros; assumption))) (fun k_ hk_ => ⟨(by revert hk_; simp only [and_imp]; intros; assumption), (by revert hk_; simp only [and_imp]; intros; assumption), (by revert hk_; simp only [and_imp]; intros; assumption)⟩)); have n1_ := Aside0.mk (Kd.R_reok rfl hy0 (fun k_ e_ => HO_8.out.1 k_ e_)); have n2_ := Aside0.mk (Kd.R_mono (ok' := fun k_ => some k_ ≠ (.slice Ao36 t170.length co36 : Value).ownBlock ∧ some k_ ≠ (.slice Ao35 t181.length co35 : Value).ownBlock ∧ some k_ ≠ (.slice Ao33 t195.length co33 : Value).ownBlock) (Kd.R_keptB (HO_181001.out) hkp (fun k_ hk_ hs_ => absurd hs_ (by revert hk_; simp only [and_imp]; intros; assumption))) (fun k_ hk_ => ⟨(by revert hk_; simp only [and_imp]; intros; assumption), (by revert hk_; simp only [and_imp]; intros; assumption), (by revert hk_; simp only [and_imp]; intros; assumption)⟩)); have n3_ := Aside0.mk (Kd.R_mono (ok' := fun k_ => some k_ ≠ (.slice Ao36 t170.length co36 : Value).ownBlock ∧ some k_ ≠ (.slice Ao35 t181.length co35 : Value).ownBlock ∧ some k_ ≠ (.slice Ao32 t194.length co32 : Value).ownBlock) (Kd.R_keptB (HO_181002.out) hkp (fun k_ hk_ hs_ => absurd hs_ (by revert hk_; simp only [and_imp]; intros; assumption))) (fun k_ hk_ => ⟨(by revert hk_; simp only [and_imp]; intros; assumption), (by revert hk_; simp only [and_imp]; intros; assumption), (by revert hk_; simp only [and_imp]; intros; assumption)⟩)); have n4_ := Aside0.mk (blk_kept (by (with_reducible repeat (first | refine blk_drewN ?_ _ | refine blk_drew ?_ | refine blk_alloc ?_ _)); exact BK161.out) hkp (fun hs_ => (fun e_ => (Kd.R_ne HO_8.out BK161.out (by decide)) e_) hs_)); have n5_ := Aside0.mk (blk_kept (by (with_reducible repeat (first | refine blk_drewN ?_ _ | refine blk_drew ?_ | refine blk_alloc ?_ _)); exact BK180.out) hkp (fun hs_ => (fun e_ => (Kd.R_ne HO_8.out BK180.out (by decide)) e_) hs_)); have n6_ := Aside0.mk (hb); clear HO_6; clear HO_8; clear HO_181001; clear HO_181002; clear BK161; clear BK180; clear HB; have HO_6 := n0_; have HO_8 := n1_; have HO_181001 := n2_; have HO_181002 := n3_; have BK161 := n4_; have BK180 := n5_; have HB := n6_; clear n0_ n1_ n2_ n3_ n4_ n5_ n6_; (try clear hb); (try clear hkp); (try clear hy0)) | ((with_reducible refine gate_callee (f := 23) rfl ?_); refine goesL_ (some 52) rfl rfl Try.func23 (by kernel_rfl) rfl #[.slice Ao35 t198.length co35, .int .i64 1] rfl (by (try simp only [List.map_toArray, List.map_cons, List.map_nil]); first | done | (rw [show t198.length = t181.length from (Kd.R_reads' HO_8.out).1.symm] <;> rfl) | rfl | (simp only [List.length_drop, List.length_take]; rfl)) ?_; (with_reducible refine (laws_heldIntS.calls kj17 _ _ t198 1 t199 _ ?side1 ?side2 A48.out).mono ?_); (case side1 => repeat (first | exact (Kd.R_reads' HO_8.out).2.2 | (with_reducible refine Kd.C_alloc ?_ _) | (with_reducible refine Kd.C_drewN ?_ _) | (with_reducible refine Kd.C_drew ?_))); (case side2 => rw [show t198.length = t181.length from (Kd.R_reads' HO_8.out).1.symm]; exact (Kd.R_reads' HO_8.out).2.1); rintro e w' ⟨rfl, ⟨nd, rfl⟩⟩; refine ⟨_, rfl, ?_⟩; have hnb59 := NB161_180.out; have hnc59 := NB180_161.out; have hcz60_0 : w58.cell? ⟨gb161, 0, none⟩ = some (.int .i64 a0_0) := (blk_cell BK161.out 0).trans rfl; have hcz60_1 : w58.cell? ⟨gb161, 1, none⟩ = some (.slice A0_1 l0_1.length c0_1) := (blk_cell BK161.out 1).trans rfl; have hcz60_2 : w58.cell? ⟨gb161, 2, none⟩ = some (.slice A0_2 l0_2.length c0_2) := (blk_cell BK161.out 2).trans rfl; have hfz60_0 := blk_frozen BK161.out 0; have hfz60_1 := blk_frozen BK161.out 1; have hfz60_2 := blk_frozen BK161.out 2) | ((with_reducible refine gate_callee (f := 17) rfl ?_); refine goesL_ (some 59) rfl rfl Try.func17 (by kernel_rfl) rfl #[.agg #[.int .i64 a0_0, .slice A0_1 l0_1.length c0_1, .slice A0_2 l0_2.length c0_2]] rfl (by (try simp only [List.map_toArray, List.map_cons, List.map_nil]); first | done | rfl | (simp only [List.length_drop, List.length_take]; rfl)) ?_; (with_reducible refine (laws_toTable.calls kj17 a0_0 _ _ l0_1 _ _ l0_2 t200 t201 t204 _ ?side1 ?side2 ?side3 ?side4 A51.out).mono ?_); (case side1 => repeat (first | exact (Kd.C_below HR0_1.out (by repeat (first | (with_reducible first | exact HB.out | apply below_alloc | apply pw_below_drewN | apply below_drew1 | refine below_set ?_ GE161.out | refine below_set ?_ GE180.out) | exact HB.out))) | (with_reducible refine Kd.C_alloc ?_ _) | (with_reducible refine Kd.C_drewN ?_ _) | (with_reducible refine Kd.C_drew ?_))); (case side2 => exact HC0_1.out); (case side3 => repeat (first | exact (Kd.C_below HR0_2.out (by repeat (first | (with_reducible first | exact HB.out | apply below_alloc | apply pw_below_drewN | apply below_drew1 | refine below_set ?_ GE161.out | refine below_set ?_ GE180.out) | exact HB.out))) | (with_reducible refine Kd.C_alloc ?_ _) | (with_reducible refine Kd.C_drewN ?_ _) | (with_reducible refine Kd.C_drew ?_))); (case side4 => exact HC0_2.out); rintro e w61 ⟨v202, v205, rfl, ho0, ho1, hb⟩; refine ⟨_, rfl, ?_⟩; have n0_ := Aside0.mk (Kd.R_mono (Kd.R_told (Kd.R_told (Kd.R_old (by (with_reducible repeat (first | apply Kd.R_alloc | apply Kd.R_drewN | apply Kd.R_drew)); exact HO_6.out) hb) (Kd.R_base ho0)) (Kd.R_base ho1)) (fun _ h_ => h_.1)); have n1_ := Aside0.mk (Kd.R_mono (Kd.R_told (Kd.R_told (Kd.R_old (by (with_reducible repeat (first | apply Kd.R_alloc | apply Kd.R_drewN | apply Kd.R_drew)); exact HO_8.out) hb) (Kd.R_base ho0)) (Kd.R_base ho1)) (fun _ h_ => h_.1)); have n2_ := Aside0.mk (Kd.R_mono (Kd.R_told (Kd.R_told (Kd.R_old (by (with_reducible repeat (first | apply Kd.R_alloc | apply Kd.R_drewN | apply Kd.R_drew)); exact HO_181001.out) hb) (Kd.R_base ho0)) (Kd.R_base ho1)) (fun _ h_ => h_.1)); have n3_ := Aside0.mk (Kd.R_mono (Kd.R_told (Kd.R_told (Kd.R_old (by (with_reducible repeat (first | apply Kd.R_alloc | apply Kd.R_drewN | apply Kd.R_drew)); exact HO_181002.out) hb) (Kd.R_base ho0)) (Kd.R_base ho1)) (fun _ h_ => h_.1)); have n4_ := Aside0.mk (Kd.R_lower (Kd.R_new' (Kd.R_new' (Kd.R_new' (Kd.R_new' ho0 (Kd.R_lt (by (with_reducible repeat (first | apply Kd.R_alloc | apply Kd.R_drewN | apply Kd.R_drew)); exact HO_6.out))) (Kd.R_lt (by (with_reducible repeat (first | apply Kd.R_alloc | apply Kd.R_drewN | apply Kd.R_drew)); exact HO_8.out))) (Kd.R_lt (by (with_reducible repeat (first | apply Kd.R_alloc | apply Kd.R_drewN | apply Kd.R_drew)); exact HO_181001.out))) (Kd.R_lt (by (with_reducible repeat (first | apply Kd.R_alloc | apply Kd.R_drewN | apply Kd.R_drew)); exact HO_181002.out))) (below_size (by repeat (first | (with_reducible first | exact HB.out | apply below_alloc | apply pw_below_drewN | apply below_drew1 | refine below_set ?_ GE161.out | refine below_set ?_ GE180.out) | exact HB.out)))); have n5_ := Aside0.mk (Kd.R_lower (Kd.R_new' (Kd.R_new' (Kd.R_new' (Kd.R_new' ho1 (Kd.R_lt (by (with_reducible repeat (first | apply Kd.R_alloc | apply Kd.R_drewN | apply Kd.R_drew)); exact HO_6.out))) (Kd.R_lt (by (with_reducible repeat (first | apply Kd.R_alloc | apply Kd.R_drewN | apply Kd.R_drew)); exact HO_8.out))) (Kd.R_lt (by (with_reducible repeat (first | apply Kd.R_alloc | apply Kd.R_drewN | apply Kd.R_drew)); exact HO_181001.out))) (Kd.R_lt (by (with_reducible repeat (first | apply Kd.R_alloc | apply Kd.R_drewN | apply Kd.R_drew)); exact HO_181002.out))) (below_size (by repeat (first | (with_reducible first | exact HB.out | apply below_alloc | apply pw_below_drewN | apply below_drew1 | refine below_set ?_ GE161.out | refine below_set ?_ GE180.out) | exact HB.out)))); have n6_ := Aside0.mk (blk_below (g := gb161) (o := .cells #[.int .i64 a0_0, .slice A0_1 l0_1.length c0_1, .slice A0_2 l0_2.length c0_2] 24 (0, 0)) (by (with_reducible repeat (first | refine blk_drewN ?_ _ | refine blk_drew ?_ | refine blk_alloc ?_ _)); exact BK161.out) hb); have n7_ := Aside0.mk (blk_below (g := gb180) (o := .cells #[.int .i64 t173, .slice Ao32 t194.length co32, .slice Ao33 t195.length co33] 27 (0, 0)) (by (with_reducible repeat (first | refine blk_drewN ?_ _ | refine blk_drew ?_ | refine blk_alloc ?_ _)); exact BK180.out) hb); have n8_ := Aside0.mk (below_step (by repeat (first | (with_reducible first | exact HB.out | apply below_alloc | apply pw_below_drewN | apply below_drew1 | refine below_set ?_ GE161.out | refine below_set ?_ GE180.out) | exact HB.out)) hb); clear HO_6; clear HO_8; clear HO_181001; clear HO_181002; clear BK161; clear BK180; clear HB; have HO_6 := n0_; have HO_8 := n1_; have HO_181001 := n2_; have HO_181002 := n3_; have HO203 := n4_; have HO206 := n5_; have BK161 := n6_; have BK180 := n7_; have HB := n8_; clear n0_ n1_ n2_ n3_ n4_ n5_ n6_ n7_ n8_; (try clear hb); (try clear hb2); (try clear hk); (try clear hi); (try clear ho0); (try clear ho1); obtain ⟨Ao62, co62, eo62⟩ := Kd.R_slice HO203.out; subst eo62; obtain ⟨Ao63, co63, eo63⟩ := Kd.R_slice HO206.out; subst eo63) | ((with_reducible refine gate_callee (f := 18) rfl ?_); refine goesL_ (some 61) rfl rfl Try.func18 (by kernel_rfl) rfl #[.agg #[.int .i64 t200, .slice Ao62 t201.length co62, .slice Ao63 t204.length co63], .int .i64 a1] rfl (by (try simp only [List.map_toArray, List.map_cons, List.map_nil]); first | done | rfl | (simp only [List.length_drop, List.length_take]; rfl)) ?_; (with_reducible refine (impl_RouteOf.calls kj17 t200 _ _ t201 _ _ t204 a1 t207 _ ?side1 ?side2 ?side3 ?side4 A52.out).mono ?_); (case side1 => repeat (first | exact (Kd.R_reads' HO203.out).2.2 | (with_reducible refine Kd.C_alloc ?_ _) | (with_reducible refine Kd.C_drewN ?_ _) | (with_reducible refine Kd.C_drew ?_))); (case side2 => exact (Kd.R_reads' HO203.out).2.1); (case side3 => repeat (first | exact (Kd.R_reads' HO206.out).2.2 | (with_reducible refine Kd.C_alloc ?_ _) | (with_reducible refine Kd.C_drewN ?_ _) | (with_reducible refine Kd.C_drew ?_))); (case side4 => exact (Kd.R_reads' HO206.out).2.1); rintro e w64 ⟨v208, rfl, ho0, hb⟩; refine ⟨_, rfl, ?_⟩; have n0_ := Aside0.mk (Kd.R_elder' (by (with_reducible repeat (first | apply Kd.R_alloc | apply Kd.R_drewN | apply Kd.R_drew)); exact HO_6.out) (Kd.R_base ho0) hb); have n1_ := Aside0.mk (Kd.R_elder' (by (with_reducible repeat (first | apply Kd.R_alloc | apply Kd.R_drewN | apply Kd.R_drew)); exact HO_8.out) (Kd.R_base ho0) hb); have n2_ := Aside0.mk (Kd.R_elder' (by (with_reducible repeat (first | apply Kd.R_alloc | apply Kd.R_drewN | apply Kd.R_drew)); exact HO_181001.out) (Kd.R_base ho0) hb); have n3_ := Aside0.mk (Kd.R_elder' (by (with_reducible repeat (first | apply Kd.R_alloc | apply Kd.R_drewN | apply Kd.R_drew)); exact HO_181002.out) (Kd.R_base ho0) hb); have n4_ := Aside0.mk (Kd.R_elder' (by (with_reducible repeat (first | apply Kd.R_alloc | apply Kd.R_drewN | apply Kd.R_drew)); exact HO203.out) (Kd.R_base ho0) hb); have n5_ := Aside0.mk (Kd.R_elder' (by (with_reducible repeat (first | apply Kd.R_alloc | apply Kd.R_drewN | apply Kd.R_drew)); exact HO206.out) (Kd.R_base ho0) hb); have n6_ := Aside0.mk (Kd.R_lower (Kd.R_new' (Kd.R_new' (Kd.R_new' (Kd.R_new' (Kd.R_new' (Kd.R_new' ho0 (Kd.R_lt (by (with_reducible repeat (first | apply Kd.R_alloc | apply Kd.R_drewN | apply Kd.R_drew)); exact HO_6.out))) (Kd.R_lt (by (with_reducible repeat (first | apply Kd.R_alloc | apply Kd.R_drewN | apply Kd.R_drew)); exact HO_8.out))) (Kd.R_lt (by (with_reducible repeat (first | apply Kd.R_alloc | apply Kd.R_drewN | apply Kd.R_drew)); exact HO_181001.out))) (Kd.R_lt (by (with_reducible repeat (first | apply Kd.R_alloc | apply Kd.R_drewN | apply Kd.R_drew)); exact HO_181002.out))) (Kd.R_lt (by (with_reducible repeat (first | apply Kd.R_alloc | apply Kd.R_drewN | apply Kd.R_drew)); exact HO203.out))) (Kd.R_lt (by (with_reducible repeat (first | apply Kd.R_alloc | apply Kd.R_drewN | apply Kd.R_drew)); exact HO206.out))) (below_size (by repeat (first | (with_reducible first | exact HB.out | apply below_alloc | apply pw_below_drewN | apply below_drew1 | refine below_set ?_ GE161.out | refine below_set ?_ GE180.out) | exact HB.out)))); have n7_ := Aside0.mk (blk_below (g := gb161) (o := .cells #[.int .i64 a0_0, .slice A0_1 l0_1.length c0_1, .slice A0_2 l0_2.length c0_2] 24 (0, 0)) (by (with_reducible repeat (first | refine blk_drewN ?_ _ | refine blk_drew ?_ | refine blk_alloc ?_ _)); exact BK161.out) hb); have n8_ := Aside0.mk (blk_below (g := gb180) (o := .cells #[.int .i64 t173, .slice Ao32 t194.length co32, .slice Ao33 t195.length co33] 27 (0, 0)) (by (with_reducible repeat (first | refine blk_drewN ?_ _ | refine blk_drew ?_ | refine blk_alloc ?_ _)); exact BK180.out) hb); have n9_ := Aside0.mk (below_step (by repeat (first | (with_reducible first | exact HB.out | apply below_alloc | apply pw_below_drewN | apply below_drew1 | refine below_set ?_ GE161.out | refine below_set ?_ GE180.out) | exact HB.out)) hb); clear HO_6; clear HO_8; clear HO_181001; clear HO_181002; clear HO203; clear HO206; clear BK161; clear BK180; clear HB; have HO_6 := n0_; have HO_8 := n1_; have HO_181001 := n2_; have HO_181002 := n3_; have HO203 := n4_; have HO206 := n5_; have HO209 := n6_; have BK161 := n7_; have BK180 := n8_; have HB := n9_; clear n0_ n1_ n2_ n3_ n4_ n5_ n6_ n7_ n8_ n9_; (try clear hb); (try clear hb2); (try clear hk); (try clear hi); (try clear ho0); obtain ⟨Ao65, co65, eo65⟩ := Kd.R_slice HO209.out; subst eo65) | ((with_reducible refine gate_callee (f := 19) rfl ?_); refine goesL_ (some 64) rfl rfl Try.func19 (by kernel_rfl) rfl #[.slice Ao65 t207.length co65, .slice Ao36 t170.length co36] rfl (by (try simp only [List.map_toArray, List.map_cons, List.map_nil]); first | done | rfl | (simp only [List.length_drop, List.length_take]; rfl)) ?_; (with_reducible refine (laws_eqIntS.calls kj17 _ _ t207 _ _ t170 true _ ?side1 ?side2 ?side3 ?side4 A53.out).mono ?_); (case side1 => repeat (first | exact (Kd.R_reads' HO209.out).2.2 | (with_reducible refine Kd.C_alloc ?_ _) | (with_reducible refine Kd.C_drewN ?_ _) | (with_reducible refine Kd.C_drew ?_))); (case side2 => exact (Kd.R_reads' HO209.out).2.1); (case side3 => repeat (first | exact (Kd.R_reads' HO_6.out).2.2 | (with_reducible refine Kd.C_alloc ?_ _) | (with_reducible refine Kd.C_drewN ?_ _) | (with_reducible refine Kd.C_drew ?_))); (case side4 => exact (Kd.R_reads' HO_6.out).2.1); rintro e w' ⟨rfl, ⟨nd, rfl⟩⟩; refine ⟨_, rfl, ?_⟩) | ((with_reducible refine gate_callee (f := 23) rfl ?_); refine goesL_ (some 68) rfl rfl Try.func23 (by kernel_rfl) rfl #[.slice Ao35 t198.length co35, .int .i64 1] rfl (by (try simp only [List.map_toArray, List.map_cons, List.map_nil]); first | done | (rw [show t198.length = t181.length from (Kd.R_reads' HO_8.out).1.symm] <;> rfl) | rfl | (simp only [List.length_drop, List.length_take]; rfl)) ?_; (with_reducible refine (laws_heldIntS.calls kj17 _ _ t198 1 t211 _ ?side1 ?side2 A55.out).mono ?_); (case side1 => repeat (first | exact (Kd.R_reads' HO_8.out).2.2 | (with_reducible refine Kd.C_alloc ?_ _) | (with_reducible refine Kd.C_drewN ?_ _) | (with_reducible refine Kd.C_drew ?_))); (case side2 => rw [show t198.length = t181.length from (Kd.R_reads' HO_8.out).1.symm]; exact (Kd.R_reads' HO_8.out).2.1); rintro e w' ⟨rfl, ⟨nd, rfl⟩⟩; refine ⟨_, rfl, ?_⟩))
                        go_ret
                        exact ⟨by first | rfl | (simp [errW_none, errW_some] <;> rfl) | (simp [*, errW_none, errW_some] <;> rfl), by repeat (first | (with_reducible first | exact HB.out | apply below_alloc | apply pw_below_drewN | apply below_drew1 | refine below_set ?_ GE161.out | refine below_set ?_ GE180.out) | exact HB.out)⟩
                      · rw [if_neg c57] at H
                        have c57b0 : (t211 == t197) = false := beq_eq_false_iff_ne.mpr c57
                        have c57b1 : (t211 != t197) = true := bne_iff_ne.mpr c57
                        exact absurd H (by simp)
                  · replace c54 := Bool.eq_false_iff.mpr c54
                    subst c54
                    have H1 : (some false) = some true := by first | (rw [if_neg (show ¬ (false = true) by decide)] at H; exact H) | rfl
                    clear H
                    have H := H1
                    clear H1
                    exact absurd H (by simp)
                · rw [if_neg c50] at H
                  have c50b0 : (t199 == t197) = false := beq_eq_false_iff_ne.mpr c50
                  have c50b1 : (t199 != t197) = true := bne_iff_ne.mpr c50
                  exact absurd H (by simp)
      · replace c16 := Bool.eq_false_iff.mpr c16
        subst c16
        have H1 : (some false) = some true := by first | (rw [if_neg (show ¬ (false = true) by decide)] at H; exact H) | rfl
        clear H
        have H := H1
        clear H1
        exact absurd H (by simp)
    · replace c13 := Bool.eq_false_iff.mpr c13
      subst c13
      have H1 : (some false) = some true := by first | (rw [if_neg (show ¬ (false = true) by decide)] at H; exact H) | rfl
      clear H
      have H := H1
      clear H1
      exact absurd H (by simp)

end Go.Proofs.Ytflngcegkhgocaa.PFnExactRouteOf
