-- Written by a program of this session for this claim (the kit's printer with changes).
import Derived.Test.YtflngcegkhgocaaQFnExactIsSurex0
import Derived.Test.YtflngcegkhgocaaQFnExactIsSurex4
namespace Go.Proofs.Ytflngcegkhgocaa.PFnExactIsSure
open Go.RowKit Go.Proofs.YtflngcegkhgocaaW.PrintWords Go.Proofs.YtflngcegkhgocaaW.PrintLast Go.Proofs.YtflngcegkhgocaaW.PrintMore
attribute [local go_sem] max2_int min2_int max_two min_two max_three min_three max_four min_four   -- for this text's walks alone
set_option linter.unusedVariables false
set_option linter.unusedSimpArgs false

/-! ### impl_areNeighbors: function 78 -/
def impl_areNeighbors.f (a0_0 : Int) (l0_1 : List (S70)) (l0_2 : List (S72)) (a0_3 : Int) (a0_4 : Int) (a0_5 : Int) (a0_6 : Int) (a0_7 : Int) (l0_8 : List (S83)) (a0_9 : Int) (a1 : Int) (a2 : Int) : Option (Bool) := if a1 > a2 then (if a2 ≥ 0 then (if (wrap64 (a1 - a2)) = 1 then (some true) else (if a2 = 0 then (if a1 = (wrap64 (a0_0 - 1)) then ((impl_InRange.f a1 1 4).bind fun t271 => (some t271)) else (some false)) else (some false))) else (if a2 = 0 then (if a1 = (wrap64 (a0_0 - 1)) then ((impl_InRange.f a1 1 4).bind fun t272 => (some t272)) else (some false)) else (some false))) else (if a1 ≥ 0 then (if (wrap64 (a2 - a1)) = 1 then (some true) else (if a1 = 0 then (if a2 = (wrap64 (a0_0 - 1)) then ((impl_InRange.f a2 1 4).bind fun t273 => (some t273)) else (some false)) else (some false))) else (if a1 = 0 then (if a2 = (wrap64 (a0_0 - 1)) then ((impl_InRange.f a2 1 4).bind fun t274 => (some t274)) else (some false)) else (some false)))
set_option maxHeartbeats 8000000 in
set_option maxRecDepth 100000 in
theorem impl_areNeighbors.calls (a0_0 : Int) (A0_1 : Option Addr) (c0_1 : Nat) (l0_1 : List (S70)) (A0_2 : Option Addr) (c0_2 : Nat) (l0_2 : List (S72)) (a0_3 : Int) (a0_4 : Int) (a0_5 : Int) (a0_6 : Int) (a0_7 : Int) (A0_8 : Option Addr) (c0_8 : Nat) (l0_8 : List (S83)) (a0_9 : Int) (a1 : Int) (a2 : Int) (r : Bool) (w : World) (hr0_1 : Kd.C k70 w A0_1 l0_1.length l0_1) (hc0_1 : l0_1.length ≤ c0_1) (hr0_2 : Kd.C k72 w A0_2 l0_2.length l0_2) (hc0_2 : l0_2.length ≤ c0_2) (hr0_8 : Kd.C k83 w A0_8 l0_8.length l0_8) (hc0_8 : l0_8.length ≤ c0_8) (h : impl_areNeighbors.f a0_0 l0_1 l0_2 a0_3 a0_4 a0_5 a0_6 a0_7 l0_8 a0_9 a1 a2 = some r) :
  Calls Try.prog 78 #[.agg #[.int .i64 a0_0, .slice A0_1 l0_1.length c0_1, .slice A0_2 l0_2.length c0_2, .int .i64 a0_3, .int .i64 a0_4, .int .i64 a0_5, .int .i64 a0_6, .int .i64 a0_7, .slice A0_8 l0_8.length c0_8, .int .i64 a0_9], .int .i64 a1, .int .i64 a2] w fun e w' => e = .returned (.bool r) ∧ Below w.heap.size w w' := by
 have hu45 := Try.underlying45
 have HR0_1 := Aside0.mk hr0_1
 have HC0_1 := Aside0.mk hc0_1
 clear hr0_1 hc0_1
 have HR0_2 := Aside0.mk hr0_2
 have HC0_2 := Aside0.mk hc0_2
 clear hr0_2 hc0_2
 have HR0_8 := Aside0.mk hr0_8
 have HC0_8 := Aside0.mk hc0_8
 clear hr0_8 hc0_8
 have HB := Aside0.mk (Below.refl w.heap.size w)
 have H := h
 clear h
 unfold impl_areNeighbors.f at H
 by_cases c4 : a1 > a2
 ·rw [if_pos c4] at H
  have c4b0 : decide (a2 < a1) = true := decide_eq_true c4
  clear c4
  by_cases c5 : a2 ≥ 0
  ·rw [if_pos c5] at H
   have c5b0 : decide (0 ≤ a2) = true := decide_eq_true c5
   clear c5
   by_cases c6 : (wrap64 (a1 - a2)) = 1
   ·rw [if_pos c6] at H
    have c6b0 : ((wrap64 (a1 - a2)) == 1) = true := beq_iff_eq.mpr c6
    have c6b1 : ((wrap64 (a1 - a2)) != 1) = false := bne_eq_false_iff_eq.mpr c6
    clear c6
    obtain rfl := Option.some.inj H
    go_enter Try.func78, Try.ntmps78
    go_wp2_with (first | ((with_reducible refine gate_dst (N := 3) rfl ?_); refine box_event ?hg (N := 3) ?hd (cs := #[.int .i64 a0_0, .slice A0_1 l0_1.length c0_1, .slice A0_2 l0_2.length c0_2, .int .i64 a0_3, .int .i64 a0_4, .int .i64 a0_5, .int .i64 a0_6, .int .i64 a0_7, .slice A0_8 l0_8.length c0_8, .int .i64 a0_9]) (t := 45) ?hr ?_; (case hd => rfl); (case hg => rfl); (case hr => first | (go_simp; done) | (go_simp; rfl)); intro gb270 hg w7 hbox hb; have n0_ := Aside0.mk (below_step (bl_ HB) hb); have n1_ := Aside0.mk (hbox); have n2_ := Aside0.mk ((by rw [hg]; exact (below_size (bl_ HB)) : w.heap.size ≤ gb270)); have n3_ := Aside0.mk ((by rw [hg]; exact (below_size (bl_ HB)) : w.heap.size ≤ gb270)); clear HB; have HB := n0_; have BK270 := n1_; have GW270 := n2_; have GE270 := n3_; clear n0_ n1_ n2_ n3_; clear hb hbox hg))
    go_ret
    exact ⟨by first | rfl | (simp [errW_none, errW_some] <;> rfl) | (simp [*, errW_none, errW_some] <;> rfl), by repeat (first | (with_reducible first | exact HB.out | apply below_alloc | apply pw_below_drewN | apply below_drew1 | refine below_set ?_ GE270.out) | exact HB.out)⟩
   ·rw [if_neg c6] at H
    have c6b0 : ((wrap64 (a1 - a2)) == 1) = false := beq_eq_false_iff_ne.mpr c6
    have c6b1 : ((wrap64 (a1 - a2)) != 1) = true := bne_iff_ne.mpr c6
    by_cases c8 : a2 = 0
    ·rw [if_pos c8] at H
     have c8b0 : (a2 == 0) = true := beq_iff_eq.mpr c8
     have c8b1 : (a2 != 0) = false := bne_eq_false_iff_eq.mpr c8
     clear c8
     by_cases c9 : a1 = (wrap64 (a0_0 - 1))
     ·rw [if_pos c9] at H
      have c9b0 : (a1 == (wrap64 (a0_0 - 1))) = true := beq_iff_eq.mpr c9
      have c9b1 : (a1 != (wrap64 (a0_0 - 1))) = false := bne_eq_false_iff_eq.mpr c9
      clear c9
      replace H := Option.bind_eq_some_iff.mp H
      obtain ⟨t271, A100, H⟩ := H
      have A10 := Aside0.mk A100
      clear A100
      obtain rfl := Option.some.inj H
      go_enter Try.func78, Try.ntmps78
      go_wp2_with (first | ((with_reducible refine gate_dst (N := 3) rfl ?_); refine box_event ?hg (N := 3) ?hd (cs := #[.int .i64 a0_0, .slice A0_1 l0_1.length c0_1, .slice A0_2 l0_2.length c0_2, .int .i64 a0_3, .int .i64 a0_4, .int .i64 a0_5, .int .i64 a0_6, .int .i64 a0_7, .slice A0_8 l0_8.length c0_8, .int .i64 a0_9]) (t := 45) ?hr ?_; (case hd => rfl); (case hg => rfl); (case hr => first | (go_simp; done) | (go_simp; rfl)); intro gb270 hg w11 hbox hb; have n0_ := Aside0.mk (below_step (bl_ HB) hb); have n1_ := Aside0.mk (hbox); have n2_ := Aside0.mk ((by rw [hg]; exact (below_size (bl_ HB)) : w.heap.size ≤ gb270)); have n3_ := Aside0.mk ((by rw [hg]; exact (below_size (bl_ HB)) : w.heap.size ≤ gb270)); clear HB; have HB := n0_; have BK270 := n1_; have GW270 := n2_; have GE270 := n3_; clear n0_ n1_ n2_ n3_; clear hb hbox hg; have hcz12_0 : w11.cell? ⟨gb270, 0, none⟩ = some (.int .i64 a0_0) := bc_ BK270 0 rfl; have hcz12_1 : w11.cell? ⟨gb270, 1, none⟩ = some (.slice A0_1 l0_1.length c0_1) := bc_ BK270 1 rfl; have hcz12_2 : w11.cell? ⟨gb270, 2, none⟩ = some (.slice A0_2 l0_2.length c0_2) := bc_ BK270 2 rfl; have hcz12_3 : w11.cell? ⟨gb270, 3, none⟩ = some (.int .i64 a0_3) := bc_ BK270 3 rfl; have hcz12_4 : w11.cell? ⟨gb270, 4, none⟩ = some (.int .i64 a0_4) := bc_ BK270 4 rfl; have hcz12_5 : w11.cell? ⟨gb270, 5, none⟩ = some (.int .i64 a0_5) := bc_ BK270 5 rfl; have hcz12_6 : w11.cell? ⟨gb270, 6, none⟩ = some (.int .i64 a0_6) := bc_ BK270 6 rfl; have hcz12_7 : w11.cell? ⟨gb270, 7, none⟩ = some (.int .i64 a0_7) := bc_ BK270 7 rfl; have hcz12_8 : w11.cell? ⟨gb270, 8, none⟩ = some (.slice A0_8 l0_8.length c0_8) := bc_ BK270 8 rfl; have hcz12_9 : w11.cell? ⟨gb270, 9, none⟩ = some (.int .i64 a0_9) := bc_ BK270 9 rfl; have hfz12_0 := bf_ BK270 0; have hfz12_1 := bf_ BK270 1; have hfz12_2 := bf_ BK270 2; have hfz12_3 := bf_ BK270 3; have hfz12_4 := bf_ BK270 4; have hfz12_5 := bf_ BK270 5; have hfz12_6 := bf_ BK270 6; have hfz12_7 := bf_ BK270 7; have hfz12_8 := bf_ BK270 8; have hfz12_9 := bf_ BK270 9) | (go_at_call 73; (with_reducible refine (impl_InRange.calls a1 1 4 t271 _ A10.out).mono ?_); rintro e w' ⟨rfl, ⟨nd, rfl⟩⟩))
      go_ret
      exact ⟨by first | rfl | (simp [errW_none, errW_some] <;> rfl) | (simp [*, errW_none, errW_some] <;> rfl), by repeat (first | (with_reducible first | exact HB.out | apply below_alloc | apply pw_below_drewN | apply below_drew1 | refine below_set ?_ GE270.out) | exact HB.out)⟩
     ·rw [if_neg c9] at H
      have c9b0 : (a1 == (wrap64 (a0_0 - 1))) = false := beq_eq_false_iff_ne.mpr c9
      have c9b1 : (a1 != (wrap64 (a0_0 - 1))) = true := bne_iff_ne.mpr c9
      obtain rfl := Option.some.inj H
      go_enter Try.func78, Try.ntmps78
      go_wp2_with (first | ((with_reducible refine gate_dst (N := 3) rfl ?_); refine box_event ?hg (N := 3) ?hd (cs := #[.int .i64 a0_0, .slice A0_1 l0_1.length c0_1, .slice A0_2 l0_2.length c0_2, .int .i64 a0_3, .int .i64 a0_4, .int .i64 a0_5, .int .i64 a0_6, .int .i64 a0_7, .slice A0_8 l0_8.length c0_8, .int .i64 a0_9]) (t := 45) ?hr ?_; (case hd => rfl); (case hg => rfl); (case hr => first | (go_simp; done) | (go_simp; rfl)); intro gb270 hg w13 hbox hb; have n0_ := Aside0.mk (below_step (bl_ HB) hb); have n1_ := Aside0.mk (hbox); have n2_ := Aside0.mk ((by rw [hg]; exact (below_size (bl_ HB)) : w.heap.size ≤ gb270)); have n3_ := Aside0.mk ((by rw [hg]; exact (below_size (bl_ HB)) : w.heap.size ≤ gb270)); clear HB; have HB := n0_; have BK270 := n1_; have GW270 := n2_; have GE270 := n3_; clear n0_ n1_ n2_ n3_; clear hb hbox hg; have hcz14_0 : w13.cell? ⟨gb270, 0, none⟩ = some (.int .i64 a0_0) := bc_ BK270 0 rfl; have hcz14_1 : w13.cell? ⟨gb270, 1, none⟩ = some (.slice A0_1 l0_1.length c0_1) := bc_ BK270 1 rfl; have hcz14_2 : w13.cell? ⟨gb270, 2, none⟩ = some (.slice A0_2 l0_2.length c0_2) := bc_ BK270 2 rfl; have hcz14_3 : w13.cell? ⟨gb270, 3, none⟩ = some (.int .i64 a0_3) := bc_ BK270 3 rfl; have hcz14_4 : w13.cell? ⟨gb270, 4, none⟩ = some (.int .i64 a0_4) := bc_ BK270 4 rfl; have hcz14_5 : w13.cell? ⟨gb270, 5, none⟩ = some (.int .i64 a0_5) := bc_ BK270 5 rfl; have hcz14_6 : w13.cell? ⟨gb270, 6, none⟩ = some (.int .i64 a0_6) := bc_ BK270 6 rfl; have hcz14_7 : w13.cell? ⟨gb270, 7, none⟩ = some (.int .i64 a0_7) := bc_ BK270 7 rfl; have hcz14_8 : w13.cell? ⟨gb270, 8, none⟩ = some (.slice A0_8 l0_8.length c0_8) := bc_ BK270 8 rfl; have hcz14_9 : w13.cell? ⟨gb270, 9, none⟩ = some (.int .i64 a0_9) := bc_ BK270 9 rfl; have hfz14_0 := bf_ BK270 0; have hfz14_1 := bf_ BK270 1; have hfz14_2 := bf_ BK270 2; have hfz14_3 := bf_ BK270 3; have hfz14_4 := bf_ BK270 4; have hfz14_5 := bf_ BK270 5; have hfz14_6 := bf_ BK270 6; have hfz14_7 := bf_ BK270 7; have hfz14_8 := bf_ BK270 8; have hfz14_9 := bf_ BK270 9))
      go_ret
      exact ⟨by first | rfl | (simp [errW_none, errW_some] <;> rfl) | (simp [*, errW_none, errW_some] <;> rfl), by repeat (first | (with_reducible first | exact HB.out | apply below_alloc | apply pw_below_drewN | apply below_drew1 | refine below_set ?_ GE270.out) | exact HB.out)⟩
    ·rw [if_neg c8] at H
     have c8b0 : (a2 == 0) = false := beq_eq_false_iff_ne.mpr c8
     have c8b1 : (a2 != 0) = true := bne_iff_ne.mpr c8
     obtain rfl := Option.some.inj H
     go_enter Try.func78, Try.ntmps78
     go_wp2_with (first | ((with_reducible refine gate_dst (N := 3) rfl ?_); refine box_event ?hg (N := 3) ?hd (cs := #[.int .i64 a0_0, .slice A0_1 l0_1.length c0_1, .slice A0_2 l0_2.length c0_2, .int .i64 a0_3, .int .i64 a0_4, .int .i64 a0_5, .int .i64 a0_6, .int .i64 a0_7, .slice A0_8 l0_8.length c0_8, .int .i64 a0_9]) (t := 45) ?hr ?_; (case hd => rfl); (case hg => rfl); (case hr => first | (go_simp; done) | (go_simp; rfl)); intro gb270 hg w15 hbox hb; have n0_ := Aside0.mk (below_step (bl_ HB) hb); have n1_ := Aside0.mk (hbox); have n2_ := Aside0.mk ((by rw [hg]; exact (below_size (bl_ HB)) : w.heap.size ≤ gb270)); have n3_ := Aside0.mk ((by rw [hg]; exact (below_size (bl_ HB)) : w.heap.size ≤ gb270)); clear HB; have HB := n0_; have BK270 := n1_; have GW270 := n2_; have GE270 := n3_; clear n0_ n1_ n2_ n3_; clear hb hbox hg))
     go_ret
     exact ⟨by first | rfl | (simp [errW_none, errW_some] <;> rfl) | (simp [*, errW_none, errW_some] <;> rfl), by repeat (first | (with_reducible first | exact HB.out | apply below_alloc | apply pw_below_drewN | apply below_drew1 | refine below_set ?_ GE270.out) | exact HB.out)⟩
  ·rw [if_neg c5] at H
   have c5b0 : decide (0 ≤ a2) = false := decide_eq_false c5
   clear c5
   by_cases c16 : a2 = 0
   ·rw [if_pos c16] at H
    have c16b0 : (a2 == 0) = true := beq_iff_eq.mpr c16
    have c16b1 : (a2 != 0) = false := bne_eq_false_iff_eq.mpr c16
    clear c16
    by_cases c17 : a1 = (wrap64 (a0_0 - 1))
    ·rw [if_pos c17] at H
     have c17b0 : (a1 == (wrap64 (a0_0 - 1))) = true := beq_iff_eq.mpr c17
     have c17b1 : (a1 != (wrap64 (a0_0 - 1))) = false := bne_eq_false_iff_eq.mpr c17
     clear c17
     replace H := Option.bind_eq_some_iff.mp H
     obtain ⟨t272, A180, H⟩ := H
     have A18 := Aside0.mk A180
     clear A180
     obtain rfl := Option.some.inj H
     go_enter Try.func78, Try.ntmps78
     go_wp2_with (first | ((with_reducible refine gate_dst (N := 3) rfl ?_); refine box_event ?hg (N := 3) ?hd (cs := #[.int .i64 a0_0, .slice A0_1 l0_1.length c0_1, .slice A0_2 l0_2.length c0_2, .int .i64 a0_3, .int .i64 a0_4, .int .i64 a0_5, .int .i64 a0_6, .int .i64 a0_7, .slice A0_8 l0_8.length c0_8, .int .i64 a0_9]) (t := 45) ?hr ?_; (case hd => rfl); (case hg => rfl); (case hr => first | (go_simp; done) | (go_simp; rfl)); intro gb270 hg w19 hbox hb; have n0_ := Aside0.mk (below_step (bl_ HB) hb); have n1_ := Aside0.mk (hbox); have n2_ := Aside0.mk ((by rw [hg]; exact (below_size (bl_ HB)) : w.heap.size ≤ gb270)); have n3_ := Aside0.mk ((by rw [hg]; exact (below_size (bl_ HB)) : w.heap.size ≤ gb270)); clear HB; have HB := n0_; have BK270 := n1_; have GW270 := n2_; have GE270 := n3_; clear n0_ n1_ n2_ n3_; clear hb hbox hg; have hcz20_0 : w19.cell? ⟨gb270, 0, none⟩ = some (.int .i64 a0_0) := bc_ BK270 0 rfl; have hcz20_1 : w19.cell? ⟨gb270, 1, none⟩ = some (.slice A0_1 l0_1.length c0_1) := bc_ BK270 1 rfl; have hcz20_2 : w19.cell? ⟨gb270, 2, none⟩ = some (.slice A0_2 l0_2.length c0_2) := bc_ BK270 2 rfl; have hcz20_3 : w19.cell? ⟨gb270, 3, none⟩ = some (.int .i64 a0_3) := bc_ BK270 3 rfl; have hcz20_4 : w19.cell? ⟨gb270, 4, none⟩ = some (.int .i64 a0_4) := bc_ BK270 4 rfl; have hcz20_5 : w19.cell? ⟨gb270, 5, none⟩ = some (.int .i64 a0_5) := bc_ BK270 5 rfl; have hcz20_6 : w19.cell? ⟨gb270, 6, none⟩ = some (.int .i64 a0_6) := bc_ BK270 6 rfl; have hcz20_7 : w19.cell? ⟨gb270, 7, none⟩ = some (.int .i64 a0_7) := bc_ BK270 7 rfl; have hcz20_8 : w19.cell? ⟨gb270, 8, none⟩ = some (.slice A0_8 l0_8.length c0_8) := bc_ BK270 8 rfl; have hcz20_9 : w19.cell? ⟨gb270, 9, none⟩ = some (.int .i64 a0_9) := bc_ BK270 9 rfl; have hfz20_0 := bf_ BK270 0; have hfz20_1 := bf_ BK270 1; have hfz20_2 := bf_ BK270 2; have hfz20_3 := bf_ BK270 3; have hfz20_4 := bf_ BK270 4; have hfz20_5 := bf_ BK270 5; have hfz20_6 := bf_ BK270 6; have hfz20_7 := bf_ BK270 7; have hfz20_8 := bf_ BK270 8; have hfz20_9 := bf_ BK270 9) | (go_at_call 73; (with_reducible refine (impl_InRange.calls a1 1 4 t272 _ A18.out).mono ?_); rintro e w' ⟨rfl, ⟨nd, rfl⟩⟩))
     go_ret
     exact ⟨by first | rfl | (simp [errW_none, errW_some] <;> rfl) | (simp [*, errW_none, errW_some] <;> rfl), by repeat (first | (with_reducible first | exact HB.out | apply below_alloc | apply pw_below_drewN | apply below_drew1 | refine below_set ?_ GE270.out) | exact HB.out)⟩
    ·rw [if_neg c17] at H
     have c17b0 : (a1 == (wrap64 (a0_0 - 1))) = false := beq_eq_false_iff_ne.mpr c17
     have c17b1 : (a1 != (wrap64 (a0_0 - 1))) = true := bne_iff_ne.mpr c17
     obtain rfl := Option.some.inj H
     go_enter Try.func78, Try.ntmps78
     go_wp2_with (first | ((with_reducible refine gate_dst (N := 3) rfl ?_); refine box_event ?hg (N := 3) ?hd (cs := #[.int .i64 a0_0, .slice A0_1 l0_1.length c0_1, .slice A0_2 l0_2.length c0_2, .int .i64 a0_3, .int .i64 a0_4, .int .i64 a0_5, .int .i64 a0_6, .int .i64 a0_7, .slice A0_8 l0_8.length c0_8, .int .i64 a0_9]) (t := 45) ?hr ?_; (case hd => rfl); (case hg => rfl); (case hr => first | (go_simp; done) | (go_simp; rfl)); intro gb270 hg w21 hbox hb; have n0_ := Aside0.mk (below_step (bl_ HB) hb); have n1_ := Aside0.mk (hbox); have n2_ := Aside0.mk ((by rw [hg]; exact (below_size (bl_ HB)) : w.heap.size ≤ gb270)); have n3_ := Aside0.mk ((by rw [hg]; exact (below_size (bl_ HB)) : w.heap.size ≤ gb270)); clear HB; have HB := n0_; have BK270 := n1_; have GW270 := n2_; have GE270 := n3_; clear n0_ n1_ n2_ n3_; clear hb hbox hg; have hcz22_0 : w21.cell? ⟨gb270, 0, none⟩ = some (.int .i64 a0_0) := bc_ BK270 0 rfl; have hcz22_1 : w21.cell? ⟨gb270, 1, none⟩ = some (.slice A0_1 l0_1.length c0_1) := bc_ BK270 1 rfl; have hcz22_2 : w21.cell? ⟨gb270, 2, none⟩ = some (.slice A0_2 l0_2.length c0_2) := bc_ BK270 2 rfl; have hcz22_3 : w21.cell? ⟨gb270, 3, none⟩ = some (.int .i64 a0_3) := bc_ BK270 3 rfl; have hcz22_4 : w21.cell? ⟨gb270, 4, none⟩ = some (.int .i64 a0_4) := bc_ BK270 4 rfl; have hcz22_5 : w21.cell? ⟨gb270, 5, none⟩ = some (.int .i64 a0_5) := bc_ BK270 5 rfl; have hcz22_6 : w21.cell? ⟨gb270, 6, none⟩ = some (.int .i64 a0_6) := bc_ BK270 6 rfl; have hcz22_7 : w21.cell? ⟨gb270, 7, none⟩ = some (.int .i64 a0_7) := bc_ BK270 7 rfl; have hcz22_8 : w21.cell? ⟨gb270, 8, none⟩ = some (.slice A0_8 l0_8.length c0_8) := bc_ BK270 8 rfl; have hcz22_9 : w21.cell? ⟨gb270, 9, none⟩ = some (.int .i64 a0_9) := bc_ BK270 9 rfl; have hfz22_0 := bf_ BK270 0; have hfz22_1 := bf_ BK270 1; have hfz22_2 := bf_ BK270 2; have hfz22_3 := bf_ BK270 3; have hfz22_4 := bf_ BK270 4; have hfz22_5 := bf_ BK270 5; have hfz22_6 := bf_ BK270 6; have hfz22_7 := bf_ BK270 7; have hfz22_8 := bf_ BK270 8; have hfz22_9 := bf_ BK270 9))
     go_ret
     exact ⟨by first | rfl | (simp [errW_none, errW_some] <;> rfl) | (simp [*, errW_none, errW_some] <;> rfl), by repeat (first | (with_reducible first | exact HB.out | apply below_alloc | apply pw_below_drewN | apply below_drew1 | refine below_set ?_ GE270.out) | exact HB.out)⟩
   ·rw [if_neg c16] at H
    have c16b0 : (a2 == 0) = false := beq_eq_false_iff_ne.mpr c16
    have c16b1 : (a2 != 0) = true := bne_iff_ne.mpr c16
    obtain rfl := Option.some.inj H
    go_enter Try.func78, Try.ntmps78
    go_wp2_with (first | ((with_reducible refine gate_dst (N := 3) rfl ?_); refine box_event ?hg (N := 3) ?hd (cs := #[.int .i64 a0_0, .slice A0_1 l0_1.length c0_1, .slice A0_2 l0_2.length c0_2, .int .i64 a0_3, .int .i64 a0_4, .int .i64 a0_5, .int .i64 a0_6, .int .i64 a0_7, .slice A0_8 l0_8.length c0_8, .int .i64 a0_9]) (t := 45) ?hr ?_; (case hd => rfl); (case hg => rfl); (case hr => first | (go_simp; done) | (go_simp; rfl)); intro gb270 hg w23 hbox hb; have n0_ := Aside0.mk (below_step (bl_ HB) hb); have n1_ := Aside0.mk (hbox); have n2_ := Aside0.mk ((by rw [hg]; exact (below_size (bl_ HB)) : w.heap.size ≤ gb270)); have n3_ := Aside0.mk ((by rw [hg]; exact (below_size (bl_ HB)) : w.heap.size ≤ gb270)); clear HB; have HB := n0_; have BK270 := n1_; have GW270 := n2_; have GE270 := n3_; clear n0_ n1_ n2_ n3_; clear hb hbox hg))
    go_ret
    exact ⟨by first | rfl | (simp [errW_none, errW_some] <;> rfl) | (simp [*, errW_none, errW_some] <;> rfl), by repeat (first | (with_reducible first | exact HB.out | apply below_alloc | apply pw_below_drewN | apply below_drew1 | refine below_set ?_ GE270.out) | exact HB.out)⟩
 ·rw [if_neg c4] at H
  have c4b0 : decide (a2 < a1) = false := decide_eq_false c4
  clear c4
  by_cases c24 : a1 ≥ 0
  ·rw [if_pos c24] at H
   have c24b0 : decide (0 ≤ a1) = true := decide_eq_true c24
   clear c24
   by_cases c25 : (wrap64 (a2 - a1)) = 1
   ·rw [if_pos c25] at H
    have c25b0 : ((wrap64 (a2 - a1)) == 1) = true := beq_iff_eq.mpr c25
    have c25b1 : ((wrap64 (a2 - a1)) != 1) = false := bne_eq_false_iff_eq.mpr c25
    clear c25
    obtain rfl := Option.some.inj H
    go_enter Try.func78, Try.ntmps78
    go_wp2_with (first | ((with_reducible refine gate_dst (N := 3) rfl ?_); refine box_event ?hg (N := 3) ?hd (cs := #[.int .i64 a0_0, .slice A0_1 l0_1.length c0_1, .slice A0_2 l0_2.length c0_2, .int .i64 a0_3, .int .i64 a0_4, .int .i64 a0_5, .int .i64 a0_6, .int .i64 a0_7, .slice A0_8 l0_8.length c0_8, .int .i64 a0_9]) (t := 45) ?hr ?_; (case hd => rfl); (case hg => rfl); (case hr => first | (go_simp; done) | (go_simp; rfl)); intro gb270 hg w26 hbox hb; have n0_ := Aside0.mk (below_step (bl_ HB) hb); have n1_ := Aside0.mk (hbox); have n2_ := Aside0.mk ((by rw [hg]; exact (below_size (bl_ HB)) : w.heap.size ≤ gb270)); have n3_ := Aside0.mk ((by rw [hg]; exact (below_size (bl_ HB)) : w.heap.size ≤ gb270)); clear HB; have HB := n0_; have BK270 := n1_; have GW270 := n2_; have GE270 := n3_; clear n0_ n1_ n2_ n3_; clear hb hbox hg))
    go_ret
    exact ⟨by first | rfl | (simp [errW_none, errW_some] <;> rfl) | (simp [*, errW_none, errW_some] <;> rfl), by repeat (first | (with_reducible first | exact HB.out | apply below_alloc | apply pw_below_drewN | apply below_drew1 | refine below_set ?_ GE270.out) | exact HB.out)⟩
   ·rw [if_neg c25] at H
    have c25b0 : ((wrap64 (a2 - a1)) == 1) = false := beq_eq_false_iff_ne.mpr c25
    have c25b1 : ((wrap64 (a2 - a1)) != 1) = true := bne_iff_ne.mpr c25
    by_cases c27 : a1 = 0
    ·rw [if_pos c27] at H
     have c27b0 : (a1 == 0) = true := beq_iff_eq.mpr c27
     have c27b1 : (a1 != 0) = false := bne_eq_false_iff_eq.mpr c27
     clear c27
     by_cases c28 : a2 = (wrap64 (a0_0 - 1))
     ·rw [if_pos c28] at H
      have c28b0 : (a2 == (wrap64 (a0_0 - 1))) = true := beq_iff_eq.mpr c28
      have c28b1 : (a2 != (wrap64 (a0_0 - 1))) = false := bne_eq_false_iff_eq.mpr c28
      clear c28
      replace H := Option.bind_eq_some_iff.mp H
      obtain ⟨t273, A290, H⟩ := H
      have A29 := Aside0.mk A290
      clear A290
      obtain rfl := Option.some.inj H
      go_enter Try.func78, Try.ntmps78
      go_wp2_with (first | ((with_reducible refine gate_dst (N := 3) rfl ?_); refine box_event ?hg (N := 3) ?hd (cs := #[.int .i64 a0_0, .slice A0_1 l0_1.length c0_1, .slice A0_2 l0_2.length c0_2, .int .i64 a0_3, .int .i64 a0_4, .int .i64 a0_5, .int .i64 a0_6, .int .i64 a0_7, .slice A0_8 l0_8.length c0_8, .int .i64 a0_9]) (t := 45) ?hr ?_; (case hd => rfl); (case hg => rfl); (case hr => first | (go_simp; done) | (go_simp; rfl)); intro gb270 hg w30 hbox hb; have n0_ := Aside0.mk (below_step (bl_ HB) hb); have n1_ := Aside0.mk (hbox); have n2_ := Aside0.mk ((by rw [hg]; exact (below_size (bl_ HB)) : w.heap.size ≤ gb270)); have n3_ := Aside0.mk ((by rw [hg]; exact (below_size (bl_ HB)) : w.heap.size ≤ gb270)); clear HB; have HB := n0_; have BK270 := n1_; have GW270 := n2_; have GE270 := n3_; clear n0_ n1_ n2_ n3_; clear hb hbox hg; have hcz31_0 : w30.cell? ⟨gb270, 0, none⟩ = some (.int .i64 a0_0) := bc_ BK270 0 rfl; have hcz31_1 : w30.cell? ⟨gb270, 1, none⟩ = some (.slice A0_1 l0_1.length c0_1) := bc_ BK270 1 rfl; have hcz31_2 : w30.cell? ⟨gb270, 2, none⟩ = some (.slice A0_2 l0_2.length c0_2) := bc_ BK270 2 rfl; have hcz31_3 : w30.cell? ⟨gb270, 3, none⟩ = some (.int .i64 a0_3) := bc_ BK270 3 rfl; have hcz31_4 : w30.cell? ⟨gb270, 4, none⟩ = some (.int .i64 a0_4) := bc_ BK270 4 rfl; have hcz31_5 : w30.cell? ⟨gb270, 5, none⟩ = some (.int .i64 a0_5) := bc_ BK270 5 rfl; have hcz31_6 : w30.cell? ⟨gb270, 6, none⟩ = some (.int .i64 a0_6) := bc_ BK270 6 rfl; have hcz31_7 : w30.cell? ⟨gb270, 7, none⟩ = some (.int .i64 a0_7) := bc_ BK270 7 rfl; have hcz31_8 : w30.cell? ⟨gb270, 8, none⟩ = some (.slice A0_8 l0_8.length c0_8) := bc_ BK270 8 rfl; have hcz31_9 : w30.cell? ⟨gb270, 9, none⟩ = some (.int .i64 a0_9) := bc_ BK270 9 rfl; have hfz31_0 := bf_ BK270 0; have hfz31_1 := bf_ BK270 1; have hfz31_2 := bf_ BK270 2; have hfz31_3 := bf_ BK270 3; have hfz31_4 := bf_ BK270 4; have hfz31_5 := bf_ BK270 5; have hfz31_6 := bf_ BK270 6; have hfz31_7 := bf_ BK270 7; have hfz31_8 := bf_ BK270 8; have hfz31_9 := bf_ BK270 9) | (go_at_call 73; (with_reducible refine (impl_InRange.calls a2 1 4 t273 _ A29.out).mono ?_); rintro e w' ⟨rfl, ⟨nd, rfl⟩⟩))
      go_ret
      exact ⟨by first | rfl | (simp [errW_none, errW_some] <;> rfl) | (simp [*, errW_none, errW_some] <;> rfl), by repeat (first | (with_reducible first | exact HB.out | apply below_alloc | apply pw_below_drewN | apply below_drew1 | refine below_set ?_ GE270.out) | exact HB.out)⟩
     ·rw [if_neg c28] at H
      have c28b0 : (a2 == (wrap64 (a0_0 - 1))) = false := beq_eq_false_iff_ne.mpr c28
      have c28b1 : (a2 != (wrap64 (a0_0 - 1))) = true := bne_iff_ne.mpr c28
      obtain rfl := Option.some.inj H
      go_enter Try.func78, Try.ntmps78
      go_wp2_with (first | ((with_reducible refine gate_dst (N := 3) rfl ?_); refine box_event ?hg (N := 3) ?hd (cs := #[.int .i64 a0_0, .slice A0_1 l0_1.length c0_1, .slice A0_2 l0_2.length c0_2, .int .i64 a0_3, .int .i64 a0_4, .int .i64 a0_5, .int .i64 a0_6, .int .i64 a0_7, .slice A0_8 l0_8.length c0_8, .int .i64 a0_9]) (t := 45) ?hr ?_; (case hd => rfl); (case hg => rfl); (case hr => first | (go_simp; done) | (go_simp; rfl)); intro gb270 hg w32 hbox hb; have n0_ := Aside0.mk (below_step (bl_ HB) hb); have n1_ := Aside0.mk (hbox); have n2_ := Aside0.mk ((by rw [hg]; exact (below_size (bl_ HB)) : w.heap.size ≤ gb270)); have n3_ := Aside0.mk ((by rw [hg]; exact (below_size (bl_ HB)) : w.heap.size ≤ gb270)); clear HB; have HB := n0_; have BK270 := n1_; have GW270 := n2_; have GE270 := n3_; clear n0_ n1_ n2_ n3_; clear hb hbox hg; have hcz33_0 : w32.cell? ⟨gb270, 0, none⟩ = some (.int .i64 a0_0) := bc_ BK270 0 rfl; have hcz33_1 : w32.cell? ⟨gb270, 1, none⟩ = some (.slice A0_1 l0_1.length c0_1) := bc_ BK270 1 rfl; have hcz33_2 : w32.cell? ⟨gb270, 2, none⟩ = some (.slice A0_2 l0_2.length c0_2) := bc_ BK270 2 rfl; have hcz33_3 : w32.cell? ⟨gb270, 3, none⟩ = some (.int .i64 a0_3) := bc_ BK270 3 rfl; have hcz33_4 : w32.cell? ⟨gb270, 4, none⟩ = some (.int .i64 a0_4) := bc_ BK270 4 rfl; have hcz33_5 : w32.cell? ⟨gb270, 5, none⟩ = some (.int .i64 a0_5) := bc_ BK270 5 rfl; have hcz33_6 : w32.cell? ⟨gb270, 6, none⟩ = some (.int .i64 a0_6) := bc_ BK270 6 rfl; have hcz33_7 : w32.cell? ⟨gb270, 7, none⟩ = some (.int .i64 a0_7) := bc_ BK270 7 rfl; have hcz33_8 : w32.cell? ⟨gb270, 8, none⟩ = some (.slice A0_8 l0_8.length c0_8) := bc_ BK270 8 rfl; have hcz33_9 : w32.cell? ⟨gb270, 9, none⟩ = some (.int .i64 a0_9) := bc_ BK270 9 rfl; have hfz33_0 := bf_ BK270 0; have hfz33_1 := bf_ BK270 1; have hfz33_2 := bf_ BK270 2; have hfz33_3 := bf_ BK270 3; have hfz33_4 := bf_ BK270 4; have hfz33_5 := bf_ BK270 5; have hfz33_6 := bf_ BK270 6; have hfz33_7 := bf_ BK270 7; have hfz33_8 := bf_ BK270 8; have hfz33_9 := bf_ BK270 9))
      go_ret
      exact ⟨by first | rfl | (simp [errW_none, errW_some] <;> rfl) | (simp [*, errW_none, errW_some] <;> rfl), by repeat (first | (with_reducible first | exact HB.out | apply below_alloc | apply pw_below_drewN | apply below_drew1 | refine below_set ?_ GE270.out) | exact HB.out)⟩
    ·rw [if_neg c27] at H
     have c27b0 : (a1 == 0) = false := beq_eq_false_iff_ne.mpr c27
     have c27b1 : (a1 != 0) = true := bne_iff_ne.mpr c27
     obtain rfl := Option.some.inj H
     go_enter Try.func78, Try.ntmps78
     go_wp2_with (first | ((with_reducible refine gate_dst (N := 3) rfl ?_); refine box_event ?hg (N := 3) ?hd (cs := #[.int .i64 a0_0, .slice A0_1 l0_1.length c0_1, .slice A0_2 l0_2.length c0_2, .int .i64 a0_3, .int .i64 a0_4, .int .i64 a0_5, .int .i64 a0_6, .int .i64 a0_7, .slice A0_8 l0_8.length c0_8, .int .i64 a0_9]) (t := 45) ?hr ?_; (case hd => rfl); (case hg => rfl); (case hr => first | (go_simp; done) | (go_simp; rfl)); intro gb270 hg w34 hbox hb; have n0_ := Aside0.mk (below_step (bl_ HB) hb); have n1_ := Aside0.mk (hbox); have n2_ := Aside0.mk ((by rw [hg]; exact (below_size (bl_ HB)) : w.heap.size ≤ gb270)); have n3_ := Aside0.mk ((by rw [hg]; exact (below_size (bl_ HB)) : w.heap.size ≤ gb270)); clear HB; have HB := n0_; have BK270 := n1_; have GW270 := n2_; have GE270 := n3_; clear n0_ n1_ n2_ n3_; clear hb hbox hg))
     go_ret
     exact ⟨by first | rfl | (simp [errW_none, errW_some] <;> rfl) | (simp [*, errW_none, errW_some] <;> rfl), by repeat (first | (with_reducible first | exact HB.out | apply below_alloc | apply pw_below_drewN | apply below_drew1 | refine below_set ?_ GE270.out) | exact HB.out)⟩
  ·rw [if_neg c24] at H
   have c24b0 : decide (0 ≤ a1) = false := decide_eq_false c24
   clear c24
   by_cases c35 : a1 = 0
   ·rw [if_pos c35] at H
    have c35b0 : (a1 == 0) = true := beq_iff_eq.mpr c35
    have c35b1 : (a1 != 0) = false := bne_eq_false_iff_eq.mpr c35
    clear c35
    by_cases c36 : a2 = (wrap64 (a0_0 - 1))
    ·rw [if_pos c36] at H
     have c36b0 : (a2 == (wrap64 (a0_0 - 1))) = true := beq_iff_eq.mpr c36
     have c36b1 : (a2 != (wrap64 (a0_0 - 1))) = false := bne_eq_false_iff_eq.mpr c36
     clear c36
     replace H := Option.bind_eq_some_iff.mp H
     obtain ⟨t274, A370, H⟩ := H
     have A37 := Aside0.mk A370
     clear A370
     obtain rfl := Option.some.inj H
     go_enter Try.func78, Try.ntmps78
     go_wp2_with (first | ((with_reducible refine gate_dst (N := 3) rfl ?_); refine box_event ?hg (N := 3) ?hd (cs := #[.int .i64 a0_0, .slice A0_1 l0_1.length c0_1, .slice A0_2 l0_2.length c0_2, .int .i64 a0_3, .int .i64 a0_4, .int .i64 a0_5, .int .i64 a0_6, .int .i64 a0_7, .slice A0_8 l0_8.length c0_8, .int .i64 a0_9]) (t := 45) ?hr ?_; (case hd => rfl); (case hg => rfl); (case hr => first | (go_simp; done) | (go_simp; rfl)); intro gb270 hg w38 hbox hb; have n0_ := Aside0.mk (below_step (bl_ HB) hb); have n1_ := Aside0.mk (hbox); have n2_ := Aside0.mk ((by rw [hg]; exact (below_size (bl_ HB)) : w.heap.size ≤ gb270)); have n3_ := Aside0.mk ((by rw [hg]; exact (below_size (bl_ HB)) : w.heap.size ≤ gb270)); clear HB; have HB := n0_; have BK270 := n1_; have GW270 := n2_; have GE270 := n3_; clear n0_ n1_ n2_ n3_; clear hb hbox hg; have hcz39_0 : w38.cell? ⟨gb270, 0, none⟩ = some (.int .i64 a0_0) := bc_ BK270 0 rfl; have hcz39_1 : w38.cell? ⟨gb270, 1, none⟩ = some (.slice A0_1 l0_1.length c0_1) := bc_ BK270 1 rfl; have hcz39_2 : w38.cell? ⟨gb270, 2, none⟩ = some (.slice A0_2 l0_2.length c0_2) := bc_ BK270 2 rfl; have hcz39_3 : w38.cell? ⟨gb270, 3, none⟩ = some (.int .i64 a0_3) := bc_ BK270 3 rfl; have hcz39_4 : w38.cell? ⟨gb270, 4, none⟩ = some (.int .i64 a0_4) := bc_ BK270 4 rfl; have hcz39_5 : w38.cell? ⟨gb270, 5, none⟩ = some (.int .i64 a0_5) := bc_ BK270 5 rfl; have hcz39_6 : w38.cell? ⟨gb270, 6, none⟩ = some (.int .i64 a0_6) := bc_ BK270 6 rfl; have hcz39_7 : w38.cell? ⟨gb270, 7, none⟩ = some (.int .i64 a0_7) := bc_ BK270 7 rfl; have hcz39_8 : w38.cell? ⟨gb270, 8, none⟩ = some (.slice A0_8 l0_8.length c0_8) := bc_ BK270 8 rfl; have hcz39_9 : w38.cell? ⟨gb270, 9, none⟩ = some (.int .i64 a0_9) := bc_ BK270 9 rfl; have hfz39_0 := bf_ BK270 0; have hfz39_1 := bf_ BK270 1; have hfz39_2 := bf_ BK270 2; have hfz39_3 := bf_ BK270 3; have hfz39_4 := bf_ BK270 4; have hfz39_5 := bf_ BK270 5; have hfz39_6 := bf_ BK270 6; have hfz39_7 := bf_ BK270 7; have hfz39_8 := bf_ BK270 8; have hfz39_9 := bf_ BK270 9) | (go_at_call 73; (with_reducible refine (impl_InRange.calls a2 1 4 t274 _ A37.out).mono ?_); rintro e w' ⟨rfl, ⟨nd, rfl⟩⟩))
     go_ret
     exact ⟨by first | rfl | (simp [errW_none, errW_some] <;> rfl) | (simp [*, errW_none, errW_some] <;> rfl), by repeat (first | (with_reducible first | exact HB.out | apply below_alloc | apply pw_below_drewN | apply below_drew1 | refine below_set ?_ GE270.out) | exact HB.out)⟩
    ·rw [if_neg c36] at H
     have c36b0 : (a2 == (wrap64 (a0_0 - 1))) = false := beq_eq_false_iff_ne.mpr c36
     have c36b1 : (a2 != (wrap64 (a0_0 - 1))) = true := bne_iff_ne.mpr c36
     obtain rfl := Option.some.inj H
     go_enter Try.func78, Try.ntmps78
     go_wp2_with (first | ((with_reducible refine gate_dst (N := 3) rfl ?_); refine box_event ?hg (N := 3) ?hd (cs := #[.int .i64 a0_0, .slice A0_1 l0_1.length c0_1, .slice A0_2 l0_2.length c0_2, .int .i64 a0_3, .int .i64 a0_4, .int .i64 a0_5, .int .i64 a0_6, .int .i64 a0_7, .slice A0_8 l0_8.length c0_8, .int .i64 a0_9]) (t := 45) ?hr ?_; (case hd => rfl); (case hg => rfl); (case hr => first | (go_simp; done) | (go_simp; rfl)); intro gb270 hg w40 hbox hb; have n0_ := Aside0.mk (below_step (bl_ HB) hb); have n1_ := Aside0.mk (hbox); have n2_ := Aside0.mk ((by rw [hg]; exact (below_size (bl_ HB)) : w.heap.size ≤ gb270)); have n3_ := Aside0.mk ((by rw [hg]; exact (below_size (bl_ HB)) : w.heap.size ≤ gb270)); clear HB; have HB := n0_; have BK270 := n1_; have GW270 := n2_; have GE270 := n3_; clear n0_ n1_ n2_ n3_; clear hb hbox hg; have hcz41_0 : w40.cell? ⟨gb270, 0, none⟩ = some (.int .i64 a0_0) := bc_ BK270 0 rfl; have hcz41_1 : w40.cell? ⟨gb270, 1, none⟩ = some (.slice A0_1 l0_1.length c0_1) := bc_ BK270 1 rfl; have hcz41_2 : w40.cell? ⟨gb270, 2, none⟩ = some (.slice A0_2 l0_2.length c0_2) := bc_ BK270 2 rfl; have hcz41_3 : w40.cell? ⟨gb270, 3, none⟩ = some (.int .i64 a0_3) := bc_ BK270 3 rfl; have hcz41_4 : w40.cell? ⟨gb270, 4, none⟩ = some (.int .i64 a0_4) := bc_ BK270 4 rfl; have hcz41_5 : w40.cell? ⟨gb270, 5, none⟩ = some (.int .i64 a0_5) := bc_ BK270 5 rfl; have hcz41_6 : w40.cell? ⟨gb270, 6, none⟩ = some (.int .i64 a0_6) := bc_ BK270 6 rfl; have hcz41_7 : w40.cell? ⟨gb270, 7, none⟩ = some (.int .i64 a0_7) := bc_ BK270 7 rfl; have hcz41_8 : w40.cell? ⟨gb270, 8, none⟩ = some (.slice A0_8 l0_8.length c0_8) := bc_ BK270 8 rfl; have hcz41_9 : w40.cell? ⟨gb270, 9, none⟩ = some (.int .i64 a0_9) := bc_ BK270 9 rfl; have hfz41_0 := bf_ BK270 0; have hfz41_1 := bf_ BK270 1; have hfz41_2 := bf_ BK270 2; have hfz41_3 := bf_ BK270 3; have hfz41_4 := bf_ BK270 4; have hfz41_5 := bf_ BK270 5; have hfz41_6 := bf_ BK270 6; have hfz41_7 := bf_ BK270 7; have hfz41_8 := bf_ BK270 8; have hfz41_9 := bf_ BK270 9))
     go_ret
     exact ⟨by first | rfl | (simp [errW_none, errW_some] <;> rfl) | (simp [*, errW_none, errW_some] <;> rfl), by repeat (first | (with_reducible first | exact HB.out | apply below_alloc | apply pw_below_drewN | apply below_drew1 | refine below_set ?_ GE270.out) | exact HB.out)⟩
   ·rw [if_neg c35] at H
    have c35b0 : (a1 == 0) = false := beq_eq_false_iff_ne.mpr c35
    have c35b1 : (a1 != 0) = true := bne_iff_ne.mpr c35
    obtain rfl := Option.some.inj H
    go_enter Try.func78, Try.ntmps78
    go_wp2_with (first | ((with_reducible refine gate_dst (N := 3) rfl ?_); refine box_event ?hg (N := 3) ?hd (cs := #[.int .i64 a0_0, .slice A0_1 l0_1.length c0_1, .slice A0_2 l0_2.length c0_2, .int .i64 a0_3, .int .i64 a0_4, .int .i64 a0_5, .int .i64 a0_6, .int .i64 a0_7, .slice A0_8 l0_8.length c0_8, .int .i64 a0_9]) (t := 45) ?hr ?_; (case hd => rfl); (case hg => rfl); (case hr => first | (go_simp; done) | (go_simp; rfl)); intro gb270 hg w42 hbox hb; have n0_ := Aside0.mk (below_step (bl_ HB) hb); have n1_ := Aside0.mk (hbox); have n2_ := Aside0.mk ((by rw [hg]; exact (below_size (bl_ HB)) : w.heap.size ≤ gb270)); have n3_ := Aside0.mk ((by rw [hg]; exact (below_size (bl_ HB)) : w.heap.size ≤ gb270)); clear HB; have HB := n0_; have BK270 := n1_; have GW270 := n2_; have GE270 := n3_; clear n0_ n1_ n2_ n3_; clear hb hbox hg))
    go_ret
    exact ⟨by first | rfl | (simp [errW_none, errW_some] <;> rfl) | (simp [*, errW_none, errW_some] <;> rfl), by repeat (first | (with_reducible first | exact HB.out | apply below_alloc | apply pw_below_drewN | apply below_drew1 | refine below_set ?_ GE270.out) | exact HB.out)⟩

end Go.Proofs.Ytflngcegkhgocaa.PFnExactIsSure
