/- The row of FnExactEqualTables: at every input it returns true and leaves its arguments as they were. Whether two tables are equal is told alike by the program and the reference, for any two tables of at most 2^20 entries together. No condition beyond the row's own. -/
import Derived.Test.YtcmjdiceljbboaaRows
import Derived.Test.YtcmjdiceljbboaaQFnExactEqualTablesx
import Derived.Test.YtcmjdiceljbboaaPureFnExactEqualTables
import Derived.Test.YtcmjdiceljbboaaKOpens
import Derived.WalkKit
import Derived.ProofKit
import Derived.OpenShut
import Derived.ShutString
import Derived.ChangeOld
import Derived.Below
import Derived.SizedLaws
namespace Go.Proofs.Ytcmjdiceljbboaa.fnExactEqualTables
open Go.ChangeShapes Go.WideShapes Go.ChangeAt Go.RowKit Go.Proofs.Ytcmjdiceljbboaa.Rd Go.Proofs.Ytcmjdiceljbboaa.PFnExactEqualTables Go.Proofs.YtcmjdiceljbboaaW.PrintWords
theorem own : ownKnob Try.prog.godebug = none := by kernel_rfl
theorem laidOut : laidOutB Try.prog = true := by kernel_rfl
theorem opens57 : Opens Try.prog 57 (Kd.pair (Kd.int .i64) (Kd.pair (Kd.slice 3 (Kd.int .i64)) (Kd.slice 3 (Kd.int .i64)))) (fun x => ((Lit.int .i64 x.1).wf = true ∧ (∀ x0 ∈ x.2.1, (Lit.int .i64 x0).wf = true) ∧ (∀ x0 ∈ x.2.2, (Lit.int .i64 x0).wf = true))) := (Opens.struct (P := Try.prog) (fun x => x) (fun v => v) (fun _ => rfl) Try.underlying57 (by kernel_rfl) (OpensF.cons rfl (Opens.int (P := Try.prog) Try.underlying3 (by kernel_rfl)) (OpensF.cons rfl (Opens.slice (P := Try.prog) Try.underlying28 (by kernel_rfl) (Opens.int (P := Try.prog) Try.underlying3 (by kernel_rfl))) (OpensF.one rfl (Opens.slice (P := Try.prog) Try.underlying28 (by kernel_rfl) (Opens.int (P := Try.prog) Try.underlying3 (by kernel_rfl)))))))
set_option maxRecDepth 100000 in
theorem lifted (os : Os) (started : os.Started) (H : Type) (enc : TypeId × Value → H) :
    ReturnsInHanded {} Try.checked os 11 .any (Rows.fnExactEqualTablesSpec.pre6 enc Try.prog Try.f11 Rows.fnExactEqualTablesRow.domain false) (Rows.fnExactEqualTablesSpec.post enc Try.prog Try.f11 false true false false) := by
  refine returnsInHanded_of_change_sized (C := Try.checked) own started (by kernel_rfl) Try.func11
    (ChangeSpec.witness6 (enc := enc) (C := Try.checked) false ⟨#[], #[.agg #[.int .i64 0, .slice none 0 0, .slice none 0 0], .agg #[.int .i64 0, .slice none 0 0, .slice none 0 0]], []⟩ 8 (by kernel_rfl) (by kernel_rfl) (by kernel_rfl) (by kernel_rfl)) ?_
  intro W base args ds gs before hval0 hW hcnd hsz0 _
  have hval : ∀ (j : Nat) t v, Try.f11.params[j]? = some t → args[j]? = some v → Value.okWide Try.prog W .any base t v := hval0
  have hW' := hW
  obtain ⟨p, q, hA0, hV, rfl, hfz, hnd⟩ := hW
  have hA : DataW.TrodAll enc Try.prog W 0 (fun _ => true) true Try.f11.params.toList args.toList ds p := hA0
  rw [Try.params11] at hA hval
  obtain ⟨v0, vs0, d0, ds0, p0, q0, hargs, rfl, rfl, h0, r0⟩ := trodAll_cons hA
  obtain ⟨v1, vs1, d1, ds1, p1, q1, rfl, rfl, rfl, h1, r1⟩ := trodAll_cons r0
  obtain ⟨rfl, rfl, rfl⟩ := trodAll_nil r1
  obtain rfl : args = #[v0, v1] := by cases args; simp_all
  obtain ⟨rfl, rfl⟩ := trodVars_none hV
  have k0_ := h0
  have lt0 : ∀ x ∈ p0, x.block < W.heap.size := by obtain ⟨m, hm⟩ := k0_; exact DataW.trod_lt m _ _ _ hm
  obtain ⟨c0, rfl, hcs0⟩ := okWide_struct Try.underlying57 (hval 0 57 v0 rfl rfl)
  obtain ⟨fuel0, hf0⟩ := h0
  obtain ⟨u0, hK0, hok0⟩ := opens57.2 H enc W _ _ _ fuel0 _ _ hf0
  obtain ⟨x0_0, y0_0, hy0_0, rfl, ⟨x0_1, y0_1, hy0_1, ⟨A0_1, c0_1, rfl, hc0_1, hr0_1⟩, ⟨A0_2, c0_2, rfl, hc0_2, hr0_2⟩⟩⟩ := hK0
  have k1_ := h1
  have lt1 : ∀ x ∈ p1, x.block < W.heap.size := by obtain ⟨m, hm⟩ := k1_; exact DataW.trod_lt m _ _ _ hm
  obtain ⟨c1, rfl, hcs1⟩ := okWide_struct Try.underlying57 (hval 1 57 v1 rfl rfl)
  obtain ⟨fuel1, hf1⟩ := h1
  obtain ⟨u1, hK1, hok1⟩ := opens57.2 H enc W _ _ _ fuel1 _ _ hf1
  obtain ⟨x1_0, y1_0, hy1_0, rfl, ⟨x1_1, y1_1, hy1_1, ⟨A1_1, c1_1, rfl, hc1_1, hr1_1⟩, ⟨A1_2, c1_2, rfl, hc1_2, hr1_2⟩⟩⟩ := hK1
  obtain rfl : c0 = #[.int .i64 u0.1, .slice A0_1 u0.2.1.length c0_1, .slice A0_2 u0.2.2.length c0_2] := by
    cases c0
    simp only [Value.cells, hy0_1] at hy0_0
    simpa using hy0_0
  obtain rfl : c1 = #[.int .i64 u1.1, .slice A1_1 u1.2.1.length c1_1, .slice A1_2 u1.2.2.length c1_2] := by
    cases c1
    simp only [Value.cells, hy1_1] at hy1_0
    simpa using hy1_0
  obtain ⟨k, hk⟩ := Pure.FnExactEqualTables u0.1 u0.2.1 u0.2.2 u1.1 u1.2.1 u1.2.2 (Kd.C_max hr0_1) (Kd.C_max hr0_2) (Kd.C_max hr1_1) (Kd.C_max hr1_2)
  clear hA0 hval0 hsz0
  refine (laws_FnExactEqualTables.calls k u0.1 _ _ u0.2.1 _ _ u0.2.2 u1.1 _ _ u1.2.1 _ _ u1.2.2 true W hr0_1 hc0_1 hr0_2 hc0_2 hr1_1 hc1_1 hr1_2 hc1_2 hk).mono fun e W' ⟨he, bel⟩ => ?_
  subst he
  exact ⟨_, rfl, _, _, _, [], _, [], hW', trodAll_mk1 (shut_bool Try.underlying4 _), (trodAll_cons_mk (Below.trod laidOut (by kernel_rfl) (of_decide_eq_true (by kernel_rfl)) k0_ bel lt0) (trodAll_cons_mk (Below.trod laidOut (by kernel_rfl) (of_decide_eq_true (by kernel_rfl)) k1_ bel lt1) trodAll_mk0)), rfl, bel.frame _, fun h => by cases h⟩
theorem over : Rows.fnExactEqualTablesRow.holds Try.pinned (OpenSpec.ofChange Rows.fnExactEqualTablesSpec) :=
  OpenClaim.holds_of_wide 11 Try.f11 rfl rfl rfl rfl rfl rfl rfl ⟨rfl, rfl, rfl, rfl, rfl⟩ rfl rfl rfl rfl rfl (by kernel_rfl) Try.func11 (by kernel_rfl)
    (of_decide_eq_true (by kernel_rfl)) (by unfold Func.isWrapper; first | (rw [if_pos (by decide +kernel)]; kernel_rfl) | (rw [if_neg (by decide +kernel)]; exact ⟨rfl, rfl⟩))
    (fun os started H enc _ => lifted os started H enc)
end Go.Proofs.Ytcmjdiceljbboaa.fnExactEqualTables
namespace Go.Proofs.Ytcmjdiceljbboaa
theorem fnExactEqualTables_holds : Rows.FnExactEqualTablesSaid := fnExactEqualTables.over
#print axioms fnExactEqualTables_holds
end Go.Proofs.Ytcmjdiceljbboaa
