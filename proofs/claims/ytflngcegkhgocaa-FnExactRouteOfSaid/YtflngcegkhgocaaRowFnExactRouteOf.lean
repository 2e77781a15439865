/- The row of FnExactRouteOf: at every input it returns true and leaves its arguments as they were. The route of a table is one list in the program and in the reference, for every table of at most 2^20 entries and every start. No condition beyond the row's own. -/
import Derived.Test.YtflngcegkhgocaaRows
import Derived.Test.YtflngcegkhgocaaQFnExactRouteOfx
import Derived.Test.YtflngcegkhgocaaPureFnExactRouteOf
import Derived.Test.YtflngcegkhgocaaKOpens
import Derived.WalkKit
import Derived.ProofKit
import Derived.OpenShut
import Derived.ShutString
import Derived.ChangeOld
import Derived.Below
import Derived.SizedLaws
namespace Go.Proofs.Ytflngcegkhgocaa.fnExactRouteOf
open Go.ChangeShapes Go.WideShapes Go.ChangeAt Go.RowKit Go.Proofs.Ytflngcegkhgocaa.Rd Go.Proofs.Ytflngcegkhgocaa.PFnExactRouteOf Go.Proofs.YtflngcegkhgocaaW.PrintWords
theorem own : ownKnob Try.prog.godebug = none := by kernel_rfl
theorem laidOut : laidOutB Try.prog = true := by kernel_rfl
theorem opens24 : Opens Try.prog 24 (Kd.pair (Kd.int .i64) (Kd.pair (Kd.slice 3 (Kd.int .i64)) (Kd.slice 3 (Kd.int .i64)))) (fun x => ((Lit.int .i64 x.1).wf = true ∧ (∀ x0 ∈ x.2.1, (Lit.int .i64 x0).wf = true) ∧ (∀ x0 ∈ x.2.2, (Lit.int .i64 x0).wf = true))) := (Opens.struct (P := Try.prog) (fun x => x) (fun v => v) (fun _ => rfl) Try.underlying24 (by kernel_rfl) (OpensF.cons rfl (Opens.int (P := Try.prog) Try.underlying3 (by kernel_rfl)) (OpensF.cons rfl (Opens.slice (P := Try.prog) Try.underlying22 (by kernel_rfl) (Opens.int (P := Try.prog) Try.underlying3 (by kernel_rfl))) (OpensF.one rfl (Opens.slice (P := Try.prog) Try.underlying22 (by kernel_rfl) (Opens.int (P := Try.prog) Try.underlying3 (by kernel_rfl)))))))
set_option maxRecDepth 100000 in
theorem lifted (os : Os) (started : os.Started) (H : Type) (enc : TypeId × Value → H) :
    ReturnsInHanded {} Try.checked os 3 .any (Rows.fnExactRouteOfSpec.pre6 enc Try.prog Try.f3 Rows.fnExactRouteOfRow.domain false) (Rows.fnExactRouteOfSpec.post enc Try.prog Try.f3 false true false false) := by
  refine returnsInHanded_of_change_sized (C := Try.checked) own started (by kernel_rfl) Try.func3
    (ChangeSpec.witness6 (enc := enc) (C := Try.checked) false ⟨#[], #[.agg #[.int .i64 0, .slice none 0 0, .slice none 0 0], .int .i64 0], []⟩ 8 (by kernel_rfl) (by kernel_rfl) (by kernel_rfl) (by kernel_rfl)) ?_
  intro W base args ds gs before hval0 hW hcnd hsz0 _
  have hval : ∀ (j : Nat) t v, Try.f3.params[j]? = some t → args[j]? = some v → Value.okWide Try.prog W .any base t v := hval0
  have hW' := hW
  obtain ⟨p, q, hA0, hV, rfl, hfz, hnd⟩ := hW
  have hA : DataW.TrodAll enc Try.prog W 0 (fun _ => true) true Try.f3.params.toList args.toList ds p := hA0
  rw [Try.params3] at hA hval
  obtain ⟨v0, vs0, d0, ds0, p0, q0, hargs, rfl, rfl, h0, r0⟩ := trodAll_cons hA
  obtain ⟨v1, vs1, d1, ds1, p1, q1, rfl, rfl, rfl, h1, r1⟩ := trodAll_cons r0
  obtain ⟨rfl, rfl, rfl⟩ := trodAll_nil r1
  obtain rfl : args = #[v0, v1] := by cases args; simp_all
  obtain ⟨rfl, rfl⟩ := trodVars_none hV
  have k0_ := h0
  have lt0 : ∀ x ∈ p0, x.block < W.heap.size := by obtain ⟨m, hm⟩ := k0_; exact DataW.trod_lt m _ _ _ hm
  obtain ⟨c0, rfl, hcs0⟩ := okWide_struct Try.underlying24 (hval 0 24 v0 rfl rfl)
  obtain ⟨fuel0, hf0⟩ := h0
  obtain ⟨u0, hK0, hok0⟩ := opens24.2 H enc W _ _ _ fuel0 _ _ hf0
  obtain ⟨x0_0, y0_0, hy0_0, rfl, ⟨x0_1, y0_1, hy0_1, ⟨A0_1, c0_1, rfl, hc0_1, hr0_1⟩, ⟨A0_2, c0_2, rfl, hc0_2, hr0_2⟩⟩⟩ := hK0
  obtain ⟨a1, rfl, rfl, rfl, w1⟩ := open_int Try.underlying3 (hval 1 3 v1 rfl rfl) h1
  obtain rfl : c0 = #[.int .i64 u0.1, .slice A0_1 u0.2.1.length c0_1, .slice A0_2 u0.2.2.length c0_2] := by
    cases c0
    simp only [Value.cells, hy0_1] at hy0_0
    simpa using hy0_0
  obtain ⟨k, hk⟩ := Pure.FnExactRouteOf u0.1 u0.2.1 u0.2.2 a1 (hr0_1).2.1 (hr0_2).2.1
  clear hA0 hval0 hsz0
  refine (laws_FnExactRouteOf.calls k u0.1 _ _ u0.2.1 _ _ u0.2.2 a1 true W hr0_1 hc0_1 hr0_2 hc0_2 hk).mono fun e W' ⟨he, bel⟩ => ?_
  subst he
  exact ⟨_, rfl, _, _, _, [], _, [], hW', trodAll_mk1 (shut_bool Try.underlying4 _), (trodAll_cons_mk (Below.trod laidOut (by kernel_rfl) (of_decide_eq_true (by kernel_rfl)) k0_ bel lt0) (trodAll_cons_mk (shut_int Try.underlying3 w1) trodAll_mk0)), rfl, bel.frame _, fun h => by cases h⟩
theorem over : Rows.fnExactRouteOfRow.holds Try.pinned (OpenSpec.ofChange Rows.fnExactRouteOfSpec) :=
  OpenClaim.holds_of_wide 3 Try.f3 rfl rfl rfl rfl rfl rfl rfl ⟨rfl, rfl, rfl, rfl, rfl⟩ rfl rfl rfl rfl rfl (by kernel_rfl) Try.func3 (by kernel_rfl)
    (of_decide_eq_true (by kernel_rfl)) (by unfold Func.isWrapper; first | (rw [if_pos (by decide +kernel)]; kernel_rfl) | (rw [if_neg (by decide +kernel)]; exact ⟨rfl, rfl⟩))
    (fun os started H enc _ => lifted os started H enc)
end Go.Proofs.Ytflngcegkhgocaa.fnExactRouteOf
namespace Go.Proofs.Ytflngcegkhgocaa
theorem fnExactRouteOf_holds : Rows.FnExactRouteOfSaid := fnExactRouteOf.over
#print axioms fnExactRouteOf_holds
end Go.Proofs.Ytflngcegkhgocaa
