/- The row of FnExactIsPacked: at every input it returns true and leaves its arguments as they were. Whether a list of runs is packed is told alike by the program and the reference, for every list of at most 2^20 runs. No condition beyond the row's own. -/
import Derived.Test.YtcmjdiceljbboaaRows
import Derived.Test.YtcmjdiceljbboaaQFnExactIsPackedx
import Derived.Test.YtcmjdiceljbboaaPureFnExactIsPacked
import Derived.Test.YtcmjdiceljbboaaKOpens
import Derived.WalkKit
import Derived.ProofKit
import Derived.OpenShut
import Derived.ShutString
import Derived.ChangeOld
import Derived.Below
import Derived.SizedLaws
namespace Go.Proofs.Ytcmjdiceljbboaa.fnExactIsPacked
open Go.ChangeShapes Go.WideShapes Go.ChangeAt Go.RowKit Go.Proofs.Ytcmjdiceljbboaa.Rd Go.Proofs.Ytcmjdiceljbboaa.PFnExactIsPacked Go.Proofs.YtcmjdiceljbboaaW.PrintWords
theorem own : ownKnob Try.prog.godebug = none := by kernel_rfl
theorem laidOut : laidOutB Try.prog = true := by kernel_rfl
theorem opens49 : Opens Try.prog 49 (Kd.slice 87 k87) (fun x => (∀ x0 ∈ x, ((Lit.int .i64 x0.f0).wf = true ∧ (Lit.int .i64 x0.f1).wf = true))) := (Opens.slice (P := Try.prog) Try.underlying49 (by kernel_rfl) (Opens.struct (P := Try.prog) (fun x : S87 => (x.f0, x.f1)) (fun v => ⟨v.1, v.2⟩) (fun _ => rfl) Try.underlying87 (by kernel_rfl) (OpensF.cons rfl (Opens.int (P := Try.prog) Try.underlying3 (by kernel_rfl)) (OpensF.one rfl (Opens.int (P := Try.prog) Try.underlying3 (by kernel_rfl))))))
set_option maxRecDepth 100000 in
theorem lifted (os : Os) (started : os.Started) (H : Type) (enc : TypeId × Value → H) :
    ReturnsInHanded {} Try.checked os 8 .any (Rows.fnExactIsPackedSpec.pre6 enc Try.prog Try.f8 Rows.fnExactIsPackedRow.domain false) (Rows.fnExactIsPackedSpec.post enc Try.prog Try.f8 false true false false) := by
  refine returnsInHanded_of_change_sized (C := Try.checked) own started (by kernel_rfl) Try.func8
    (ChangeSpec.witness6 (enc := enc) (C := Try.checked) false ⟨#[], #[.slice none 0 0], []⟩ 8 (by kernel_rfl) (by kernel_rfl) (by kernel_rfl) (by kernel_rfl)) ?_
  intro W base args ds gs before hval0 hW hcnd hsz0 _
  have hval : ∀ (j : Nat) t v, Try.f8.params[j]? = some t → args[j]? = some v → Value.okWide Try.prog W .any base t v := hval0
  have hW' := hW
  obtain ⟨p, q, hA0, hV, rfl, hfz, hnd⟩ := hW
  have hA : DataW.TrodAll enc Try.prog W 0 (fun _ => true) true Try.f8.params.toList args.toList ds p := hA0
  rw [Try.params8] at hA hval
  obtain ⟨v0, vs0, d0, ds0, p0, q0, hargs, rfl, rfl, h0, r0⟩ := trodAll_cons hA
  obtain ⟨rfl, rfl, rfl⟩ := trodAll_nil r0
  obtain rfl : args = #[v0] := by cases args; simp_all
  obtain ⟨rfl, rfl⟩ := trodVars_none hV
  have k0_ := h0
  have lt0 : ∀ x ∈ p0, x.block < W.heap.size := by obtain ⟨m, hm⟩ := k0_; exact DataW.trod_lt m _ _ _ hm
  obtain ⟨A0, len0, cap0, rfl⟩ := okWide_slice Try.underlying49 (hval 0 49 v0 rfl rfl)
  obtain ⟨l0, hc0, hw0, rfl, hr0⟩ : ∃ l, l.length ≤ cap0 ∧ (∀ x0 ∈ l, ((Lit.int .i64 x0.f0).wf = true ∧ (Lit.int .i64 x0.f1).wf = true)) ∧ len0 = l.length ∧ Kd.C k87 W A0 l.length l := by
    obtain ⟨fuel, hf⟩ := h0
    obtain ⟨l, ⟨A', c', hcs, hl, hC⟩, hok⟩ := opens49.2 H enc W _ _ _ fuel _ _ hf
    simp [Value.cells] at hcs
    obtain ⟨rfl, rfl, rfl⟩ := hcs
    exact ⟨l, hl, hok, rfl, hC⟩
  obtain ⟨k, hk⟩ := Pure.FnExactIsPacked l0 (Kd.C_max hr0)
  clear hA0 hval0 hsz0
  refine (laws_FnExactIsPacked.calls k _ _ l0 true W hr0 hc0 hk).mono fun e W' ⟨he, bel⟩ => ?_
  subst he
  exact ⟨_, rfl, _, _, _, [], _, [], hW', trodAll_mk1 (shut_bool Try.underlying4 _), (trodAll_cons_mk (Below.trod laidOut (by kernel_rfl) (of_decide_eq_true (by kernel_rfl)) k0_ bel lt0) trodAll_mk0), rfl, bel.frame _, fun h => by cases h⟩
theorem over : Rows.fnExactIsPackedRow.holds Try.pinned (OpenSpec.ofChange Rows.fnExactIsPackedSpec) :=
  OpenClaim.holds_of_wide 8 Try.f8 rfl rfl rfl rfl rfl rfl rfl ⟨rfl, rfl, rfl, rfl, rfl⟩ rfl rfl rfl rfl rfl (by kernel_rfl) Try.func8 (by kernel_rfl)
    (of_decide_eq_true (by kernel_rfl)) (by unfold Func.isWrapper; first | (rw [if_pos (by decide +kernel)]; kernel_rfl) | (rw [if_neg (by decide +kernel)]; exact ⟨rfl, rfl⟩))
    (fun os started H enc _ => lifted os started H enc)
end Go.Proofs.Ytcmjdiceljbboaa.fnExactIsPacked
namespace Go.Proofs.Ytcmjdiceljbboaa
theorem fnExactIsPacked_holds : Rows.FnExactIsPackedSaid := fnExactIsPacked.over
#print axioms fnExactIsPacked_holds
end Go.Proofs.Ytcmjdiceljbboaa
