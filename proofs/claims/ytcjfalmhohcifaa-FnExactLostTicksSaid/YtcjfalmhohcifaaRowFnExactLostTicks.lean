/- The row of FnExactLostTicks: at every input it returns true and leaves its arguments as they were. The lost ticks are one number in the program and in the reference, for every plan and clouds of at most 2^20 parts together. No condition beyond the row's own. -/
import Derived.Test.YtcjfalmhohcifaaRows
import Derived.Test.YtcjfalmhohcifaaQFnExactLostTicksx
import Derived.Test.YtcjfalmhohcifaaPureFnExactLostTicks
import Derived.Test.YtcjfalmhohcifaaKOpens
import Derived.WalkKit
import Derived.ProofKit
import Derived.OpenShut
import Derived.ShutString
import Derived.ChangeOld
import Derived.Below
import Derived.SizedLaws
namespace Go.Proofs.Ytcjfalmhohcifaa.fnExactLostTicks
open Go.ChangeShapes Go.WideShapes Go.ChangeAt Go.RowKit Go.Proofs.Ytcjfalmhohcifaa.Rd Go.Proofs.Ytcjfalmhohcifaa.PFnExactLostTicks Go.Proofs.YtcjfalmhohcifaaW.PrintWords
theorem own : ownKnob Try.prog.godebug = none := by kernel_rfl
theorem laidOut : laidOutB Try.prog = true := by kernel_rfl
theorem opens41 : Opens Try.prog 41 (Kd.slice 85 k85) (fun x => (∀ x0 ∈ x, ((Lit.int .i64 x0.f0).wf = true ∧ (Lit.int .i64 x0.f1).wf = true ∧ (Lit.int .i64 x0.f2).wf = true ∧ (Lit.int .i64 x0.f3).wf = true))) := (Opens.slice (P := Try.prog) Try.underlying41 (by kernel_rfl) (Opens.struct (P := Try.prog) (fun x : S85 => (x.f0, x.f1, x.f2, x.f3)) (fun v => ⟨v.1, v.2.1, v.2.2.1, v.2.2.2⟩) (fun _ => rfl) Try.underlying85 (by kernel_rfl) (OpensF.cons rfl (Opens.int (P := Try.prog) Try.underlying3 (by kernel_rfl)) (OpensF.cons rfl (Opens.int (P := Try.prog) Try.underlying3 (by kernel_rfl)) (OpensF.cons rfl (Opens.int (P := Try.prog) Try.underlying3 (by kernel_rfl)) (OpensF.one rfl (Opens.int (P := Try.prog) Try.underlying3 (by kernel_rfl))))))))
theorem opens42 : Opens Try.prog 42 (Kd.slice 89 k89) (fun x => (∀ x0 ∈ x, ((Lit.int .i64 x0.f0).wf = true ∧ (Lit.int .i64 x0.f1).wf = true ∧ (Lit.int .i64 x0.f2).wf = true))) := (Opens.slice (P := Try.prog) Try.underlying42 (by kernel_rfl) (Opens.struct (P := Try.prog) (fun x : S89 => (x.f0, x.f1, x.f2)) (fun v => ⟨v.1, v.2.1, v.2.2⟩) (fun _ => rfl) Try.underlying89 (by kernel_rfl) (OpensF.cons rfl (Opens.int (P := Try.prog) Try.underlying3 (by kernel_rfl)) (OpensF.cons rfl (Opens.int (P := Try.prog) Try.underlying3 (by kernel_rfl)) (OpensF.one rfl (Opens.int (P := Try.prog) Try.underlying3 (by kernel_rfl)))))))
set_option maxRecDepth 100000 in
theorem lifted (os : Os) (started : os.Started) (H : Type) (enc : TypeId × Value → H) :
    ReturnsInHanded {} Try.checked os 5 .any (Rows.fnExactLostTicksSpec.pre6 enc Try.prog Try.f5 Rows.fnExactLostTicksRow.domain false) (Rows.fnExactLostTicksSpec.post enc Try.prog Try.f5 false true false false) := by
  refine returnsInHanded_of_change_sized (C := Try.checked) own started (by kernel_rfl) Try.func5
    (ChangeSpec.witness6 (enc := enc) (C := Try.checked) false ⟨#[], #[.slice none 0 0, .slice none 0 0], []⟩ 8 (by kernel_rfl) (by kernel_rfl) (by kernel_rfl) (by kernel_rfl)) ?_
  intro W base args ds gs before hval0 hW hcnd hsz0 _
  have hval : ∀ (j : Nat) t v, Try.f5.params[j]? = some t → args[j]? = some v → Value.okWide Try.prog W .any base t v := hval0
  have hW' := hW
  obtain ⟨p, q, hA0, hV, rfl, hfz, hnd⟩ := hW
  have hA : DataW.TrodAll enc Try.prog W 0 (fun _ => true) true Try.f5.params.toList args.toList ds p := hA0
  rw [Try.params5] at hA hval
  obtain ⟨v0, vs0, d0, ds0, p0, q0, hargs, rfl, rfl, h0, r0⟩ := trodAll_cons hA
  obtain ⟨v1, vs1, d1, ds1, p1, q1, rfl, rfl, rfl, h1, r1⟩ := trodAll_cons r0
  obtain ⟨rfl, rfl, rfl⟩ := trodAll_nil r1
  obtain rfl : args = #[v0, v1] := by cases args; simp_all
  obtain ⟨rfl, rfl⟩ := trodVars_none hV
  have k0_ := h0
  have lt0 : ∀ x ∈ p0, x.block < W.heap.size := by obtain ⟨m, hm⟩ := k0_; exact DataW.trod_lt m _ _ _ hm
  obtain ⟨A0, len0, cap0, rfl⟩ := okWide_slice Try.underlying41 (hval 0 41 v0 rfl rfl)
  obtain ⟨l0, hc0, hw0, rfl, hr0⟩ : ∃ l, l.length ≤ cap0 ∧ (∀ x0 ∈ l, ((Lit.int .i64 x0.f0).wf = true ∧ (Lit.int .i64 x0.f1).wf = true ∧ (Lit.int .i64 x0.f2).wf = true ∧ (Lit.int .i64 x0.f3).wf = true)) ∧ len0 = l.length ∧ Kd.C k85 W A0 l.length l := by
    obtain ⟨fuel, hf⟩ := h0
    obtain ⟨l, ⟨A', c', hcs, hl, hC⟩, hok⟩ := opens41.2 H enc W _ _ _ fuel _ _ hf
    simp [Value.cells] at hcs
    obtain ⟨rfl, rfl, rfl⟩ := hcs
    exact ⟨l, hl, hok, rfl, hC⟩
  have k1_ := h1
  have lt1 : ∀ x ∈ p1, x.block < W.heap.size := by obtain ⟨m, hm⟩ := k1_; exact DataW.trod_lt m _ _ _ hm
  obtain ⟨A1, len1, cap1, rfl⟩ := okWide_slice Try.underlying42 (hval 1 42 v1 rfl rfl)
  obtain ⟨l1, hc1, hw1, rfl, hr1⟩ : ∃ l, l.length ≤ cap1 ∧ (∀ x0 ∈ l, ((Lit.int .i64 x0.f0).wf = true ∧ (Lit.int .i64 x0.f1).wf = true ∧ (Lit.int .i64 x0.f2).wf = true)) ∧ len1 = l.length ∧ Kd.C k89 W A1 l.length l := by
    obtain ⟨fuel, hf⟩ := h1
    obtain ⟨l, ⟨A', c', hcs, hl, hC⟩, hok⟩ := opens42.2 H enc W _ _ _ fuel _ _ hf
    simp [Value.cells] at hcs
    obtain ⟨rfl, rfl, rfl⟩ := hcs
    exact ⟨l, hl, hok, rfl, hC⟩
  obtain ⟨k, hk⟩ := Pure.FnExactLostTicks l0 l1 (hr0).2.1 (hr1).2.1
  clear hA0 hval0 hsz0
  refine (laws_FnExactLostTicks.calls k _ _ l0 _ _ l1 true W hr0 hc0 hr1 hc1 hk).mono fun e W' ⟨he, bel⟩ => ?_
  subst he
  exact ⟨_, rfl, _, _, _, [], _, [], hW', trodAll_mk1 (shut_bool Try.underlying4 _), (trodAll_cons_mk (Below.trod laidOut (by kernel_rfl) (of_decide_eq_true (by kernel_rfl)) k0_ bel lt0) (trodAll_cons_mk (Below.trod laidOut (by kernel_rfl) (of_decide_eq_true (by kernel_rfl)) k1_ bel lt1) trodAll_mk0)), rfl, bel.frame _, fun h => by cases h⟩
theorem over : Rows.fnExactLostTicksRow.holds Try.pinned (OpenSpec.ofChange Rows.fnExactLostTicksSpec) :=
  OpenClaim.holds_of_wide 5 Try.f5 rfl rfl rfl rfl rfl rfl rfl ⟨rfl, rfl, rfl, rfl, rfl⟩ rfl rfl rfl rfl rfl (by kernel_rfl) Try.func5 (by kernel_rfl)
    (of_decide_eq_true (by kernel_rfl)) (by unfold Func.isWrapper; first | (rw [if_pos (by decide +kernel)]; kernel_rfl) | (rw [if_neg (by decide +kernel)]; exact ⟨rfl, rfl⟩))
    (fun os started H enc _ => lifted os started H enc)
end Go.Proofs.Ytcjfalmhohcifaa.fnExactLostTicks
namespace Go.Proofs.Ytcjfalmhohcifaa
theorem fnExactLostTicks_holds : Rows.FnExactLostTicksSaid := fnExactLostTicks.over
#print axioms fnExactLostTicks_holds
end Go.Proofs.Ytcjfalmhohcifaa
