/- The row of FnContacts: at every input it returns true and leaves its arguments as they were. At every code of at most 2^20 bytes, in a contact of the drawn sky both nodes see each other surely, have done so while the link was established, and disturb nobody; the plan of all contacts is a plan; and who can speak can be spoken to. No condition beyond the row's own. -/
import Derived.Test.YtopbkdcicidajaaRows
import Derived.Test.YtopbkdcicidajaaQFnContactsx
import Derived.Test.YtopbkdcicidajaaPureFnContacts
import Derived.Test.YtopbkdcicidajaaKOpens
import Derived.WalkKit
import Derived.ProofKit
import Derived.OpenShut
import Derived.ShutString
import Derived.ChangeOld
import Derived.Below
import Derived.SizedLaws
namespace Go.Proofs.Ytopbkdcicidajaa.fnContacts
open Go.ChangeShapes Go.WideShapes Go.ChangeAt Go.RowKit Go.Proofs.Ytopbkdcicidajaa.Rd Go.Proofs.Ytopbkdcicidajaa.PFnContacts Go.Proofs.YtopbkdcicidajaaW.PrintWords
theorem own : ownKnob Try.prog.godebug = none := by kernel_rfl
theorem laidOut : laidOutB Try.prog = true := by kernel_rfl
theorem opens22 : Opens Try.prog 22 (Kd.slice 5 (Kd.int .u8)) (fun x => (∀ x0 ∈ x, (Lit.int .u8 x0).wf = true)) := (Opens.slice (P := Try.prog) Try.underlying22 (by kernel_rfl) (Opens.int (P := Try.prog) Try.underlying5 (by kernel_rfl)))
set_option maxRecDepth 100000 in
theorem lifted (os : Os) (started : os.Started) (H : Type) (enc : TypeId × Value → H) :
    ReturnsInHanded {} Try.checked os 6 .any (Rows.fnContactsSpec.pre6 enc Try.prog Try.f6 Rows.fnContactsRow.domain false) (Rows.fnContactsSpec.post enc Try.prog Try.f6 false true false false) := by
  refine returnsInHanded_of_change_sized (C := Try.checked) own started (by kernel_rfl) Try.func6
    (ChangeSpec.witness6 (enc := enc) (C := Try.checked) false ⟨#[], #[.slice none 0 0], []⟩ 8 (by kernel_rfl) (by kernel_rfl) (by kernel_rfl) (by kernel_rfl)) ?_
  intro W base args ds gs before hval0 hW hcnd hsz0 _
  have hval : ∀ (j : Nat) t v, Try.f6.params[j]? = some t → args[j]? = some v → Value.okWide Try.prog W .any base t v := hval0
  have hW' := hW
  obtain ⟨p, q, hA0, hV, rfl, hfz, hnd⟩ := hW
  have hA : DataW.TrodAll enc Try.prog W 0 (fun _ => true) true Try.f6.params.toList args.toList ds p := hA0
  rw [Try.params6] at hA hval
  obtain ⟨v0, vs0, d0, ds0, p0, q0, hargs, rfl, rfl, h0, r0⟩ := trodAll_cons hA
  obtain ⟨rfl, rfl, rfl⟩ := trodAll_nil r0
  obtain rfl : args = #[v0] := by cases args; simp_all
  obtain ⟨rfl, rfl⟩ := trodVars_none hV
  have k0_ := h0
  have lt0 : ∀ x ∈ p0, x.block < W.heap.size := by obtain ⟨m, hm⟩ := k0_; exact DataW.trod_lt m _ _ _ hm
  obtain ⟨A0, len0, cap0, rfl⟩ := okWide_slice Try.underlying22 (hval 0 22 v0 rfl rfl)
  obtain ⟨l0, hc0, hw0, rfl, hr0⟩ : ∃ l, l.length ≤ cap0 ∧ (∀ x0 ∈ l, (Lit.int .u8 x0).wf = true) ∧ len0 = l.length ∧ Kd.C (Kd.int .u8) W A0 l.length l := by
    obtain ⟨fuel, hf⟩ := h0
    obtain ⟨l, ⟨A', c', hcs, hl, hC⟩, hok⟩ := opens22.2 H enc W _ _ _ fuel _ _ hf
    simp [Value.cells] at hcs
    obtain ⟨rfl, rfl, rfl⟩ := hcs
    exact ⟨l, hl, hok, rfl, hC⟩
  obtain ⟨k, hk⟩ := Pure.FnContacts l0
  clear hA0 hval0 hsz0
  refine (laws_FnContacts.calls k _ _ l0 true W hr0 hc0 hk).mono fun e W' ⟨he, bel⟩ => ?_
  subst he
  exact ⟨_, rfl, _, _, _, [], _, [], hW', trodAll_mk1 (shut_bool Try.underlying4 _), (trodAll_cons_mk (Below.trod laidOut (by kernel_rfl) (of_decide_eq_true (by kernel_rfl)) k0_ bel lt0) trodAll_mk0), rfl, bel.frame _, fun h => by cases h⟩
theorem over : Rows.fnContactsRow.holds Try.pinned (OpenSpec.ofChange Rows.fnContactsSpec) :=
  OpenClaim.holds_of_wide 6 Try.f6 rfl rfl rfl rfl rfl rfl rfl ⟨rfl, rfl, rfl, rfl, rfl⟩ rfl rfl rfl rfl rfl (by kernel_rfl) Try.func6 (by kernel_rfl)
    (of_decide_eq_true (by kernel_rfl)) (by unfold Func.isWrapper; first | (rw [if_pos (by decide +kernel)]; kernel_rfl) | (rw [if_neg (by decide +kernel)]; exact ⟨rfl, rfl⟩))
    (fun os started H enc _ => lifted os started H enc)
end Go.Proofs.Ytopbkdcicidajaa.fnContacts
namespace Go.Proofs.Ytopbkdcicidajaa
theorem fnContacts_holds : Rows.FnContactsSaid := fnContacts.over
#print axioms fnContacts_holds
end Go.Proofs.Ytopbkdcicidajaa
