/- The row of FnExactPlanOf: at every input it returns true and leaves its arguments as they were. The plan of all contacts is one list in the program and in the reference, for every sky of at most 2^20 parts and any bounds. No condition beyond the row's own. -/
import Derived.Test.YtpjhdehbikohmaaGreatRows
import Derived.Test.YtpjhdehbikohmaaGreatQFnExactPlanOfx
import Derived.Test.YtpjhdehbikohmaaGreatPureFnExactPlanOf
import Derived.Test.YtpjhdehbikohmaaGreatKOpens
import Derived.WalkKit
import Derived.ProofKit
import Derived.OpenShut
import Derived.ShutString
import Derived.ChangeOld
import Derived.Below
import Derived.SizedLaws
namespace Go.Proofs.YtpjhdehbikohmaaGreat.fnExactPlanOf
open Go.ChangeShapes Go.WideShapes Go.ChangeAt Go.RowKit Go.Proofs.YtpjhdehbikohmaaGreat.Rd Go.Proofs.YtpjhdehbikohmaaGreat.PFnExactPlanOf Go.Proofs.YtpjhdehbikohmaaGreatW.PrintWords
theorem own : ownKnob Tryz.prog.godebug = none := by kernel_rfl
theorem laidOut : laidOutB Tryz.prog = true := by kernel_rfl
theorem opens26 : Opens Tryz.prog 26 (Kd.pair (Kd.int .i64) (Kd.pair (Kd.slice 82 k82) (Kd.pair (Kd.slice 84 k84) (Kd.pair (Kd.int .i64) (Kd.pair (Kd.int .i64) (Kd.pair (Kd.int .i64) (Kd.pair (Kd.int .i64) (Kd.pair (Kd.int .i64) (Kd.pair (Kd.slice 88 k88) (Kd.int .i64)))))))))) (fun x => ((Lit.int .i64 x.1).wf = true ∧ (∀ x0 ∈ x.2.1, ((Lit.int .i64 x0.f0).wf = true ∧ (Lit.int .i64 x0.f1).wf = true ∧ (Lit.int .i64 x0.f2).wf = true ∧ (Lit.int .i64 x0.f3).wf = true)) ∧ (∀ x0 ∈ x.2.2.1, ((Lit.int .i64 x0.f0).wf = true ∧ (Lit.int .i64 x0.f1).wf = true ∧ (Lit.int .i64 x0.f2).wf = true)) ∧ (Lit.int .i64 x.2.2.2.1).wf = true ∧ (Lit.int .i64 x.2.2.2.2.1).wf = true ∧ (Lit.int .i64 x.2.2.2.2.2.1).wf = true ∧ (Lit.int .i64 x.2.2.2.2.2.2.1).wf = true ∧ (Lit.int .i64 x.2.2.2.2.2.2.2.1).wf = true ∧ (∀ x0 ∈ x.2.2.2.2.2.2.2.2.1, ((Lit.int .i64 x0.f0).wf = true ∧ ((Lit.int .i64 x0.f1.f0).wf = true ∧ (Lit.int .i64 x0.f1.f1).wf = true))) ∧ (Lit.int .i64 x.2.2.2.2.2.2.2.2.2).wf = true)) := (Opens.struct (P := Tryz.prog) (fun x => x) (fun v => v) (fun _ => rfl) Tryz.underlying26 (by kernel_rfl) (OpensF.cons rfl (Opens.int (P := Tryz.prog) Tryz.underlying3 (by kernel_rfl)) (OpensF.cons rfl (Opens.slice (P := Tryz.prog) Tryz.underlying22 (by kernel_rfl) (Opens.struct (P := Tryz.prog) (fun x : S82 => (x.f0, x.f1, x.f2, x.f3)) (fun v => ⟨v.1, v.2.1, v.2.2.1, v.2.2.2⟩) (fun _ => rfl) Tryz.underlying82 (by kernel_rfl) (OpensF.cons rfl (Opens.int (P := Tryz.prog) Tryz.underlying3 (by kernel_rfl)) (OpensF.cons rfl (Opens.int (P := Tryz.prog) Tryz.underlying3 (by kernel_rfl)) (OpensF.cons rfl (Opens.int (P := Tryz.prog) Tryz.underlying3 (by kernel_rfl)) (OpensF.one rfl (Opens.int (P := Tryz.prog) Tryz.underlying3 (by kernel_rfl)))))))) (OpensF.cons rfl (Opens.slice (P := Tryz.prog) Tryz.underlying23 (by kernel_rfl) (Opens.struct (P := Tryz.prog) (fun x : S84 => (x.f0, x.f1, x.f2)) (fun v => ⟨v.1, v.2.1, v.2.2⟩) (fun _ => rfl) Tryz.underlying84 (by kernel_rfl) (OpensF.cons rfl (Opens.int (P := Tryz.prog) Tryz.underlying3 (by kernel_rfl)) (OpensF.cons rfl (Opens.int (P := Tryz.prog) Tryz.underlying3 (by kernel_rfl)) (OpensF.one rfl (Opens.int (P := Tryz.prog) Tryz.underlying3 (by kernel_rfl))))))) (OpensF.cons rfl (Opens.int (P := Tryz.prog) Tryz.underlying3 (by kernel_rfl)) (OpensF.cons rfl (Opens.int (P := Tryz.prog) Tryz.underlying3 (by kernel_rfl)) (OpensF.cons rfl (Opens.int (P := Tryz.prog) Tryz.underlying3 (by kernel_rfl)) (OpensF.cons rfl (Opens.int (P := Tryz.prog) Tryz.underlying3 (by kernel_rfl)) (OpensF.cons rfl (Opens.int (P := Tryz.prog) Tryz.underlying3 (by kernel_rfl)) (OpensF.cons rfl (Opens.slice (P := Tryz.prog) Tryz.underlying24 (by kernel_rfl) (Opens.struct (P := Tryz.prog) (fun x : S88 => (x.f0, x.f1)) (fun v => ⟨v.1, v.2⟩) (fun _ => rfl) Tryz.underlying88 (by kernel_rfl) (OpensF.cons rfl (Opens.int (P := Tryz.prog) Tryz.underlying3 (by kernel_rfl)) (OpensF.one rfl (Opens.struct (P := Tryz.prog) (fun x : S86 => (x.f0, x.f1)) (fun v => ⟨v.1, v.2⟩) (fun _ => rfl) Tryz.underlying86 (by kernel_rfl) (OpensF.cons rfl (Opens.int (P := Tryz.prog) Tryz.underlying3 (by kernel_rfl)) (OpensF.one rfl (Opens.int (P := Tryz.prog) Tryz.underlying3 (by kernel_rfl))))))))) (OpensF.one rfl (Opens.int (P := Tryz.prog) Tryz.underlying3 (by kernel_rfl)))))))))))))
set_option maxRecDepth 100000 in
theorem lifted (os : Os) (started : os.Started) (H : Type) (enc : TypeId × Value → H) :
    ReturnsInHanded {} Tryz.checked os 4 .any (Rows.fnExactPlanOfSpec.pre6 enc Tryz.prog Tryz.f4 Rows.fnExactPlanOfRow.domain false) (Rows.fnExactPlanOfSpec.post enc Tryz.prog Tryz.f4 false true false false) := by
  refine returnsInHanded_of_change_sized (C := Tryz.checked) own started (by kernel_rfl) Tryz.func4
    (ChangeSpec.witness6 (enc := enc) (C := Tryz.checked) false ⟨#[], #[.agg #[.int .i64 0, .slice none 0 0, .slice none 0 0, .int .i64 0, .int .i64 0, .int .i64 0, .int .i64 0, .int .i64 0, .slice none 0 0, .int .i64 0], .int .i64 0, .int .i64 0], []⟩ 8 (by kernel_rfl) (by kernel_rfl) (by kernel_rfl) (by kernel_rfl)) ?_
  intro W base args ds gs before hval0 hW hcnd hsz0 _
  have hval : ∀ (j : Nat) t v, Tryz.f4.params[j]? = some t → args[j]? = some v → Value.okWide Tryz.prog W .any base t v := hval0
  have hW' := hW
  obtain ⟨p, q, hA0, hV, rfl, hfz, hnd⟩ := hW
  have hA : DataW.TrodAll enc Tryz.prog W 0 (fun _ => true) true Tryz.f4.params.toList args.toList ds p := hA0
  rw [Tryz.params4] at hA hval
  obtain ⟨v0, vs0, d0, ds0, p0, q0, hargs, rfl, rfl, h0, r0⟩ := trodAll_cons hA
  obtain ⟨v1, vs1, d1, ds1, p1, q1, rfl, rfl, rfl, h1, r1⟩ := trodAll_cons r0
  obtain ⟨v2, vs2, d2, ds2, p2, q2, rfl, rfl, rfl, h2, r2⟩ := trodAll_cons r1
  obtain ⟨rfl, rfl, rfl⟩ := trodAll_nil r2
  obtain rfl : args = #[v0, v1, v2] := by cases args; simp_all
  obtain ⟨rfl, rfl⟩ := trodVars_none hV
  have k0_ := h0
  have lt0 : ∀ x ∈ p0, x.block < W.heap.size := by obtain ⟨m, hm⟩ := k0_; exact DataW.trod_lt m _ _ _ hm
  obtain ⟨c0, rfl, hcs0⟩ := okWide_struct Tryz.underlying26 (hval 0 26 v0 rfl rfl)
  obtain ⟨fuel0, hf0⟩ := h0
  obtain ⟨u0, hK0, hok0⟩ := opens26.2 H enc W _ _ _ fuel0 _ _ hf0
  obtain ⟨x0_0, y0_0, hy0_0, rfl, ⟨x0_1, y0_1, hy0_1, ⟨A0_1, c0_1, rfl, hc0_1, hr0_1⟩, ⟨x0_2, y0_2, hy0_2, ⟨A0_2, c0_2, rfl, hc0_2, hr0_2⟩, ⟨x0_3, y0_3, hy0_3, rfl, ⟨x0_4, y0_4, hy0_4, rfl, ⟨x0_5, y0_5, hy0_5, rfl, ⟨x0_6, y0_6, hy0_6, rfl, ⟨x0_7, y0_7, hy0_7, rfl, ⟨x0_8, y0_8, hy0_8, ⟨A0_8, c0_8, rfl, hc0_8, hr0_8⟩, rfl⟩⟩⟩⟩⟩⟩⟩⟩⟩ := hK0
  obtain ⟨a1, rfl, rfl, rfl, w1⟩ := open_int Tryz.underlying3 (hval 1 3 v1 rfl rfl) h1
  obtain ⟨a2, rfl, rfl, rfl, w2⟩ := open_int Tryz.underlying3 (hval 2 3 v2 rfl rfl) h2
  obtain rfl : c0 = #[.int .i64 u0.1, .slice A0_1 u0.2.1.length c0_1, .slice A0_2 u0.2.2.1.length c0_2, .int .i64 u0.2.2.2.1, .int .i64 u0.2.2.2.2.1, .int .i64 u0.2.2.2.2.2.1, .int .i64 u0.2.2.2.2.2.2.1, .int .i64 u0.2.2.2.2.2.2.2.1, .slice A0_8 u0.2.2.2.2.2.2.2.2.1.length c0_8, .int .i64 u0.2.2.2.2.2.2.2.2.2] := by
    cases c0
    simp only [Value.cells, hy0_1, hy0_2, hy0_3, hy0_4, hy0_5, hy0_6, hy0_7, hy0_8] at hy0_0
    simpa using hy0_0
  obtain ⟨k, hk⟩ := Pure.FnExactPlanOf u0.1 u0.2.1 u0.2.2.1 u0.2.2.2.1 u0.2.2.2.2.1 u0.2.2.2.2.2.1 u0.2.2.2.2.2.2.1 u0.2.2.2.2.2.2.2.1 u0.2.2.2.2.2.2.2.2.1 u0.2.2.2.2.2.2.2.2.2 a1 a2 (hr0_1).2.1 (hr0_2).2.1 (hr0_8).2.1 (fun x hx => by simpa using hok0.2.1 x hx) (fun x hx => by simpa using hok0.2.2.1 x hx) hok0.1
  clear hA0 hval0 hsz0
  refine (laws_FnExactPlanOf.calls k u0.1 _ _ u0.2.1 _ _ u0.2.2.1 u0.2.2.2.1 u0.2.2.2.2.1 u0.2.2.2.2.2.1 u0.2.2.2.2.2.2.1 u0.2.2.2.2.2.2.2.1 _ _ u0.2.2.2.2.2.2.2.2.1 u0.2.2.2.2.2.2.2.2.2 a1 a2 true W hr0_1 hc0_1 hr0_2 hc0_2 hr0_8 hc0_8 hk).mono fun e W' ⟨he, bel⟩ => ?_
  subst he
  exact ⟨_, rfl, _, _, _, [], _, [], hW', trodAll_mk1 (shut_bool Tryz.underlying4 _), (trodAll_cons_mk (Below.trod laidOut (by kernel_rfl) (of_decide_eq_true (by kernel_rfl)) k0_ bel lt0) (trodAll_cons_mk (shut_int Tryz.underlying3 w1) (trodAll_cons_mk (shut_int Tryz.underlying3 w2) trodAll_mk0))), rfl, bel.frame _, fun h => by cases h⟩
theorem over : Rows.fnExactPlanOfRow.holds Tryz.pinned (OpenSpec.ofChange Rows.fnExactPlanOfSpec) :=
  OpenClaim.holds_of_wide 4 Tryz.f4 rfl rfl rfl rfl rfl rfl rfl ⟨rfl, rfl, rfl, rfl, rfl⟩ rfl rfl rfl rfl rfl (by kernel_rfl) Tryz.func4 (by kernel_rfl)
    (of_decide_eq_true (by kernel_rfl)) (by unfold Func.isWrapper; first | (rw [if_pos (by decide +kernel)]; kernel_rfl) | (rw [if_neg (by decide +kernel)]; exact ⟨rfl, rfl⟩))
    (fun os started H enc _ => lifted os started H enc)
end Go.Proofs.YtpjhdehbikohmaaGreat.fnExactPlanOf
namespace Go.Proofs.YtpjhdehbikohmaaGreat
theorem fnExactPlanOf_holds : Rows.FnExactPlanOfSaid := fnExactPlanOf.over
#print axioms fnExactPlanOf_holds
end Go.Proofs.YtpjhdehbikohmaaGreat
