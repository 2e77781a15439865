/- Whether a contact is one is told alike by the program and the reference, for every contact and number of nodes. -/
import Derived.Test.YtcmjdiceljbboaaPFnExactIsContactx
import Derived.Test.YtcmjdiceljbboaaKKit
namespace Go.Proofs.Ytcmjdiceljbboaa.Pure
open Go.RowKit Go.Proofs.Ytcmjdiceljbboaa.PFnExactIsContact Go.Proofs.YtcmjdiceljbboaaW.PrintWords Go.Proofs.YtcmjdiceljbboaaW.PrintLast Go.Proofs.YtcmjdiceljbboaaW.PrintMore Go.Proofs.Ytcmjdiceljbboaa
namespace LFnExactIsContact
theorem sIsSpan (a b : Int) : spec_IsSpan.f a b = some (decide (0 ≤ a ∧ b ≤ 1000 ∧ a < b)) := by
  unfold spec_IsSpan.f
  split <;> (try split) <;> first | rfl | (congr 1; exact decide_eq_decide.2 (by omega)) | (congr 1; exact (decide_eq_false (by omega)).symm)
theorem iIsSpan (a b : Int) : impl_IsSpan.f a b = some (decide (0 ≤ a ∧ b ≤ 1000 ∧ a < b)) := by
  unfold impl_IsSpan.f
  split <;> (try split) <;> first | rfl | (congr 1; exact decide_eq_decide.2 (by omega)) | (congr 1; exact (decide_eq_false (by omega)).symm)

end LFnExactIsContact
theorem FnExactIsContact (a b c d n : Int) : laws_FnExactIsContact.f a b c d n = some true := by
  unfold laws_FnExactIsContact.f spec_IsContact.f impl_IsContact.f laws_toContact.f impl_spanOf.f
  simp only [Option.bind_some, LFnExactIsContact.sIsSpan, LFnExactIsContact.iIsSpan]
  split <;> (try split) <;> (try split) <;> simp

end Go.Proofs.Ytcmjdiceljbboaa.Pure
