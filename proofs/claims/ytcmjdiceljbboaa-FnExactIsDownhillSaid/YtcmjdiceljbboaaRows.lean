/-
  No cell of these rows narrows 'for every input' (looked for: loops, veiled, ifaces, maps, wideKeys, modest, calm, conditions, laid).
  DERIVED. THE GIVEN ROWS OF THIS SEAT. 12 by the template 'for every input the law returns true; each argument reads behind the call as it read before'; 0 by the template 'total and deterministic' (their statements: YtcmjdiceljbboaaTotals.lean).
  GIVEN WITH THE SEED: the statements are not yours to turn. If you find one false, say at which input.
  Laid BY PROGRAM, IN A SANDBOX (cutbox-rows.mjs): the forced cells as the released guide's own fill.sh prints them over the translation df7f308d95abc16b… (all of the seat's roots in one cut). By AI agents, Wed Nov 11 2026. No macro, syntax, notation, axiom, sorry.
-/
import Derived.Test.YtcmjdiceljbboaaChecked
import GoSem.Claim
import GoSem.ClaimJoined
import GoSem.ClaimMapViews
import Derived.JoinedTies
import Derived.KernelRfl
namespace Go.Proofs.Ytcmjdiceljbboaa
/- THE CELL 'sum', in the pinned program and in every row, IS THE sha256 OF THE DUMP (.gsa) THAT YtcmjdiceljbboaaProg.lean LOADS. Nothing in Lean hashes anything: it is a label: what it is worth is what the hold of that sum in a sandbox is worth. -/
noncomputable def Try.pinned : Pinned := { name := "ytcmjdiceljbboaa", sum := "df7f308d95abc16bfc0862df74d8c147b2aa6f042127c30c4fdecaab72c21e1d", checked := Try.checked }
namespace Rows
def none {H : Type} : Left H := { results := [], args := [] }

/-- 'laws.FnExactIsContact': WHATEVER THE INPUT: true; the input reads as it did. -/
def fnExactIsContactSpec : ChangeSpec := { name := "fnExactIsContact", fn := fun _ => fun
  | [d1, d2] => { results := [.lit (.bool true)], args := [d1, d2] }
  | _ => none }
def fnExactIsContactRow : OpenClaim := { program := "ytcmjdiceljbboaa", sum := "df7f308d95abc16bfc0862df74d8c147b2aa6f042127c30c4fdecaab72c21e1d", func := "loop.example/g00599/laws.FnExactIsContact", spec := "fnExactIsContact", apart := false }
def FnExactIsContactSaid : Prop := fnExactIsContactRow.holds Try.pinned (OpenSpec.ofChange fnExactIsContactSpec)

/-- ITS FALSE NEIGHBOUR: 'it returns false'. Refute it at one input. -/
def fnExactIsContactWrong : ChangeSpec := { name := "fnExactIsContact", fn := fun _ => fun
  | [d1, d2] => { results := [.lit (.bool false)], args := [d1, d2] }
  | _ => none }
def FnExactIsContactWrongFalsely : Prop := fnExactIsContactRow.holds Try.pinned (OpenSpec.ofChange fnExactIsContactWrong)

/-- 'laws.FnExactCountReaching': WHATEVER THE INPUT: true; the input reads as it did. -/
def fnExactCountReachingSpec : ChangeSpec := { name := "fnExactCountReaching", fn := fun _ => fun
  | [d] => { results := [.lit (.bool true)], args := [d] }
  | _ => none }
def fnExactCountReachingRow : OpenClaim := { program := "ytcmjdiceljbboaa", sum := "df7f308d95abc16bfc0862df74d8c147b2aa6f042127c30c4fdecaab72c21e1d", func := "loop.example/g00599/laws.FnExactCountReaching", spec := "fnExactCountReaching", apart := false }
def FnExactCountReachingSaid : Prop := fnExactCountReachingRow.holds Try.pinned (OpenSpec.ofChange fnExactCountReachingSpec)

/-- ITS FALSE NEIGHBOUR: 'it returns false'. Refute it at one input. -/
def fnExactCountReachingWrong : ChangeSpec := { name := "fnExactCountReaching", fn := fun _ => fun
  | [d] => { results := [.lit (.bool false)], args := [d] }
  | _ => none }
def FnExactCountReachingWrongFalsely : Prop := fnExactCountReachingRow.holds Try.pinned (OpenSpec.ofChange fnExactCountReachingWrong)

/-- 'laws.FnExactPathTo': WHATEVER THE INPUT: true; the input reads as it did. -/
def fnExactPathToSpec : ChangeSpec := { name := "fnExactPathTo", fn := fun _ => fun
  | [d1, d2, d3] => { results := [.lit (.bool true)], args := [d1, d2, d3] }
  | _ => none }
def fnExactPathToRow : OpenClaim := { program := "ytcmjdiceljbboaa", sum := "df7f308d95abc16bfc0862df74d8c147b2aa6f042127c30c4fdecaab72c21e1d", func := "loop.example/g00599/laws.FnExactPathTo", spec := "fnExactPathTo", apart := false }
def FnExactPathToSaid : Prop := fnExactPathToRow.holds Try.pinned (OpenSpec.ofChange fnExactPathToSpec)

/-- ITS FALSE NEIGHBOUR: 'it returns false'. Refute it at one input. -/
def fnExactPathToWrong : ChangeSpec := { name := "fnExactPathTo", fn := fun _ => fun
  | [d1, d2, d3] => { results := [.lit (.bool false)], args := [d1, d2, d3] }
  | _ => none }
def FnExactPathToWrongFalsely : Prop := fnExactPathToRow.holds Try.pinned (OpenSpec.ofChange fnExactPathToWrong)

/-- 'laws.FnExactSameLinks': WHATEVER THE INPUT: true; the input reads as it did. -/
def fnExactSameLinksSpec : ChangeSpec := { name := "fnExactSameLinks", fn := fun _ => fun
  | [d1, d2] => { results := [.lit (.bool true)], args := [d1, d2] }
  | _ => none }
def fnExactSameLinksRow : OpenClaim := { program := "ytcmjdiceljbboaa", sum := "df7f308d95abc16bfc0862df74d8c147b2aa6f042127c30c4fdecaab72c21e1d", func := "loop.example/g00599/laws.FnExactSameLinks", spec := "fnExactSameLinks", apart := false }
def FnExactSameLinksSaid : Prop := fnExactSameLinksRow.holds Try.pinned (OpenSpec.ofChange fnExactSameLinksSpec)

/-- ITS FALSE NEIGHBOUR: 'it returns false'. Refute it at one input. -/
def fnExactSameLinksWrong : ChangeSpec := { name := "fnExactSameLinks", fn := fun _ => fun
  | [d1, d2] => { results := [.lit (.bool false)], args := [d1, d2] }
  | _ => none }
def FnExactSameLinksWrongFalsely : Prop := fnExactSameLinksRow.holds Try.pinned (OpenSpec.ofChange fnExactSameLinksWrong)

/-- 'laws.FnExactContactTicks': WHATEVER THE INPUT: true; the input reads as it did. -/
def fnExactContactTicksSpec : ChangeSpec := { name := "fnExactContactTicks", fn := fun _ => fun
  | [d] => { results := [.lit (.bool true)], args := [d] }
  | _ => none }
def fnExactContactTicksRow : OpenClaim := { program := "ytcmjdiceljbboaa", sum := "df7f308d95abc16bfc0862df74d8c147b2aa6f042127c30c4fdecaab72c21e1d", func := "loop.example/g00599/laws.FnExactContactTicks", spec := "fnExactContactTicks", apart := false }
def FnExactContactTicksSaid : Prop := fnExactContactTicksRow.holds Try.pinned (OpenSpec.ofChange fnExactContactTicksSpec)

/-- ITS FALSE NEIGHBOUR: 'it returns false'. Refute it at one input. -/
def fnExactContactTicksWrong : ChangeSpec := { name := "fnExactContactTicks", fn := fun _ => fun
  | [d] => { results := [.lit (.bool false)], args := [d] }
  | _ => none }
def FnExactContactTicksWrongFalsely : Prop := fnExactContactTicksRow.holds Try.pinned (OpenSpec.ofChange fnExactContactTicksWrong)

/-- 'laws.FnExactIsPacked': WHATEVER THE INPUT: true; the input reads as it did. -/
def fnExactIsPackedSpec : ChangeSpec := { name := "fnExactIsPacked", fn := fun _ => fun
  | [d] => { results := [.lit (.bool true)], args := [d] }
  | _ => none }
def fnExactIsPackedRow : OpenClaim := { program := "ytcmjdiceljbboaa", sum := "df7f308d95abc16bfc0862df74d8c147b2aa6f042127c30c4fdecaab72c21e1d", func := "loop.example/g00599/laws.FnExactIsPacked", spec := "fnExactIsPacked", apart := false }
def FnExactIsPackedSaid : Prop := fnExactIsPackedRow.holds Try.pinned (OpenSpec.ofChange fnExactIsPackedSpec)

/-- ITS FALSE NEIGHBOUR: 'it returns false'. Refute it at one input. -/
def fnExactIsPackedWrong : ChangeSpec := { name := "fnExactIsPacked", fn := fun _ => fun
  | [d] => { results := [.lit (.bool false)], args := [d] }
  | _ => none }
def FnExactIsPackedWrongFalsely : Prop := fnExactIsPackedRow.holds Try.pinned (OpenSpec.ofChange fnExactIsPackedWrong)

/-- 'laws.FnExactIsDownhill': WHATEVER THE INPUT: true; the input reads as it did. -/
def fnExactIsDownhillSpec : ChangeSpec := { name := "fnExactIsDownhill", fn := fun _ => fun
  | [d] => { results := [.lit (.bool true)], args := [d] }
  | _ => none }
def fnExactIsDownhillRow : OpenClaim := { program := "ytcmjdiceljbboaa", sum := "df7f308d95abc16bfc0862df74d8c147b2aa6f042127c30c4fdecaab72c21e1d", func := "loop.example/g00599/laws.FnExactIsDownhill", spec := "fnExactIsDownhill", apart := false }
def FnExactIsDownhillSaid : Prop := fnExactIsDownhillRow.holds Try.pinned (OpenSpec.ofChange fnExactIsDownhillSpec)

/-- ITS FALSE NEIGHBOUR: 'it returns false'. Refute it at one input. -/
def fnExactIsDownhillWrong : ChangeSpec := { name := "fnExactIsDownhill", fn := fun _ => fun
  | [d] => { results := [.lit (.bool false)], args := [d] }
  | _ => none }
def FnExactIsDownhillWrongFalsely : Prop := fnExactIsDownhillRow.holds Try.pinned (OpenSpec.ofChange fnExactIsDownhillWrong)

/-- 'laws.FnExactCanSpeak': WHATEVER THE INPUT: true; the input reads as it did. -/
def fnExactCanSpeakSpec : ChangeSpec := { name := "fnExactCanSpeak", fn := fun _ => fun
  | [d1, d2, d3, d4] => { results := [.lit (.bool true)], args := [d1, d2, d3, d4] }
  | _ => none }
def fnExactCanSpeakRow : OpenClaim := { program := "ytcmjdiceljbboaa", sum := "df7f308d95abc16bfc0862df74d8c147b2aa6f042127c30c4fdecaab72c21e1d", func := "loop.example/g00599/laws.FnExactCanSpeak", spec := "fnExactCanSpeak", apart := false }
def FnExactCanSpeakSaid : Prop := fnExactCanSpeakRow.holds Try.pinned (OpenSpec.ofChange fnExactCanSpeakSpec)

/-- ITS FALSE NEIGHBOUR: 'it returns false'. Refute it at one input. -/
def fnExactCanSpeakWrong : ChangeSpec := { name := "fnExactCanSpeak", fn := fun _ => fun
  | [d1, d2, d3, d4] => { results := [.lit (.bool false)], args := [d1, d2, d3, d4] }
  | _ => none }
def FnExactCanSpeakWrongFalsely : Prop := fnExactCanSpeakRow.holds Try.pinned (OpenSpec.ofChange fnExactCanSpeakWrong)

/-- 'laws.FnExactEqualTables': WHATEVER THE INPUT: true; the input reads as it did. -/
def fnExactEqualTablesSpec : ChangeSpec := { name := "fnExactEqualTables", fn := fun _ => fun
  | [d1, d2] => { results := [.lit (.bool true)], args := [d1, d2] }
  | _ => none }
def fnExactEqualTablesRow : OpenClaim := { program := "ytcmjdiceljbboaa", sum := "df7f308d95abc16bfc0862df74d8c147b2aa6f042127c30c4fdecaab72c21e1d", func := "loop.example/g00599/laws.FnExactEqualTables", spec := "fnExactEqualTables", apart := false }
def FnExactEqualTablesSaid : Prop := fnExactEqualTablesRow.holds Try.pinned (OpenSpec.ofChange fnExactEqualTablesSpec)

/-- ITS FALSE NEIGHBOUR: 'it returns false'. Refute it at one input. -/
def fnExactEqualTablesWrong : ChangeSpec := { name := "fnExactEqualTables", fn := fun _ => fun
  | [d1, d2] => { results := [.lit (.bool false)], args := [d1, d2] }
  | _ => none }
def FnExactEqualTablesWrongFalsely : Prop := fnExactEqualTablesRow.holds Try.pinned (OpenSpec.ofChange fnExactEqualTablesWrong)

/-- 'laws.FnExactPackNext': WHATEVER THE INPUT: true; the input reads as it did. -/
def fnExactPackNextSpec : ChangeSpec := { name := "fnExactPackNext", fn := fun _ => fun
  | [d] => { results := [.lit (.bool true)], args := [d] }
  | _ => none }
def fnExactPackNextRow : OpenClaim := { program := "ytcmjdiceljbboaa", sum := "df7f308d95abc16bfc0862df74d8c147b2aa6f042127c30c4fdecaab72c21e1d", func := "loop.example/g00599/laws.FnExactPackNext", spec := "fnExactPackNext", apart := false }
def FnExactPackNextSaid : Prop := fnExactPackNextRow.holds Try.pinned (OpenSpec.ofChange fnExactPackNextSpec)

/-- ITS FALSE NEIGHBOUR: 'it returns false'. Refute it at one input. -/
def fnExactPackNextWrong : ChangeSpec := { name := "fnExactPackNext", fn := fun _ => fun
  | [d] => { results := [.lit (.bool false)], args := [d] }
  | _ => none }
def FnExactPackNextWrongFalsely : Prop := fnExactPackNextRow.holds Try.pinned (OpenSpec.ofChange fnExactPackNextWrong)

/-- 'laws.FnExactNextIn': WHATEVER THE INPUT: true; the input reads as it did. -/
def fnExactNextInSpec : ChangeSpec := { name := "fnExactNextIn", fn := fun _ => fun
  | [d1, d2] => { results := [.lit (.bool true)], args := [d1, d2] }
  | _ => none }
def fnExactNextInRow : OpenClaim := { program := "ytcmjdiceljbboaa", sum := "df7f308d95abc16bfc0862df74d8c147b2aa6f042127c30c4fdecaab72c21e1d", func := "loop.example/g00599/laws.FnExactNextIn", spec := "fnExactNextIn", apart := false }
def FnExactNextInSaid : Prop := fnExactNextInRow.holds Try.pinned (OpenSpec.ofChange fnExactNextInSpec)

/-- ITS FALSE NEIGHBOUR: 'it returns false'. Refute it at one input. -/
def fnExactNextInWrong : ChangeSpec := { name := "fnExactNextIn", fn := fun _ => fun
  | [d1, d2] => { results := [.lit (.bool false)], args := [d1, d2] }
  | _ => none }
def FnExactNextInWrongFalsely : Prop := fnExactNextInRow.holds Try.pinned (OpenSpec.ofChange fnExactNextInWrong)

/-- 'laws.FnExactIsTable': WHATEVER THE INPUT: true; the input reads as it did. -/
def fnExactIsTableSpec : ChangeSpec := { name := "fnExactIsTable", fn := fun _ => fun
  | [d1, d2, d3] => { results := [.lit (.bool true)], args := [d1, d2, d3] }
  | _ => none }
def fnExactIsTableRow : OpenClaim := { program := "ytcmjdiceljbboaa", sum := "df7f308d95abc16bfc0862df74d8c147b2aa6f042127c30c4fdecaab72c21e1d", func := "loop.example/g00599/laws.FnExactIsTable", spec := "fnExactIsTable", apart := false }
def FnExactIsTableSaid : Prop := fnExactIsTableRow.holds Try.pinned (OpenSpec.ofChange fnExactIsTableSpec)

/-- ITS FALSE NEIGHBOUR: 'it returns false'. Refute it at one input. -/
def fnExactIsTableWrong : ChangeSpec := { name := "fnExactIsTable", fn := fun _ => fun
  | [d1, d2, d3] => { results := [.lit (.bool false)], args := [d1, d2, d3] }
  | _ => none }
def FnExactIsTableWrongFalsely : Prop := fnExactIsTableRow.holds Try.pinned (OpenSpec.ofChange fnExactIsTableWrong)

/- THE SECOND FORM. 'bulk': how many values and letters a reading holds, each counted each time it is reached (what is shared counts as often as it is met; a slice's spare places count too). A statement '..UptoSaid' is the law's where the arguments, and the package variables that the reading takes, are together of bulk at most 1048576: NARROWER than '..Said'. Prove '..Said' where nothing that the law and all that it calls make is longer than what came in: it says more and counts as full. Else prove '..UptoSaid'. A law counts once. -/
mutual
def uptoBulk {H : Type} : DataW H → Nat
  | .lit (.string bytes) => bytes.length + 1
  | .lit _ => 1
  | .nil => 1
  | .ptr d => uptoBulk d + 1
  | .slice elems spare => uptoBulkAll elems + uptoBulkAll spare + 1
  | .agg parts => uptoBulkAll parts + 1
  | .iface _ d => uptoBulk d + 1
  | .map entries => uptoBulkEntries entries + 1
  | .held _ => 1
def uptoBulkAll {H : Type} : List (DataW H) → Nat
  | [] => 0
  | d :: r => uptoBulk d + uptoBulkAll r
def uptoBulkEntries {H : Type} : List (Lit × DataW H) → Nat
  | [] => 0
  | x :: r => uptoBulkEntry x + uptoBulkEntries r
def uptoBulkEntry {H : Type} : Lit × DataW H → Nat
  | (.string bytes, d) => bytes.length + uptoBulk d + 1
  | (_, d) => uptoBulk d + 1
 end
def uptoSmall : (H : Type) → List (DataW H) → Bool := fun _ ds => decide (uptoBulkAll ds ≤ 1048576)
def OpenSpec.upto (s : _root_.Go.ChangeSpec) : _root_.Go.OpenSpec := { _root_.Go.OpenSpec.ofChange s with cond := some uptoSmall }

/-- 'laws.FnExactIsContact', WHERE WHAT IT READS IS OF BULK AT MOST 1048576: true; the input reads as it did. -/
def fnExactIsContactUptoRow : OpenClaim := { program := "ytcmjdiceljbboaa", sum := "df7f308d95abc16bfc0862df74d8c147b2aa6f042127c30c4fdecaab72c21e1d", func := "loop.example/g00599/laws.FnExactIsContact", spec := "fnExactIsContact", apart := false, narrowed := true }
def FnExactIsContactUptoSaid : Prop := fnExactIsContactUptoRow.holds Try.pinned (OpenSpec.upto fnExactIsContactSpec)

/-- 'laws.FnExactCountReaching', WHERE WHAT IT READS IS OF BULK AT MOST 1048576: true; the input reads as it did. -/
def fnExactCountReachingUptoRow : OpenClaim := { program := "ytcmjdiceljbboaa", sum := "df7f308d95abc16bfc0862df74d8c147b2aa6f042127c30c4fdecaab72c21e1d", func := "loop.example/g00599/laws.FnExactCountReaching", spec := "fnExactCountReaching", apart := false, narrowed := true }
def FnExactCountReachingUptoSaid : Prop := fnExactCountReachingUptoRow.holds Try.pinned (OpenSpec.upto fnExactCountReachingSpec)

/-- 'laws.FnExactPathTo', WHERE WHAT IT READS IS OF BULK AT MOST 1048576: true; the input reads as it did. -/
def fnExactPathToUptoRow : OpenClaim := { program := "ytcmjdiceljbboaa", sum := "df7f308d95abc16bfc0862df74d8c147b2aa6f042127c30c4fdecaab72c21e1d", func := "loop.example/g00599/laws.FnExactPathTo", spec := "fnExactPathTo", apart := false, narrowed := true }
def FnExactPathToUptoSaid : Prop := fnExactPathToUptoRow.holds Try.pinned (OpenSpec.upto fnExactPathToSpec)

/-- 'laws.FnExactSameLinks', WHERE WHAT IT READS IS OF BULK AT MOST 1048576: true; the input reads as it did. -/
def fnExactSameLinksUptoRow : OpenClaim := { program := "ytcmjdiceljbboaa", sum := "df7f308d95abc16bfc0862df74d8c147b2aa6f042127c30c4fdecaab72c21e1d", func := "loop.example/g00599/laws.FnExactSameLinks", spec := "fnExactSameLinks", apart := false, narrowed := true }
def FnExactSameLinksUptoSaid : Prop := fnExactSameLinksUptoRow.holds Try.pinned (OpenSpec.upto fnExactSameLinksSpec)

/-- 'laws.FnExactContactTicks', WHERE WHAT IT READS IS OF BULK AT MOST 1048576: true; the input reads as it did. -/
def fnExactContactTicksUptoRow : OpenClaim := { program := "ytcmjdiceljbboaa", sum := "df7f308d95abc16bfc0862df74d8c147b2aa6f042127c30c4fdecaab72c21e1d", func := "loop.example/g00599/laws.FnExactContactTicks", spec := "fnExactContactTicks", apart := false, narrowed := true }
def FnExactContactTicksUptoSaid : Prop := fnExactContactTicksUptoRow.holds Try.pinned (OpenSpec.upto fnExactContactTicksSpec)

/-- 'laws.FnExactIsPacked', WHERE WHAT IT READS IS OF BULK AT MOST 1048576: true; the input reads as it did. -/
def fnExactIsPackedUptoRow : OpenClaim := { program := "ytcmjdiceljbboaa", sum := "df7f308d95abc16bfc0862df74d8c147b2aa6f042127c30c4fdecaab72c21e1d", func := "loop.example/g00599/laws.FnExactIsPacked", spec := "fnExactIsPacked", apart := false, narrowed := true }
def FnExactIsPackedUptoSaid : Prop := fnExactIsPackedUptoRow.holds Try.pinned (OpenSpec.upto fnExactIsPackedSpec)

/-- 'laws.FnExactIsDownhill', WHERE WHAT IT READS IS OF BULK AT MOST 1048576: true; the input reads as it did. -/
def fnExactIsDownhillUptoRow : OpenClaim := { program := "ytcmjdiceljbboaa", sum := "df7f308d95abc16bfc0862df74d8c147b2aa6f042127c30c4fdecaab72c21e1d", func := "loop.example/g00599/laws.FnExactIsDownhill", spec := "fnExactIsDownhill", apart := false, narrowed := true }
def FnExactIsDownhillUptoSaid : Prop := fnExactIsDownhillUptoRow.holds Try.pinned (OpenSpec.upto fnExactIsDownhillSpec)

/-- 'laws.FnExactCanSpeak', WHERE WHAT IT READS IS OF BULK AT MOST 1048576: true; the input reads as it did. -/
def fnExactCanSpeakUptoRow : OpenClaim := { program := "ytcmjdiceljbboaa", sum := "df7f308d95abc16bfc0862df74d8c147b2aa6f042127c30c4fdecaab72c21e1d", func := "loop.example/g00599/laws.FnExactCanSpeak", spec := "fnExactCanSpeak", apart := false, narrowed := true }
def FnExactCanSpeakUptoSaid : Prop := fnExactCanSpeakUptoRow.holds Try.pinned (OpenSpec.upto fnExactCanSpeakSpec)

/-- 'laws.FnExactEqualTables', WHERE WHAT IT READS IS OF BULK AT MOST 1048576: true; the input reads as it did. -/
def fnExactEqualTablesUptoRow : OpenClaim := { program := "ytcmjdiceljbboaa", sum := "df7f308d95abc16bfc0862df74d8c147b2aa6f042127c30c4fdecaab72c21e1d", func := "loop.example/g00599/laws.FnExactEqualTables", spec := "fnExactEqualTables", apart := false, narrowed := true }
def FnExactEqualTablesUptoSaid : Prop := fnExactEqualTablesUptoRow.holds Try.pinned (OpenSpec.upto fnExactEqualTablesSpec)

/-- 'laws.FnExactPackNext', WHERE WHAT IT READS IS OF BULK AT MOST 1048576: true; the input reads as it did. -/
def fnExactPackNextUptoRow : OpenClaim := { program := "ytcmjdiceljbboaa", sum := "df7f308d95abc16bfc0862df74d8c147b2aa6f042127c30c4fdecaab72c21e1d", func := "loop.example/g00599/laws.FnExactPackNext", spec := "fnExactPackNext", apart := false, narrowed := true }
def FnExactPackNextUptoSaid : Prop := fnExactPackNextUptoRow.holds Try.pinned (OpenSpec.upto fnExactPackNextSpec)

/-- 'laws.FnExactNextIn', WHERE WHAT IT READS IS OF BULK AT MOST 1048576: true; the input reads as it did. -/
def fnExactNextInUptoRow : OpenClaim := { program := "ytcmjdiceljbboaa", sum := "df7f308d95abc16bfc0862df74d8c147b2aa6f042127c30c4fdecaab72c21e1d", func := "loop.example/g00599/laws.FnExactNextIn", spec := "fnExactNextIn", apart := false, narrowed := true }
def FnExactNextInUptoSaid : Prop := fnExactNextInUptoRow.holds Try.pinned (OpenSpec.upto fnExactNextInSpec)

/-- 'laws.FnExactIsTable', WHERE WHAT IT READS IS OF BULK AT MOST 1048576: true; the input reads as it did. -/
def fnExactIsTableUptoRow : OpenClaim := { program := "ytcmjdiceljbboaa", sum := "df7f308d95abc16bfc0862df74d8c147b2aa6f042127c30c4fdecaab72c21e1d", func := "loop.example/g00599/laws.FnExactIsTable", spec := "fnExactIsTable", apart := false, narrowed := true }
def FnExactIsTableUptoSaid : Prop := fnExactIsTableUptoRow.holds Try.pinned (OpenSpec.upto fnExactIsTableSpec)

end Rows
end Go.Proofs.Ytcmjdiceljbboaa
