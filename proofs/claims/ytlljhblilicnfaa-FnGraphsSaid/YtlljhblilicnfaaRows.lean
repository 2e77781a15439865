/-
  No cell of these rows narrows 'for every input' (looked for: loops, veiled, ifaces, maps, wideKeys, modest, calm, conditions, laid).
  DERIVED. THE GIVEN ROWS OF THIS SEAT. 12 by the template 'for every input the law returns true; each argument reads behind the call as it read before'; 0 by the template 'total and deterministic' (their statements: YtlljhblilicnfaaTotals.lean).
  GIVEN WITH THE SEED: the statements are not yours to turn. If you find one false, say at which input.
  Laid BY PROGRAM, IN A SANDBOX (cutbox-rows.mjs): the forced cells as the released guide's own fill.sh prints them over the translation 4f933e8502060e69… (all of the seat's roots in one cut). By AI agents, Wed Nov 11 2026. No macro, syntax, notation, axiom, sorry.
-/
import Derived.Test.YtlljhblilicnfaaChecked
import GoSem.Claim
import GoSem.ClaimJoined
import GoSem.ClaimMapViews
import Derived.JoinedTies
import Derived.KernelRfl
namespace Go.Proofs.Ytlljhblilicnfaa
/- THE CELL 'sum', in the pinned program and in every row, IS THE sha256 OF THE DUMP (.gsa) THAT YtlljhblilicnfaaProg.lean LOADS. Nothing in Lean hashes anything: it is a label: what it is worth is what the hold of that sum in a sandbox is worth. -/
noncomputable def Try.pinned : Pinned := { name := "ytlljhblilicnfaa", sum := "4f933e8502060e69c47915d64e1680d2d0f56de907ff90cfd0ba77de82d88ec2", checked := Try.checked }
namespace Rows
def none {H : Type} : Left H := { results := [], args := [] }

/-- 'laws.FnPacked': WHATEVER THE INPUT: true; the input reads as it did. -/
def fnPackedSpec : ChangeSpec := { name := "fnPacked", fn := fun _ => fun
  | [d] => { results := [.lit (.bool true)], args := [d] }
  | _ => none }
def fnPackedRow : OpenClaim := { program := "ytlljhblilicnfaa", sum := "4f933e8502060e69c47915d64e1680d2d0f56de907ff90cfd0ba77de82d88ec2", func := "loop.example/g00599/laws.FnPacked", spec := "fnPacked", apart := false }
def FnPackedSaid : Prop := fnPackedRow.holds Try.pinned (OpenSpec.ofChange fnPackedSpec)

/-- ITS FALSE NEIGHBOUR: 'it returns false'. Refute it at one input. -/
def fnPackedWrong : ChangeSpec := { name := "fnPacked", fn := fun _ => fun
  | [d] => { results := [.lit (.bool false)], args := [d] }
  | _ => none }
def FnPackedWrongFalsely : Prop := fnPackedRow.holds Try.pinned (OpenSpec.ofChange fnPackedWrong)

/-- 'laws.FnExactUsesNode': WHATEVER THE INPUT: true; the input reads as it did. -/
def fnExactUsesNodeSpec : ChangeSpec := { name := "fnExactUsesNode", fn := fun _ => fun
  | [d1, d2] => { results := [.lit (.bool true)], args := [d1, d2] }
  | _ => none }
def fnExactUsesNodeRow : OpenClaim := { program := "ytlljhblilicnfaa", sum := "4f933e8502060e69c47915d64e1680d2d0f56de907ff90cfd0ba77de82d88ec2", func := "loop.example/g00599/laws.FnExactUsesNode", spec := "fnExactUsesNode", apart := false }
def FnExactUsesNodeSaid : Prop := fnExactUsesNodeRow.holds Try.pinned (OpenSpec.ofChange fnExactUsesNodeSpec)

/-- ITS FALSE NEIGHBOUR: 'it returns false'. Refute it at one input. -/
def fnExactUsesNodeWrong : ChangeSpec := { name := "fnExactUsesNode", fn := fun _ => fun
  | [d1, d2] => { results := [.lit (.bool false)], args := [d1, d2] }
  | _ => none }
def FnExactUsesNodeWrongFalsely : Prop := fnExactUsesNodeRow.holds Try.pinned (OpenSpec.ofChange fnExactUsesNodeWrong)

/-- 'laws.FnExactIsPlan': WHATEVER THE INPUT: true; the input reads as it did. -/
def fnExactIsPlanSpec : ChangeSpec := { name := "fnExactIsPlan", fn := fun _ => fun
  | [d1, d2] => { results := [.lit (.bool true)], args := [d1, d2] }
  | _ => none }
def fnExactIsPlanRow : OpenClaim := { program := "ytlljhblilicnfaa", sum := "4f933e8502060e69c47915d64e1680d2d0f56de907ff90cfd0ba77de82d88ec2", func := "loop.example/g00599/laws.FnExactIsPlan", spec := "fnExactIsPlan", apart := false }
def FnExactIsPlanSaid : Prop := fnExactIsPlanRow.holds Try.pinned (OpenSpec.ofChange fnExactIsPlanSpec)

/-- ITS FALSE NEIGHBOUR: 'it returns false'. Refute it at one input. -/
def fnExactIsPlanWrong : ChangeSpec := { name := "fnExactIsPlan", fn := fun _ => fun
  | [d1, d2] => { results := [.lit (.bool false)], args := [d1, d2] }
  | _ => none }
def FnExactIsPlanWrongFalsely : Prop := fnExactIsPlanRow.holds Try.pinned (OpenSpec.ofChange fnExactIsPlanWrong)

/-- 'laws.FnExactLinksAt': WHATEVER THE INPUT: true; the input reads as it did. -/
def fnExactLinksAtSpec : ChangeSpec := { name := "fnExactLinksAt", fn := fun _ => fun
  | [d1, d2] => { results := [.lit (.bool true)], args := [d1, d2] }
  | _ => none }
def fnExactLinksAtRow : OpenClaim := { program := "ytlljhblilicnfaa", sum := "4f933e8502060e69c47915d64e1680d2d0f56de907ff90cfd0ba77de82d88ec2", func := "loop.example/g00599/laws.FnExactLinksAt", spec := "fnExactLinksAt", apart := false }
def FnExactLinksAtSaid : Prop := fnExactLinksAtRow.holds Try.pinned (OpenSpec.ofChange fnExactLinksAtSpec)

/-- ITS FALSE NEIGHBOUR: 'it returns false'. Refute it at one input. -/
def fnExactLinksAtWrong : ChangeSpec := { name := "fnExactLinksAt", fn := fun _ => fun
  | [d1, d2] => { results := [.lit (.bool false)], args := [d1, d2] }
  | _ => none }
def FnExactLinksAtWrongFalsely : Prop := fnExactLinksAtRow.holds Try.pinned (OpenSpec.ofChange fnExactLinksAtWrong)

/-- 'laws.FnExactIsCovered': WHATEVER THE INPUT: true; the input reads as it did. -/
def fnExactIsCoveredSpec : ChangeSpec := { name := "fnExactIsCovered", fn := fun _ => fun
  | [d1, d2, d3] => { results := [.lit (.bool true)], args := [d1, d2, d3] }
  | _ => none }
def fnExactIsCoveredRow : OpenClaim := { program := "ytlljhblilicnfaa", sum := "4f933e8502060e69c47915d64e1680d2d0f56de907ff90cfd0ba77de82d88ec2", func := "loop.example/g00599/laws.FnExactIsCovered", spec := "fnExactIsCovered", unfollowed := true, recurses := true, apart := false }
def FnExactIsCoveredSaid : Prop := fnExactIsCoveredRow.holds Try.pinned (OpenSpec.ofChange fnExactIsCoveredSpec)

/-- ITS FALSE NEIGHBOUR: 'it returns false'. Refute it at one input. -/
def fnExactIsCoveredWrong : ChangeSpec := { name := "fnExactIsCovered", fn := fun _ => fun
  | [d1, d2, d3] => { results := [.lit (.bool false)], args := [d1, d2, d3] }
  | _ => none }
def FnExactIsCoveredWrongFalsely : Prop := fnExactIsCoveredRow.holds Try.pinned (OpenSpec.ofChange fnExactIsCoveredWrong)

/-- 'laws.FnExactChangesOf': WHATEVER THE INPUT: true; the input reads as it did. -/
def fnExactChangesOfSpec : ChangeSpec := { name := "fnExactChangesOf", fn := fun _ => fun
  | [d1, d2, d3] => { results := [.lit (.bool true)], args := [d1, d2, d3] }
  | _ => none }
def fnExactChangesOfRow : OpenClaim := { program := "ytlljhblilicnfaa", sum := "4f933e8502060e69c47915d64e1680d2d0f56de907ff90cfd0ba77de82d88ec2", func := "loop.example/g00599/laws.FnExactChangesOf", spec := "fnExactChangesOf", apart := false }
def FnExactChangesOfSaid : Prop := fnExactChangesOfRow.holds Try.pinned (OpenSpec.ofChange fnExactChangesOfSpec)

/-- ITS FALSE NEIGHBOUR: 'it returns false'. Refute it at one input. -/
def fnExactChangesOfWrong : ChangeSpec := { name := "fnExactChangesOf", fn := fun _ => fun
  | [d1, d2, d3] => { results := [.lit (.bool false)], args := [d1, d2, d3] }
  | _ => none }
def FnExactChangesOfWrongFalsely : Prop := fnExactChangesOfRow.holds Try.pinned (OpenSpec.ofChange fnExactChangesOfWrong)

/-- 'laws.FnExactPiecesOf': WHATEVER THE INPUT: true; the input reads as it did. -/
def fnExactPiecesOfSpec : ChangeSpec := { name := "fnExactPiecesOf", fn := fun _ => fun
  | [d1, d2, d3] => { results := [.lit (.bool true)], args := [d1, d2, d3] }
  | _ => none }
def fnExactPiecesOfRow : OpenClaim := { program := "ytlljhblilicnfaa", sum := "4f933e8502060e69c47915d64e1680d2d0f56de907ff90cfd0ba77de82d88ec2", func := "loop.example/g00599/laws.FnExactPiecesOf", spec := "fnExactPiecesOf", apart := false }
def FnExactPiecesOfSaid : Prop := fnExactPiecesOfRow.holds Try.pinned (OpenSpec.ofChange fnExactPiecesOfSpec)

/-- ITS FALSE NEIGHBOUR: 'it returns false'. Refute it at one input. -/
def fnExactPiecesOfWrong : ChangeSpec := { name := "fnExactPiecesOf", fn := fun _ => fun
  | [d1, d2, d3] => { results := [.lit (.bool false)], args := [d1, d2, d3] }
  | _ => none }
def FnExactPiecesOfWrongFalsely : Prop := fnExactPiecesOfRow.holds Try.pinned (OpenSpec.ofChange fnExactPiecesOfWrong)

/-- 'laws.FnExactNeighborsIn': WHATEVER THE INPUT: true; the input reads as it did. -/
def fnExactNeighborsInSpec : ChangeSpec := { name := "fnExactNeighborsIn", fn := fun _ => fun
  | [d1, d2] => { results := [.lit (.bool true)], args := [d1, d2] }
  | _ => none }
def fnExactNeighborsInRow : OpenClaim := { program := "ytlljhblilicnfaa", sum := "4f933e8502060e69c47915d64e1680d2d0f56de907ff90cfd0ba77de82d88ec2", func := "loop.example/g00599/laws.FnExactNeighborsIn", spec := "fnExactNeighborsIn", recurses := true, apart := false }
def FnExactNeighborsInSaid : Prop := fnExactNeighborsInRow.holds Try.pinned (OpenSpec.ofChange fnExactNeighborsInSpec)

/-- ITS FALSE NEIGHBOUR: 'it returns false'. Refute it at one input. -/
def fnExactNeighborsInWrong : ChangeSpec := { name := "fnExactNeighborsIn", fn := fun _ => fun
  | [d1, d2] => { results := [.lit (.bool false)], args := [d1, d2] }
  | _ => none }
def FnExactNeighborsInWrongFalsely : Prop := fnExactNeighborsInRow.holds Try.pinned (OpenSpec.ofChange fnExactNeighborsInWrong)

/-- 'laws.FnExactDistancesTo': WHATEVER THE INPUT: true; the input reads as it did. -/
def fnExactDistancesToSpec : ChangeSpec := { name := "fnExactDistancesTo", fn := fun _ => fun
  | [d1, d2, d3, d4] => { results := [.lit (.bool true)], args := [d1, d2, d3, d4] }
  | _ => none }
def fnExactDistancesToRow : OpenClaim := { program := "ytlljhblilicnfaa", sum := "4f933e8502060e69c47915d64e1680d2d0f56de907ff90cfd0ba77de82d88ec2", func := "loop.example/g00599/laws.FnExactDistancesTo", spec := "fnExactDistancesTo", recurses := true, apart := false }
def FnExactDistancesToSaid : Prop := fnExactDistancesToRow.holds Try.pinned (OpenSpec.ofChange fnExactDistancesToSpec)

/-- ITS FALSE NEIGHBOUR: 'it returns false'. Refute it at one input. -/
def fnExactDistancesToWrong : ChangeSpec := { name := "fnExactDistancesTo", fn := fun _ => fun
  | [d1, d2, d3, d4] => { results := [.lit (.bool false)], args := [d1, d2, d3, d4] }
  | _ => none }
def FnExactDistancesToWrongFalsely : Prop := fnExactDistancesToRow.holds Try.pinned (OpenSpec.ofChange fnExactDistancesToWrong)

/-- 'laws.FnGraphs': WHATEVER THE INPUT: true; the input reads as it did. -/
def fnGraphsSpec : ChangeSpec := { name := "fnGraphs", fn := fun _ => fun
  | [d] => { results := [.lit (.bool true)], args := [d] }
  | _ => none }
def fnGraphsRow : OpenClaim := { program := "ytlljhblilicnfaa", sum := "4f933e8502060e69c47915d64e1680d2d0f56de907ff90cfd0ba77de82d88ec2", func := "loop.example/g00599/laws.FnGraphs", spec := "fnGraphs", recurses := true, apart := false }
def FnGraphsSaid : Prop := fnGraphsRow.holds Try.pinned (OpenSpec.ofChange fnGraphsSpec)

/-- ITS FALSE NEIGHBOUR: 'it returns false'. Refute it at one input. -/
def fnGraphsWrong : ChangeSpec := { name := "fnGraphs", fn := fun _ => fun
  | [d] => { results := [.lit (.bool false)], args := [d] }
  | _ => none }
def FnGraphsWrongFalsely : Prop := fnGraphsRow.holds Try.pinned (OpenSpec.ofChange fnGraphsWrong)

/-- 'laws.FnExactNextTo': WHATEVER THE INPUT: true; the input reads as it did. -/
def fnExactNextToSpec : ChangeSpec := { name := "fnExactNextTo", fn := fun _ => fun
  | [d1, d2, d3, d4] => { results := [.lit (.bool true)], args := [d1, d2, d3, d4] }
  | _ => none }
def fnExactNextToRow : OpenClaim := { program := "ytlljhblilicnfaa", sum := "4f933e8502060e69c47915d64e1680d2d0f56de907ff90cfd0ba77de82d88ec2", func := "loop.example/g00599/laws.FnExactNextTo", spec := "fnExactNextTo", recurses := true, apart := false }
def FnExactNextToSaid : Prop := fnExactNextToRow.holds Try.pinned (OpenSpec.ofChange fnExactNextToSpec)

/-- ITS FALSE NEIGHBOUR: 'it returns false'. Refute it at one input. -/
def fnExactNextToWrong : ChangeSpec := { name := "fnExactNextTo", fn := fun _ => fun
  | [d1, d2, d3, d4] => { results := [.lit (.bool false)], args := [d1, d2, d3, d4] }
  | _ => none }
def FnExactNextToWrongFalsely : Prop := fnExactNextToRow.holds Try.pinned (OpenSpec.ofChange fnExactNextToWrong)

/-- 'laws.FnExactTableOf': WHATEVER THE INPUT: true; the input reads as it did. -/
def fnExactTableOfSpec : ChangeSpec := { name := "fnExactTableOf", fn := fun _ => fun
  | [d1, d2, d3, d4] => { results := [.lit (.bool true)], args := [d1, d2, d3, d4] }
  | _ => none }
def fnExactTableOfRow : OpenClaim := { program := "ytlljhblilicnfaa", sum := "4f933e8502060e69c47915d64e1680d2d0f56de907ff90cfd0ba77de82d88ec2", func := "loop.example/g00599/laws.FnExactTableOf", spec := "fnExactTableOf", recurses := true, apart := false }
def FnExactTableOfSaid : Prop := fnExactTableOfRow.holds Try.pinned (OpenSpec.ofChange fnExactTableOfSpec)

/-- ITS FALSE NEIGHBOUR: 'it returns false'. Refute it at one input. -/
def fnExactTableOfWrong : ChangeSpec := { name := "fnExactTableOf", fn := fun _ => fun
  | [d1, d2, d3, d4] => { results := [.lit (.bool false)], args := [d1, d2, d3, d4] }
  | _ => none }
def FnExactTableOfWrongFalsely : Prop := fnExactTableOfRow.holds Try.pinned (OpenSpec.ofChange fnExactTableOfWrong)

/- THE SECOND FORM. 'bulk': how many values and letters a reading holds, each counted each time it is reached (what is shared counts as often as it is met; a slice's spare places count too). A statement '..UptoSaid' is the law's where the arguments, and the package variables that the reading takes, are together of bulk at most 1048576: NARROWER than '..Said'. Prove '..Said' where nothing that the law and all that it calls make is longer than what came in: it says more and counts as full. Else prove '..UptoSaid'. A law counts once. -/
mutual
def uptoBulk {H : Type} : DataW H → Nat
  | .lit (.string bytes) => bytes.length + 1
  | .lit _ => 1
  | .nil => 1
  | .ptr d => uptoBulk d + 1
  | .slice elems spare => uptoBulkAll elems + uptoBulkAll spare + 1
  | .agg parts => uptoBulkAll parts + 1
  | .iface _ d => uptoBulk d + 1
  | .map entries => uptoBulkEntries entries + 1
  | .held _ => 1
def uptoBulkAll {H : Type} : List (DataW H) → Nat
  | [] => 0
  | d :: r => uptoBulk d + uptoBulkAll r
def uptoBulkEntries {H : Type} : List (Lit × DataW H) → Nat
  | [] => 0
  | x :: r => uptoBulkEntry x + uptoBulkEntries r
def uptoBulkEntry {H : Type} : Lit × DataW H → Nat
  | (.string bytes, d) => bytes.length + uptoBulk d + 1
  | (_, d) => uptoBulk d + 1
 end
def uptoSmall : (H : Type) → List (DataW H) → Bool := fun _ ds => decide (uptoBulkAll ds ≤ 1048576)
def OpenSpec.upto (s : _root_.Go.ChangeSpec) : _root_.Go.OpenSpec := { _root_.Go.OpenSpec.ofChange s with cond := some uptoSmall }

/-- 'laws.FnPacked', WHERE WHAT IT READS IS OF BULK AT MOST 1048576: true; the input reads as it did. -/
def fnPackedUptoRow : OpenClaim := { program := "ytlljhblilicnfaa", sum := "4f933e8502060e69c47915d64e1680d2d0f56de907ff90cfd0ba77de82d88ec2", func := "loop.example/g00599/laws.FnPacked", spec := "fnPacked", apart := false, narrowed := true }
def FnPackedUptoSaid : Prop := fnPackedUptoRow.holds Try.pinned (OpenSpec.upto fnPackedSpec)

/-- 'laws.FnExactUsesNode', WHERE WHAT IT READS IS OF BULK AT MOST 1048576: true; the input reads as it did. -/
def fnExactUsesNodeUptoRow : OpenClaim := { program := "ytlljhblilicnfaa", sum := "4f933e8502060e69c47915d64e1680d2d0f56de907ff90cfd0ba77de82d88ec2", func := "loop.example/g00599/laws.FnExactUsesNode", spec := "fnExactUsesNode", apart := false, narrowed := true }
def FnExactUsesNodeUptoSaid : Prop := fnExactUsesNodeUptoRow.holds Try.pinned (OpenSpec.upto fnExactUsesNodeSpec)

/-- 'laws.FnExactIsPlan', WHERE WHAT IT READS IS OF BULK AT MOST 1048576: true; the input reads as it did. -/
def fnExactIsPlanUptoRow : OpenClaim := { program := "ytlljhblilicnfaa", sum := "4f933e8502060e69c47915d64e1680d2d0f56de907ff90cfd0ba77de82d88ec2", func := "loop.example/g00599/laws.FnExactIsPlan", spec := "fnExactIsPlan", apart := false, narrowed := true }
def FnExactIsPlanUptoSaid : Prop := fnExactIsPlanUptoRow.holds Try.pinned (OpenSpec.upto fnExactIsPlanSpec)

/-- 'laws.FnExactLinksAt', WHERE WHAT IT READS IS OF BULK AT MOST 1048576: true; the input reads as it did. -/
def fnExactLinksAtUptoRow : OpenClaim := { program := "ytlljhblilicnfaa", sum := "4f933e8502060e69c47915d64e1680d2d0f56de907ff90cfd0ba77de82d88ec2", func := "loop.example/g00599/laws.FnExactLinksAt", spec := "fnExactLinksAt", apart := false, narrowed := true }
def FnExactLinksAtUptoSaid : Prop := fnExactLinksAtUptoRow.holds Try.pinned (OpenSpec.upto fnExactLinksAtSpec)

/-- 'laws.FnExactIsCovered', WHERE WHAT IT READS IS OF BULK AT MOST 1048576: true; the input reads as it did. -/
def fnExactIsCoveredUptoRow : OpenClaim := { program := "ytlljhblilicnfaa", sum := "4f933e8502060e69c47915d64e1680d2d0f56de907ff90cfd0ba77de82d88ec2", func := "loop.example/g00599/laws.FnExactIsCovered", spec := "fnExactIsCovered", unfollowed := true, recurses := true, apart := false, narrowed := true }
def FnExactIsCoveredUptoSaid : Prop := fnExactIsCoveredUptoRow.holds Try.pinned (OpenSpec.upto fnExactIsCoveredSpec)

/-- 'laws.FnExactChangesOf', WHERE WHAT IT READS IS OF BULK AT MOST 1048576: true; the input reads as it did. -/
def fnExactChangesOfUptoRow : OpenClaim := { program := "ytlljhblilicnfaa", sum := "4f933e8502060e69c47915d64e1680d2d0f56de907ff90cfd0ba77de82d88ec2", func := "loop.example/g00599/laws.FnExactChangesOf", spec := "fnExactChangesOf", apart := false, narrowed := true }
def FnExactChangesOfUptoSaid : Prop := fnExactChangesOfUptoRow.holds Try.pinned (OpenSpec.upto fnExactChangesOfSpec)

/-- 'laws.FnExactPiecesOf', WHERE WHAT IT READS IS OF BULK AT MOST 1048576: true; the input reads as it did. -/
def fnExactPiecesOfUptoRow : OpenClaim := { program := "ytlljhblilicnfaa", sum := "4f933e8502060e69c47915d64e1680d2d0f56de907ff90cfd0ba77de82d88ec2", func := "loop.example/g00599/laws.FnExactPiecesOf", spec := "fnExactPiecesOf", apart := false, narrowed := true }
def FnExactPiecesOfUptoSaid : Prop := fnExactPiecesOfUptoRow.holds Try.pinned (OpenSpec.upto fnExactPiecesOfSpec)

/-- 'laws.FnExactNeighborsIn', WHERE WHAT IT READS IS OF BULK AT MOST 1048576: true; the input reads as it did. -/
def fnExactNeighborsInUptoRow : OpenClaim := { program := "ytlljhblilicnfaa", sum := "4f933e8502060e69c47915d64e1680d2d0f56de907ff90cfd0ba77de82d88ec2", func := "loop.example/g00599/laws.FnExactNeighborsIn", spec := "fnExactNeighborsIn", recurses := true, apart := false, narrowed := true }
def FnExactNeighborsInUptoSaid : Prop := fnExactNeighborsInUptoRow.holds Try.pinned (OpenSpec.upto fnExactNeighborsInSpec)

/-- 'laws.FnExactDistancesTo', WHERE WHAT IT READS IS OF BULK AT MOST 1048576: true; the input reads as it did. -/
def fnExactDistancesToUptoRow : OpenClaim := { program := "ytlljhblilicnfaa", sum := "4f933e8502060e69c47915d64e1680d2d0f56de907ff90cfd0ba77de82d88ec2", func := "loop.example/g00599/laws.FnExactDistancesTo", spec := "fnExactDistancesTo", recurses := true, apart := false, narrowed := true }
def FnExactDistancesToUptoSaid : Prop := fnExactDistancesToUptoRow.holds Try.pinned (OpenSpec.upto fnExactDistancesToSpec)

/-- 'laws.FnGraphs', WHERE WHAT IT READS IS OF BULK AT MOST 1048576: true; the input reads as it did. -/
def fnGraphsUptoRow : OpenClaim := { program := "ytlljhblilicnfaa", sum := "4f933e8502060e69c47915d64e1680d2d0f56de907ff90cfd0ba77de82d88ec2", func := "loop.example/g00599/laws.FnGraphs", spec := "fnGraphs", recurses := true, apart := false, narrowed := true }
def FnGraphsUptoSaid : Prop := fnGraphsUptoRow.holds Try.pinned (OpenSpec.upto fnGraphsSpec)

/-- 'laws.FnExactNextTo', WHERE WHAT IT READS IS OF BULK AT MOST 1048576: true; the input reads as it did. -/
def fnExactNextToUptoRow : OpenClaim := { program := "ytlljhblilicnfaa", sum := "4f933e8502060e69c47915d64e1680d2d0f56de907ff90cfd0ba77de82d88ec2", func := "loop.example/g00599/laws.FnExactNextTo", spec := "fnExactNextTo", recurses := true, apart := false, narrowed := true }
def FnExactNextToUptoSaid : Prop := fnExactNextToUptoRow.holds Try.pinned (OpenSpec.upto fnExactNextToSpec)

/-- 'laws.FnExactTableOf', WHERE WHAT IT READS IS OF BULK AT MOST 1048576: true; the input reads as it did. -/
def fnExactTableOfUptoRow : OpenClaim := { program := "ytlljhblilicnfaa", sum := "4f933e8502060e69c47915d64e1680d2d0f56de907ff90cfd0ba77de82d88ec2", func := "loop.example/g00599/laws.FnExactTableOf", spec := "fnExactTableOf", recurses := true, apart := false, narrowed := true }
def FnExactTableOfUptoSaid : Prop := fnExactTableOfUptoRow.holds Try.pinned (OpenSpec.upto fnExactTableOfSpec)

end Rows
end Go.Proofs.Ytlljhblilicnfaa
