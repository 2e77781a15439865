/-
  No cell of these rows narrows 'for every input' (looked for: loops, veiled, ifaces, maps, wideKeys, modest, calm, conditions, laid).
  DERIVED. THE GIVEN ROWS OF THIS SEAT. 6 by the template 'for every input the law returns true; each argument reads behind the call as it read before'; 0 by the template 'total and deterministic' (their statements: YtcjfalmhohcifaaTotals.lean).
  GIVEN WITH THE SEED: the statements are not yours to turn. If you find one false, say at which input.
  Laid BY PROGRAM, IN A SANDBOX (cutbox-rows.mjs): the forced cells as the released guide's own fill.sh prints them over the translation 9c30e1621625b98c… (all of the seat's roots in one cut). By AI agents, Wed Nov 11 2026. No macro, syntax, notation, axiom, sorry.
-/
import Derived.Test.YtcjfalmhohcifaaChecked
import GoSem.Claim
import GoSem.ClaimJoined
import GoSem.ClaimMapViews
import Derived.JoinedTies
import Derived.KernelRfl
namespace Go.Proofs.Ytcjfalmhohcifaa
/- THE CELL 'sum', in the pinned program and in every row, IS THE sha256 OF THE DUMP (.gsa) THAT YtcjfalmhohcifaaProg.lean LOADS. Nothing in Lean hashes anything: it is a label: what it is worth is what the hold of that sum in a sandbox is worth. -/
noncomputable def Try.pinned : Pinned := { name := "ytcjfalmhohcifaa", sum := "9c30e1621625b98c875e2047cdf87a16b4f4a0d7bd3886efb37607fb50251cfb", checked := Try.checked }
namespace Rows
def none {H : Type} : Left H := { results := [], args := [] }

/-- 'laws.FnExactSpeakingSpans': WHATEVER THE INPUT: true; the input reads as it did. -/
def fnExactSpeakingSpansSpec : ChangeSpec := { name := "fnExactSpeakingSpans", fn := fun _ => fun
  | [d1, d2, d3, d4, d5] => { results := [.lit (.bool true)], args := [d1, d2, d3, d4, d5] }
  | _ => none }
def fnExactSpeakingSpansRow : OpenClaim := { program := "ytcjfalmhohcifaa", sum := "9c30e1621625b98c875e2047cdf87a16b4f4a0d7bd3886efb37607fb50251cfb", func := "loop.example/g00599/laws.FnExactSpeakingSpans", spec := "fnExactSpeakingSpans", unfollowed := true, recurses := true, apart := false }
def FnExactSpeakingSpansSaid : Prop := fnExactSpeakingSpansRow.holds Try.pinned (OpenSpec.ofChange fnExactSpeakingSpansSpec)

/-- ITS FALSE NEIGHBOUR: 'it returns false'. Refute it at one input. -/
def fnExactSpeakingSpansWrong : ChangeSpec := { name := "fnExactSpeakingSpans", fn := fun _ => fun
  | [d1, d2, d3, d4, d5] => { results := [.lit (.bool false)], args := [d1, d2, d3, d4, d5] }
  | _ => none }
def FnExactSpeakingSpansWrongFalsely : Prop := fnExactSpeakingSpansRow.holds Try.pinned (OpenSpec.ofChange fnExactSpeakingSpansWrong)

/-- 'laws.FnExactCutClouds': WHATEVER THE INPUT: true; the input reads as it did. -/
def fnExactCutCloudsSpec : ChangeSpec := { name := "fnExactCutClouds", fn := fun _ => fun
  | [d1, d2] => { results := [.lit (.bool true)], args := [d1, d2] }
  | _ => none }
def fnExactCutCloudsRow : OpenClaim := { program := "ytcjfalmhohcifaa", sum := "9c30e1621625b98c875e2047cdf87a16b4f4a0d7bd3886efb37607fb50251cfb", func := "loop.example/g00599/laws.FnExactCutClouds", spec := "fnExactCutClouds", unfollowed := true, recurses := true, apart := false }
def FnExactCutCloudsSaid : Prop := fnExactCutCloudsRow.holds Try.pinned (OpenSpec.ofChange fnExactCutCloudsSpec)

/-- ITS FALSE NEIGHBOUR: 'it returns false'. Refute it at one input. -/
def fnExactCutCloudsWrong : ChangeSpec := { name := "fnExactCutClouds", fn := fun _ => fun
  | [d1, d2] => { results := [.lit (.bool false)], args := [d1, d2] }
  | _ => none }
def FnExactCutCloudsWrongFalsely : Prop := fnExactCutCloudsRow.holds Try.pinned (OpenSpec.ofChange fnExactCutCloudsWrong)

/-- 'laws.FnExactLostTicks': WHATEVER THE INPUT: true; the input reads as it did. -/
def fnExactLostTicksSpec : ChangeSpec := { name := "fnExactLostTicks", fn := fun _ => fun
  | [d1, d2] => { results := [.lit (.bool true)], args := [d1, d2] }
  | _ => none }
def fnExactLostTicksRow : OpenClaim := { program := "ytcjfalmhohcifaa", sum := "9c30e1621625b98c875e2047cdf87a16b4f4a0d7bd3886efb37607fb50251cfb", func := "loop.example/g00599/laws.FnExactLostTicks", spec := "fnExactLostTicks", unfollowed := true, recurses := true, apart := false }
def FnExactLostTicksSaid : Prop := fnExactLostTicksRow.holds Try.pinned (OpenSpec.ofChange fnExactLostTicksSpec)

/-- ITS FALSE NEIGHBOUR: 'it returns false'. Refute it at one input. -/
def fnExactLostTicksWrong : ChangeSpec := { name := "fnExactLostTicks", fn := fun _ => fun
  | [d1, d2] => { results := [.lit (.bool false)], args := [d1, d2] }
  | _ => none }
def FnExactLostTicksWrongFalsely : Prop := fnExactLostTicksRow.holds Try.pinned (OpenSpec.ofChange fnExactLostTicksWrong)

/-- 'laws.FnExactSureNeighbors': WHATEVER THE INPUT: true; the input reads as it did. -/
def fnExactSureNeighborsSpec : ChangeSpec := { name := "fnExactSureNeighbors", fn := fun _ => fun
  | [d1, d2, d3] => { results := [.lit (.bool true)], args := [d1, d2, d3] }
  | _ => none }
def fnExactSureNeighborsRow : OpenClaim := { program := "ytcjfalmhohcifaa", sum := "9c30e1621625b98c875e2047cdf87a16b4f4a0d7bd3886efb37607fb50251cfb", func := "loop.example/g00599/laws.FnExactSureNeighbors", spec := "fnExactSureNeighbors", apart := false }
def FnExactSureNeighborsSaid : Prop := fnExactSureNeighborsRow.holds Try.pinned (OpenSpec.ofChange fnExactSureNeighborsSpec)

/-- ITS FALSE NEIGHBOUR: 'it returns false'. Refute it at one input. -/
def fnExactSureNeighborsWrong : ChangeSpec := { name := "fnExactSureNeighbors", fn := fun _ => fun
  | [d1, d2, d3] => { results := [.lit (.bool false)], args := [d1, d2, d3] }
  | _ => none }
def FnExactSureNeighborsWrongFalsely : Prop := fnExactSureNeighborsRow.holds Try.pinned (OpenSpec.ofChange fnExactSureNeighborsWrong)

/-- 'laws.FnExactSureShare': WHATEVER THE INPUT: true; the input reads as it did. -/
def fnExactSureShareSpec : ChangeSpec := { name := "fnExactSureShare", fn := fun _ => fun
  | [d1, d2, d3, d4, d5] => { results := [.lit (.bool true)], args := [d1, d2, d3, d4, d5] }
  | _ => none }
def fnExactSureShareRow : OpenClaim := { program := "ytcjfalmhohcifaa", sum := "9c30e1621625b98c875e2047cdf87a16b4f4a0d7bd3886efb37607fb50251cfb", func := "loop.example/g00599/laws.FnExactSureShare", spec := "fnExactSureShare", unfollowed := true, recurses := true, apart := false }
def FnExactSureShareSaid : Prop := fnExactSureShareRow.holds Try.pinned (OpenSpec.ofChange fnExactSureShareSpec)

/-- ITS FALSE NEIGHBOUR: 'it returns false'. Refute it at one input. -/
def fnExactSureShareWrong : ChangeSpec := { name := "fnExactSureShare", fn := fun _ => fun
  | [d1, d2, d3, d4, d5] => { results := [.lit (.bool false)], args := [d1, d2, d3, d4, d5] }
  | _ => none }
def FnExactSureShareWrongFalsely : Prop := fnExactSureShareRow.holds Try.pinned (OpenSpec.ofChange fnExactSureShareWrong)

/-- 'laws.FnExactSureWindows': WHATEVER THE INPUT: true; the input reads as it did. -/
def fnExactSureWindowsSpec : ChangeSpec := { name := "fnExactSureWindows", fn := fun _ => fun
  | [d1, d2, d3, d4, d5] => { results := [.lit (.bool true)], args := [d1, d2, d3, d4, d5] }
  | _ => none }
def fnExactSureWindowsRow : OpenClaim := { program := "ytcjfalmhohcifaa", sum := "9c30e1621625b98c875e2047cdf87a16b4f4a0d7bd3886efb37607fb50251cfb", func := "loop.example/g00599/laws.FnExactSureWindows", spec := "fnExactSureWindows", unfollowed := true, recurses := true, apart := false }
def FnExactSureWindowsSaid : Prop := fnExactSureWindowsRow.holds Try.pinned (OpenSpec.ofChange fnExactSureWindowsSpec)

/-- ITS FALSE NEIGHBOUR: 'it returns false'. Refute it at one input. -/
def fnExactSureWindowsWrong : ChangeSpec := { name := "fnExactSureWindows", fn := fun _ => fun
  | [d1, d2, d3, d4, d5] => { results := [.lit (.bool false)], args := [d1, d2, d3, d4, d5] }
  | _ => none }
def FnExactSureWindowsWrongFalsely : Prop := fnExactSureWindowsRow.holds Try.pinned (OpenSpec.ofChange fnExactSureWindowsWrong)

/- THE SECOND FORM. 'bulk': how many values and letters a reading holds, each counted each time it is reached (what is shared counts as often as it is met; a slice's spare places count too). A statement '..UptoSaid' is the law's where the arguments, and the package variables that the reading takes, are together of bulk at most 1048576: NARROWER than '..Said'. Prove '..Said' where nothing that the law and all that it calls make is longer than what came in: it says more and counts as full. Else prove '..UptoSaid'. A law counts once. -/
mutual
def uptoBulk {H : Type} : DataW H → Nat
  | .lit (.string bytes) => bytes.length + 1
  | .lit _ => 1
  | .nil => 1
  | .ptr d => uptoBulk d + 1
  | .slice elems spare => uptoBulkAll elems + uptoBulkAll spare + 1
  | .agg parts => uptoBulkAll parts + 1
  | .iface _ d => uptoBulk d + 1
  | .map entries => uptoBulkEntries entries + 1
  | .held _ => 1
def uptoBulkAll {H : Type} : List (DataW H) → Nat
  | [] => 0
  | d :: r => uptoBulk d + uptoBulkAll r
def uptoBulkEntries {H : Type} : List (Lit × DataW H) → Nat
  | [] => 0
  | x :: r => uptoBulkEntry x + uptoBulkEntries r
def uptoBulkEntry {H : Type} : Lit × DataW H → Nat
  | (.string bytes, d) => bytes.length + uptoBulk d + 1
  | (_, d) => uptoBulk d + 1
 end
def uptoSmall : (H : Type) → List (DataW H) → Bool := fun _ ds => decide (uptoBulkAll ds ≤ 1048576)
def OpenSpec.upto (s : _root_.Go.ChangeSpec) : _root_.Go.OpenSpec := { _root_.Go.OpenSpec.ofChange s with cond := some uptoSmall }

/-- 'laws.FnExactSpeakingSpans', WHERE WHAT IT READS IS OF BULK AT MOST 1048576: true; the input reads as it did. -/
def fnExactSpeakingSpansUptoRow : OpenClaim := { program := "ytcjfalmhohcifaa", sum := "9c30e1621625b98c875e2047cdf87a16b4f4a0d7bd3886efb37607fb50251cfb", func := "loop.example/g00599/laws.FnExactSpeakingSpans", spec := "fnExactSpeakingSpans", unfollowed := true, recurses := true, apart := false, narrowed := true }
def FnExactSpeakingSpansUptoSaid : Prop := fnExactSpeakingSpansUptoRow.holds Try.pinned (OpenSpec.upto fnExactSpeakingSpansSpec)

/-- 'laws.FnExactCutClouds', WHERE WHAT IT READS IS OF BULK AT MOST 1048576: true; the input reads as it did. -/
def fnExactCutCloudsUptoRow : OpenClaim := { program := "ytcjfalmhohcifaa", sum := "9c30e1621625b98c875e2047cdf87a16b4f4a0d7bd3886efb37607fb50251cfb", func := "loop.example/g00599/laws.FnExactCutClouds", spec := "fnExactCutClouds", unfollowed := true, recurses := true, apart := false, narrowed := true }
def FnExactCutCloudsUptoSaid : Prop := fnExactCutCloudsUptoRow.holds Try.pinned (OpenSpec.upto fnExactCutCloudsSpec)

/-- 'laws.FnExactLostTicks', WHERE WHAT IT READS IS OF BULK AT MOST 1048576: true; the input reads as it did. -/
def fnExactLostTicksUptoRow : OpenClaim := { program := "ytcjfalmhohcifaa", sum := "9c30e1621625b98c875e2047cdf87a16b4f4a0d7bd3886efb37607fb50251cfb", func := "loop.example/g00599/laws.FnExactLostTicks", spec := "fnExactLostTicks", unfollowed := true, recurses := true, apart := false, narrowed := true }
def FnExactLostTicksUptoSaid : Prop := fnExactLostTicksUptoRow.holds Try.pinned (OpenSpec.upto fnExactLostTicksSpec)

/-- 'laws.FnExactSureNeighbors', WHERE WHAT IT READS IS OF BULK AT MOST 1048576: true; the input reads as it did. -/
def fnExactSureNeighborsUptoRow : OpenClaim := { program := "ytcjfalmhohcifaa", sum := "9c30e1621625b98c875e2047cdf87a16b4f4a0d7bd3886efb37607fb50251cfb", func := "loop.example/g00599/laws.FnExactSureNeighbors", spec := "fnExactSureNeighbors", apart := false, narrowed := true }
def FnExactSureNeighborsUptoSaid : Prop := fnExactSureNeighborsUptoRow.holds Try.pinned (OpenSpec.upto fnExactSureNeighborsSpec)

/-- 'laws.FnExactSureShare', WHERE WHAT IT READS IS OF BULK AT MOST 1048576: true; the input reads as it did. -/
def fnExactSureShareUptoRow : OpenClaim := { program := "ytcjfalmhohcifaa", sum := "9c30e1621625b98c875e2047cdf87a16b4f4a0d7bd3886efb37607fb50251cfb", func := "loop.example/g00599/laws.FnExactSureShare", spec := "fnExactSureShare", unfollowed := true, recurses := true, apart := false, narrowed := true }
def FnExactSureShareUptoSaid : Prop := fnExactSureShareUptoRow.holds Try.pinned (OpenSpec.upto fnExactSureShareSpec)

/-- 'laws.FnExactSureWindows', WHERE WHAT IT READS IS OF BULK AT MOST 1048576: true; the input reads as it did. -/
def fnExactSureWindowsUptoRow : OpenClaim := { program := "ytcjfalmhohcifaa", sum := "9c30e1621625b98c875e2047cdf87a16b4f4a0d7bd3886efb37607fb50251cfb", func := "loop.example/g00599/laws.FnExactSureWindows", spec := "fnExactSureWindows", unfollowed := true, recurses := true, apart := false, narrowed := true }
def FnExactSureWindowsUptoSaid : Prop := fnExactSureWindowsUptoRow.holds Try.pinned (OpenSpec.upto fnExactSureWindowsSpec)

end Rows
end Go.Proofs.Ytcjfalmhohcifaa
