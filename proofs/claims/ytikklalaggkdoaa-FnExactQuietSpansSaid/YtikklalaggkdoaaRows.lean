/-
  No cell of these rows narrows 'for every input' (looked for: loops, veiled, ifaces, maps, wideKeys, modest, calm, conditions, laid).
  DERIVED. THE GIVEN ROWS OF THIS SEAT. 6 by the template 'for every input the law returns true; each argument reads behind the call as it read before'; 0 by the template 'total and deterministic' (their statements: YtikklalaggkdoaaTotals.lean).
  GIVEN WITH THE SEED: the statements are not yours to turn. If you find one false, say at which input.
  Laid BY PROGRAM, IN A SANDBOX (cutbox-rows.mjs): the forced cells as the released guide's own fill.sh prints them over the translation 7ba6bebdeeff2761… (all of the seat's roots in one cut). By AI agents, Wed Nov 11 2026. No macro, syntax, notation, axiom, sorry.
-/
import Derived.Test.YtikklalaggkdoaaChecked
import GoSem.Claim
import GoSem.ClaimJoined
import GoSem.ClaimMapViews
import Derived.JoinedTies
import Derived.KernelRfl
namespace Go.Proofs.Ytikklalaggkdoaa
/- THE CELL 'sum', in the pinned program and in every row, IS THE sha256 OF THE DUMP (.gsa) THAT YtikklalaggkdoaaProg.lean LOADS. Nothing in Lean hashes anything: it is a label: what it is worth is what the hold of that sum in a sandbox is worth. -/
noncomputable def Try.pinned : Pinned := { name := "ytikklalaggkdoaa", sum := "7ba6bebdeeff2761b6fb44b691d0a5bfb74aa17495bc34ffb11db5311192441c", checked := Try.checked }
namespace Rows
def none {H : Type} : Left H := { results := [], args := [] }

/-- 'laws.FnExactLongestDark': WHATEVER THE INPUT: true; the input reads as it did. -/
def fnExactLongestDarkSpec : ChangeSpec := { name := "fnExactLongestDark", fn := fun _ => fun
  | [d1, d2, d3, d4] => { results := [.lit (.bool true)], args := [d1, d2, d3, d4] }
  | _ => none }
def fnExactLongestDarkRow : OpenClaim := { program := "ytikklalaggkdoaa", sum := "7ba6bebdeeff2761b6fb44b691d0a5bfb74aa17495bc34ffb11db5311192441c", func := "loop.example/g00599/laws.FnExactLongestDark", spec := "fnExactLongestDark", unfollowed := true, recurses := true, apart := false }
def FnExactLongestDarkSaid : Prop := fnExactLongestDarkRow.holds Try.pinned (OpenSpec.ofChange fnExactLongestDarkSpec)

/-- ITS FALSE NEIGHBOUR: 'it returns false'. Refute it at one input. -/
def fnExactLongestDarkWrong : ChangeSpec := { name := "fnExactLongestDark", fn := fun _ => fun
  | [d1, d2, d3, d4] => { results := [.lit (.bool false)], args := [d1, d2, d3, d4] }
  | _ => none }
def FnExactLongestDarkWrongFalsely : Prop := fnExactLongestDarkRow.holds Try.pinned (OpenSpec.ofChange fnExactLongestDarkWrong)

/-- 'laws.FnExactQuietSpans': WHATEVER THE INPUT: true; the input reads as it did. -/
def fnExactQuietSpansSpec : ChangeSpec := { name := "fnExactQuietSpans", fn := fun _ => fun
  | [d1, d2, d3, d4] => { results := [.lit (.bool true)], args := [d1, d2, d3, d4] }
  | _ => none }
def fnExactQuietSpansRow : OpenClaim := { program := "ytikklalaggkdoaa", sum := "7ba6bebdeeff2761b6fb44b691d0a5bfb74aa17495bc34ffb11db5311192441c", func := "loop.example/g00599/laws.FnExactQuietSpans", spec := "fnExactQuietSpans", unfollowed := true, recurses := true, apart := false }
def FnExactQuietSpansSaid : Prop := fnExactQuietSpansRow.holds Try.pinned (OpenSpec.ofChange fnExactQuietSpansSpec)

/-- ITS FALSE NEIGHBOUR: 'it returns false'. Refute it at one input. -/
def fnExactQuietSpansWrong : ChangeSpec := { name := "fnExactQuietSpans", fn := fun _ => fun
  | [d1, d2, d3, d4] => { results := [.lit (.bool false)], args := [d1, d2, d3, d4] }
  | _ => none }
def FnExactQuietSpansWrongFalsely : Prop := fnExactQuietSpansRow.holds Try.pinned (OpenSpec.ofChange fnExactQuietSpansWrong)

/-- 'laws.FnExactDarkSpans': WHATEVER THE INPUT: true; the input reads as it did. -/
def fnExactDarkSpansSpec : ChangeSpec := { name := "fnExactDarkSpans", fn := fun _ => fun
  | [d1, d2, d3, d4] => { results := [.lit (.bool true)], args := [d1, d2, d3, d4] }
  | _ => none }
def fnExactDarkSpansRow : OpenClaim := { program := "ytikklalaggkdoaa", sum := "7ba6bebdeeff2761b6fb44b691d0a5bfb74aa17495bc34ffb11db5311192441c", func := "loop.example/g00599/laws.FnExactDarkSpans", spec := "fnExactDarkSpans", unfollowed := true, recurses := true, apart := false }
def FnExactDarkSpansSaid : Prop := fnExactDarkSpansRow.holds Try.pinned (OpenSpec.ofChange fnExactDarkSpansSpec)

/-- ITS FALSE NEIGHBOUR: 'it returns false'. Refute it at one input. -/
def fnExactDarkSpansWrong : ChangeSpec := { name := "fnExactDarkSpans", fn := fun _ => fun
  | [d1, d2, d3, d4] => { results := [.lit (.bool false)], args := [d1, d2, d3, d4] }
  | _ => none }
def FnExactDarkSpansWrongFalsely : Prop := fnExactDarkSpansRow.holds Try.pinned (OpenSpec.ofChange fnExactDarkSpansWrong)

/-- 'laws.FnExactLitSpans': WHATEVER THE INPUT: true; the input reads as it did. -/
def fnExactLitSpansSpec : ChangeSpec := { name := "fnExactLitSpans", fn := fun _ => fun
  | [d1, d2, d3, d4] => { results := [.lit (.bool true)], args := [d1, d2, d3, d4] }
  | _ => none }
def fnExactLitSpansRow : OpenClaim := { program := "ytikklalaggkdoaa", sum := "7ba6bebdeeff2761b6fb44b691d0a5bfb74aa17495bc34ffb11db5311192441c", func := "loop.example/g00599/laws.FnExactLitSpans", spec := "fnExactLitSpans", unfollowed := true, recurses := true, apart := false }
def FnExactLitSpansSaid : Prop := fnExactLitSpansRow.holds Try.pinned (OpenSpec.ofChange fnExactLitSpansSpec)

/-- ITS FALSE NEIGHBOUR: 'it returns false'. Refute it at one input. -/
def fnExactLitSpansWrong : ChangeSpec := { name := "fnExactLitSpans", fn := fun _ => fun
  | [d1, d2, d3, d4] => { results := [.lit (.bool false)], args := [d1, d2, d3, d4] }
  | _ => none }
def FnExactLitSpansWrongFalsely : Prop := fnExactLitSpansRow.holds Try.pinned (OpenSpec.ofChange fnExactLitSpansWrong)

/-- 'laws.FnExactSureShare': WHATEVER THE INPUT: true; the input reads as it did. -/
def fnExactSureShareSpec : ChangeSpec := { name := "fnExactSureShare", fn := fun _ => fun
  | [d1, d2, d3, d4, d5] => { results := [.lit (.bool true)], args := [d1, d2, d3, d4, d5] }
  | _ => none }
def fnExactSureShareRow : OpenClaim := { program := "ytikklalaggkdoaa", sum := "7ba6bebdeeff2761b6fb44b691d0a5bfb74aa17495bc34ffb11db5311192441c", func := "loop.example/g00599/laws.FnExactSureShare", spec := "fnExactSureShare", unfollowed := true, recurses := true, apart := false }
def FnExactSureShareSaid : Prop := fnExactSureShareRow.holds Try.pinned (OpenSpec.ofChange fnExactSureShareSpec)

/-- ITS FALSE NEIGHBOUR: 'it returns false'. Refute it at one input. -/
def fnExactSureShareWrong : ChangeSpec := { name := "fnExactSureShare", fn := fun _ => fun
  | [d1, d2, d3, d4, d5] => { results := [.lit (.bool false)], args := [d1, d2, d3, d4, d5] }
  | _ => none }
def FnExactSureShareWrongFalsely : Prop := fnExactSureShareRow.holds Try.pinned (OpenSpec.ofChange fnExactSureShareWrong)

/-- 'laws.FnExactSureWindows': WHATEVER THE INPUT: true; the input reads as it did. -/
def fnExactSureWindowsSpec : ChangeSpec := { name := "fnExactSureWindows", fn := fun _ => fun
  | [d1, d2, d3, d4, d5] => { results := [.lit (.bool true)], args := [d1, d2, d3, d4, d5] }
  | _ => none }
def fnExactSureWindowsRow : OpenClaim := { program := "ytikklalaggkdoaa", sum := "7ba6bebdeeff2761b6fb44b691d0a5bfb74aa17495bc34ffb11db5311192441c", func := "loop.example/g00599/laws.FnExactSureWindows", spec := "fnExactSureWindows", unfollowed := true, recurses := true, apart := false }
def FnExactSureWindowsSaid : Prop := fnExactSureWindowsRow.holds Try.pinned (OpenSpec.ofChange fnExactSureWindowsSpec)

/-- ITS FALSE NEIGHBOUR: 'it returns false'. Refute it at one input. -/
def fnExactSureWindowsWrong : ChangeSpec := { name := "fnExactSureWindows", fn := fun _ => fun
  | [d1, d2, d3, d4, d5] => { results := [.lit (.bool false)], args := [d1, d2, d3, d4, d5] }
  | _ => none }
def FnExactSureWindowsWrongFalsely : Prop := fnExactSureWindowsRow.holds Try.pinned (OpenSpec.ofChange fnExactSureWindowsWrong)

/- THE SECOND FORM. 'bulk': how many values and letters a reading holds, each counted each time it is reached (what is shared counts as often as it is met; a slice's spare places count too). A statement '..UptoSaid' is the law's where the arguments, and the package variables that the reading takes, are together of bulk at most 1048576: NARROWER than '..Said'. Prove '..Said' where nothing that the law and all that it calls make is longer than what came in: it says more and counts as full. Else prove '..UptoSaid'. A law counts once. -/
mutual
def uptoBulk {H : Type} : DataW H → Nat
  | .lit (.string bytes) => bytes.length + 1
  | .lit _ => 1
  | .nil => 1
  | .ptr d => uptoBulk d + 1
  | .slice elems spare => uptoBulkAll elems + uptoBulkAll spare + 1
  | .agg parts => uptoBulkAll parts + 1
  | .iface _ d => uptoBulk d + 1
  | .map entries => uptoBulkEntries entries + 1
  | .held _ => 1
def uptoBulkAll {H : Type} : List (DataW H) → Nat
  | [] => 0
  | d :: r => uptoBulk d + uptoBulkAll r
def uptoBulkEntries {H : Type} : List (Lit × DataW H) → Nat
  | [] => 0
  | x :: r => uptoBulkEntry x + uptoBulkEntries r
def uptoBulkEntry {H : Type} : Lit × DataW H → Nat
  | (.string bytes, d) => bytes.length + uptoBulk d + 1
  | (_, d) => uptoBulk d + 1
 end
def uptoSmall : (H : Type) → List (DataW H) → Bool := fun _ ds => decide (uptoBulkAll ds ≤ 1048576)
def OpenSpec.upto (s : _root_.Go.ChangeSpec) : _root_.Go.OpenSpec := { _root_.Go.OpenSpec.ofChange s with cond := some uptoSmall }

/-- 'laws.FnExactLongestDark', WHERE WHAT IT READS IS OF BULK AT MOST 1048576: true; the input reads as it did. -/
def fnExactLongestDarkUptoRow : OpenClaim := { program := "ytikklalaggkdoaa", sum := "7ba6bebdeeff2761b6fb44b691d0a5bfb74aa17495bc34ffb11db5311192441c", func := "loop.example/g00599/laws.FnExactLongestDark", spec := "fnExactLongestDark", unfollowed := true, recurses := true, apart := false, narrowed := true }
def FnExactLongestDarkUptoSaid : Prop := fnExactLongestDarkUptoRow.holds Try.pinned (OpenSpec.upto fnExactLongestDarkSpec)

/-- 'laws.FnExactQuietSpans', WHERE WHAT IT READS IS OF BULK AT MOST 1048576: true; the input reads as it did. -/
def fnExactQuietSpansUptoRow : OpenClaim := { program := "ytikklalaggkdoaa", sum := "7ba6bebdeeff2761b6fb44b691d0a5bfb74aa17495bc34ffb11db5311192441c", func := "loop.example/g00599/laws.FnExactQuietSpans", spec := "fnExactQuietSpans", unfollowed := true, recurses := true, apart := false, narrowed := true }
def FnExactQuietSpansUptoSaid : Prop := fnExactQuietSpansUptoRow.holds Try.pinned (OpenSpec.upto fnExactQuietSpansSpec)

/-- 'laws.FnExactDarkSpans', WHERE WHAT IT READS IS OF BULK AT MOST 1048576: true; the input reads as it did. -/
def fnExactDarkSpansUptoRow : OpenClaim := { program := "ytikklalaggkdoaa", sum := "7ba6bebdeeff2761b6fb44b691d0a5bfb74aa17495bc34ffb11db5311192441c", func := "loop.example/g00599/laws.FnExactDarkSpans", spec := "fnExactDarkSpans", unfollowed := true, recurses := true, apart := false, narrowed := true }
def FnExactDarkSpansUptoSaid : Prop := fnExactDarkSpansUptoRow.holds Try.pinned (OpenSpec.upto fnExactDarkSpansSpec)

/-- 'laws.FnExactLitSpans', WHERE WHAT IT READS IS OF BULK AT MOST 1048576: true; the input reads as it did. -/
def fnExactLitSpansUptoRow : OpenClaim := { program := "ytikklalaggkdoaa", sum := "7ba6bebdeeff2761b6fb44b691d0a5bfb74aa17495bc34ffb11db5311192441c", func := "loop.example/g00599/laws.FnExactLitSpans", spec := "fnExactLitSpans", unfollowed := true, recurses := true, apart := false, narrowed := true }
def FnExactLitSpansUptoSaid : Prop := fnExactLitSpansUptoRow.holds Try.pinned (OpenSpec.upto fnExactLitSpansSpec)

/-- 'laws.FnExactSureShare', WHERE WHAT IT READS IS OF BULK AT MOST 1048576: true; the input reads as it did. -/
def fnExactSureShareUptoRow : OpenClaim := { program := "ytikklalaggkdoaa", sum := "7ba6bebdeeff2761b6fb44b691d0a5bfb74aa17495bc34ffb11db5311192441c", func := "loop.example/g00599/laws.FnExactSureShare", spec := "fnExactSureShare", unfollowed := true, recurses := true, apart := false, narrowed := true }
def FnExactSureShareUptoSaid : Prop := fnExactSureShareUptoRow.holds Try.pinned (OpenSpec.upto fnExactSureShareSpec)

/-- 'laws.FnExactSureWindows', WHERE WHAT IT READS IS OF BULK AT MOST 1048576: true; the input reads as it did. -/
def fnExactSureWindowsUptoRow : OpenClaim := { program := "ytikklalaggkdoaa", sum := "7ba6bebdeeff2761b6fb44b691d0a5bfb74aa17495bc34ffb11db5311192441c", func := "loop.example/g00599/laws.FnExactSureWindows", spec := "fnExactSureWindows", unfollowed := true, recurses := true, apart := false, narrowed := true }
def FnExactSureWindowsUptoSaid : Prop := fnExactSureWindowsUptoRow.holds Try.pinned (OpenSpec.upto fnExactSureWindowsSpec)

end Rows
end Go.Proofs.Ytikklalaggkdoaa
