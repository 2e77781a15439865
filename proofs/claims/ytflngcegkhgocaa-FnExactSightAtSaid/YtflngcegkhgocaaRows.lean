/-
  No cell of these rows narrows 'for every input' (looked for: loops, veiled, ifaces, maps, wideKeys, modest, calm, conditions, laid).
  DERIVED. THE GIVEN ROWS OF THIS SEAT. 12 by the template 'for every input the law returns true; each argument reads behind the call as it read before'; 0 by the template 'total and deterministic' (their statements: YtflngcegkhgocaaTotals.lean).
  GIVEN WITH THE SEED: the statements are not yours to turn. If you find one false, say at which input.
  Laid BY PROGRAM, IN A SANDBOX (cutbox-rows.mjs): the forced cells as the released guide's own fill.sh prints them over the translation cd1753b27fb7e04c… (all of the seat's roots in one cut). By AI agents, Wed Nov 11 2026. No macro, syntax, notation, axiom, sorry.
-/
import Derived.Test.YtflngcegkhgocaaChecked
import GoSem.Claim
import GoSem.ClaimJoined
import GoSem.ClaimMapViews
import Derived.JoinedTies
import Derived.KernelRfl
namespace Go.Proofs.Ytflngcegkhgocaa
/- THE CELL 'sum', in the pinned program and in every row, IS THE sha256 OF THE DUMP (.gsa) THAT YtflngcegkhgocaaProg.lean LOADS. Nothing in Lean hashes anything: it is a label: what it is worth is what the hold of that sum in a sandbox is worth. -/
noncomputable def Try.pinned : Pinned := { name := "ytflngcegkhgocaa", sum := "cd1753b27fb7e04c73afab9bf516d47d4ec7ea75ffbd54abc0d57a99b49cddc0", checked := Try.checked }
namespace Rows
def none {H : Type} : Left H := { results := [], args := [] }

/-- 'laws.FnExactRouteOf': WHATEVER THE INPUT: true; the input reads as it did. -/
def fnExactRouteOfSpec : ChangeSpec := { name := "fnExactRouteOf", fn := fun _ => fun
  | [d1, d2] => { results := [.lit (.bool true)], args := [d1, d2] }
  | _ => none }
def fnExactRouteOfRow : OpenClaim := { program := "ytflngcegkhgocaa", sum := "cd1753b27fb7e04c73afab9bf516d47d4ec7ea75ffbd54abc0d57a99b49cddc0", func := "loop.example/g00599/laws.FnExactRouteOf", spec := "fnExactRouteOf", apart := false }
def FnExactRouteOfSaid : Prop := fnExactRouteOfRow.holds Try.pinned (OpenSpec.ofChange fnExactRouteOfSpec)

/-- ITS FALSE NEIGHBOUR: 'it returns false'. Refute it at one input. -/
def fnExactRouteOfWrong : ChangeSpec := { name := "fnExactRouteOf", fn := fun _ => fun
  | [d1, d2] => { results := [.lit (.bool false)], args := [d1, d2] }
  | _ => none }
def FnExactRouteOfWrongFalsely : Prop := fnExactRouteOfRow.holds Try.pinned (OpenSpec.ofChange fnExactRouteOfWrong)

/-- 'laws.FnExactPlaneOf': WHATEVER THE INPUT: true; the input reads as it did. -/
def fnExactPlaneOfSpec : ChangeSpec := { name := "fnExactPlaneOf", fn := fun _ => fun
  | [d1, d2] => { results := [.lit (.bool true)], args := [d1, d2] }
  | _ => none }
def fnExactPlaneOfRow : OpenClaim := { program := "ytflngcegkhgocaa", sum := "cd1753b27fb7e04c73afab9bf516d47d4ec7ea75ffbd54abc0d57a99b49cddc0", func := "loop.example/g00599/laws.FnExactPlaneOf", spec := "fnExactPlaneOf", apart := false }
def FnExactPlaneOfSaid : Prop := fnExactPlaneOfRow.holds Try.pinned (OpenSpec.ofChange fnExactPlaneOfSpec)

/-- ITS FALSE NEIGHBOUR: 'it returns false'. Refute it at one input. -/
def fnExactPlaneOfWrong : ChangeSpec := { name := "fnExactPlaneOf", fn := fun _ => fun
  | [d1, d2] => { results := [.lit (.bool false)], args := [d1, d2] }
  | _ => none }
def FnExactPlaneOfWrongFalsely : Prop := fnExactPlaneOfRow.holds Try.pinned (OpenSpec.ofChange fnExactPlaneOfWrong)

/-- 'laws.FnExactSunAt': WHATEVER THE INPUT: true; the input reads as it did. -/
def fnExactSunAtSpec : ChangeSpec := { name := "fnExactSunAt", fn := fun _ => fun
  | [d1, d2] => { results := [.lit (.bool true)], args := [d1, d2] }
  | _ => none }
def fnExactSunAtRow : OpenClaim := { program := "ytflngcegkhgocaa", sum := "cd1753b27fb7e04c73afab9bf516d47d4ec7ea75ffbd54abc0d57a99b49cddc0", func := "loop.example/g00599/laws.FnExactSunAt", spec := "fnExactSunAt", apart := false }
def FnExactSunAtSaid : Prop := fnExactSunAtRow.holds Try.pinned (OpenSpec.ofChange fnExactSunAtSpec)

/-- ITS FALSE NEIGHBOUR: 'it returns false'. Refute it at one input. -/
def fnExactSunAtWrong : ChangeSpec := { name := "fnExactSunAt", fn := fun _ => fun
  | [d1, d2] => { results := [.lit (.bool false)], args := [d1, d2] }
  | _ => none }
def FnExactSunAtWrongFalsely : Prop := fnExactSunAtRow.holds Try.pinned (OpenSpec.ofChange fnExactSunAtWrong)

/-- 'laws.FnExactIsSky': WHATEVER THE INPUT: true; the input reads as it did. -/
def fnExactIsSkySpec : ChangeSpec := { name := "fnExactIsSky", fn := fun _ => fun
  | [d] => { results := [.lit (.bool true)], args := [d] }
  | _ => none }
def fnExactIsSkyRow : OpenClaim := { program := "ytflngcegkhgocaa", sum := "cd1753b27fb7e04c73afab9bf516d47d4ec7ea75ffbd54abc0d57a99b49cddc0", func := "loop.example/g00599/laws.FnExactIsSky", spec := "fnExactIsSky", apart := false }
def FnExactIsSkySaid : Prop := fnExactIsSkyRow.holds Try.pinned (OpenSpec.ofChange fnExactIsSkySpec)

/-- ITS FALSE NEIGHBOUR: 'it returns false'. Refute it at one input. -/
def fnExactIsSkyWrong : ChangeSpec := { name := "fnExactIsSky", fn := fun _ => fun
  | [d] => { results := [.lit (.bool false)], args := [d] }
  | _ => none }
def FnExactIsSkyWrongFalsely : Prop := fnExactIsSkyRow.holds Try.pinned (OpenSpec.ofChange fnExactIsSkyWrong)

/-- 'laws.FnExactLimitOf': WHATEVER THE INPUT: true; the input reads as it did. -/
def fnExactLimitOfSpec : ChangeSpec := { name := "fnExactLimitOf", fn := fun _ => fun
  | [d1, d2, d3] => { results := [.lit (.bool true)], args := [d1, d2, d3] }
  | _ => none }
def fnExactLimitOfRow : OpenClaim := { program := "ytflngcegkhgocaa", sum := "cd1753b27fb7e04c73afab9bf516d47d4ec7ea75ffbd54abc0d57a99b49cddc0", func := "loop.example/g00599/laws.FnExactLimitOf", spec := "fnExactLimitOf", apart := false }
def FnExactLimitOfSaid : Prop := fnExactLimitOfRow.holds Try.pinned (OpenSpec.ofChange fnExactLimitOfSpec)

/-- ITS FALSE NEIGHBOUR: 'it returns false'. Refute it at one input. -/
def fnExactLimitOfWrong : ChangeSpec := { name := "fnExactLimitOf", fn := fun _ => fun
  | [d1, d2, d3] => { results := [.lit (.bool false)], args := [d1, d2, d3] }
  | _ => none }
def FnExactLimitOfWrongFalsely : Prop := fnExactLimitOfRow.holds Try.pinned (OpenSpec.ofChange fnExactLimitOfWrong)

/-- 'laws.FnExactNodeAt': WHATEVER THE INPUT: true; the input reads as it did. -/
def fnExactNodeAtSpec : ChangeSpec := { name := "fnExactNodeAt", fn := fun _ => fun
  | [d1, d2, d3] => { results := [.lit (.bool true)], args := [d1, d2, d3] }
  | _ => none }
def fnExactNodeAtRow : OpenClaim := { program := "ytflngcegkhgocaa", sum := "cd1753b27fb7e04c73afab9bf516d47d4ec7ea75ffbd54abc0d57a99b49cddc0", func := "loop.example/g00599/laws.FnExactNodeAt", spec := "fnExactNodeAt", apart := false }
def FnExactNodeAtSaid : Prop := fnExactNodeAtRow.holds Try.pinned (OpenSpec.ofChange fnExactNodeAtSpec)

/-- ITS FALSE NEIGHBOUR: 'it returns false'. Refute it at one input. -/
def fnExactNodeAtWrong : ChangeSpec := { name := "fnExactNodeAt", fn := fun _ => fun
  | [d1, d2, d3] => { results := [.lit (.bool false)], args := [d1, d2, d3] }
  | _ => none }
def FnExactNodeAtWrongFalsely : Prop := fnExactNodeAtRow.holds Try.pinned (OpenSpec.ofChange fnExactNodeAtWrong)

/-- 'laws.FnExactMayDisturb': WHATEVER THE INPUT: true; the input reads as it did. -/
def fnExactMayDisturbSpec : ChangeSpec := { name := "fnExactMayDisturb", fn := fun _ => fun
  | [d1, d2, d3] => { results := [.lit (.bool true)], args := [d1, d2, d3] }
  | _ => none }
def fnExactMayDisturbRow : OpenClaim := { program := "ytflngcegkhgocaa", sum := "cd1753b27fb7e04c73afab9bf516d47d4ec7ea75ffbd54abc0d57a99b49cddc0", func := "loop.example/g00599/laws.FnExactMayDisturb", spec := "fnExactMayDisturb", apart := false }
def FnExactMayDisturbSaid : Prop := fnExactMayDisturbRow.holds Try.pinned (OpenSpec.ofChange fnExactMayDisturbSpec)

/-- ITS FALSE NEIGHBOUR: 'it returns false'. Refute it at one input. -/
def fnExactMayDisturbWrong : ChangeSpec := { name := "fnExactMayDisturb", fn := fun _ => fun
  | [d1, d2, d3] => { results := [.lit (.bool false)], args := [d1, d2, d3] }
  | _ => none }
def FnExactMayDisturbWrongFalsely : Prop := fnExactMayDisturbRow.holds Try.pinned (OpenSpec.ofChange fnExactMayDisturbWrong)

/-- 'laws.FnExactShadowAt': WHATEVER THE INPUT: true; the input reads as it did. -/
def fnExactShadowAtSpec : ChangeSpec := { name := "fnExactShadowAt", fn := fun _ => fun
  | [d1, d2, d3] => { results := [.lit (.bool true)], args := [d1, d2, d3] }
  | _ => none }
def fnExactShadowAtRow : OpenClaim := { program := "ytflngcegkhgocaa", sum := "cd1753b27fb7e04c73afab9bf516d47d4ec7ea75ffbd54abc0d57a99b49cddc0", func := "loop.example/g00599/laws.FnExactShadowAt", spec := "fnExactShadowAt", apart := false }
def FnExactShadowAtSaid : Prop := fnExactShadowAtRow.holds Try.pinned (OpenSpec.ofChange fnExactShadowAtSpec)

/-- ITS FALSE NEIGHBOUR: 'it returns false'. Refute it at one input. -/
def fnExactShadowAtWrong : ChangeSpec := { name := "fnExactShadowAt", fn := fun _ => fun
  | [d1, d2, d3] => { results := [.lit (.bool false)], args := [d1, d2, d3] }
  | _ => none }
def FnExactShadowAtWrongFalsely : Prop := fnExactShadowAtRow.holds Try.pinned (OpenSpec.ofChange fnExactShadowAtWrong)

/-- 'laws.FnExactIsQuietSky': WHATEVER THE INPUT: true; the input reads as it did. -/
def fnExactIsQuietSkySpec : ChangeSpec := { name := "fnExactIsQuietSky", fn := fun _ => fun
  | [d1, d2] => { results := [.lit (.bool true)], args := [d1, d2] }
  | _ => none }
def fnExactIsQuietSkyRow : OpenClaim := { program := "ytflngcegkhgocaa", sum := "cd1753b27fb7e04c73afab9bf516d47d4ec7ea75ffbd54abc0d57a99b49cddc0", func := "loop.example/g00599/laws.FnExactIsQuietSky", spec := "fnExactIsQuietSky", apart := false }
def FnExactIsQuietSkySaid : Prop := fnExactIsQuietSkyRow.holds Try.pinned (OpenSpec.ofChange fnExactIsQuietSkySpec)

/-- ITS FALSE NEIGHBOUR: 'it returns false'. Refute it at one input. -/
def fnExactIsQuietSkyWrong : ChangeSpec := { name := "fnExactIsQuietSky", fn := fun _ => fun
  | [d1, d2] => { results := [.lit (.bool false)], args := [d1, d2] }
  | _ => none }
def FnExactIsQuietSkyWrongFalsely : Prop := fnExactIsQuietSkyRow.holds Try.pinned (OpenSpec.ofChange fnExactIsQuietSkyWrong)

/-- 'laws.FnExactSightAt': WHATEVER THE INPUT: true; the input reads as it did. -/
def fnExactSightAtSpec : ChangeSpec := { name := "fnExactSightAt", fn := fun _ => fun
  | [d1, d2, d3, d4] => { results := [.lit (.bool true)], args := [d1, d2, d3, d4] }
  | _ => none }
def fnExactSightAtRow : OpenClaim := { program := "ytflngcegkhgocaa", sum := "cd1753b27fb7e04c73afab9bf516d47d4ec7ea75ffbd54abc0d57a99b49cddc0", func := "loop.example/g00599/laws.FnExactSightAt", spec := "fnExactSightAt", apart := false }
def FnExactSightAtSaid : Prop := fnExactSightAtRow.holds Try.pinned (OpenSpec.ofChange fnExactSightAtSpec)

/-- ITS FALSE NEIGHBOUR: 'it returns false'. Refute it at one input. -/
def fnExactSightAtWrong : ChangeSpec := { name := "fnExactSightAt", fn := fun _ => fun
  | [d1, d2, d3, d4] => { results := [.lit (.bool false)], args := [d1, d2, d3, d4] }
  | _ => none }
def FnExactSightAtWrongFalsely : Prop := fnExactSightAtRow.holds Try.pinned (OpenSpec.ofChange fnExactSightAtWrong)

/-- 'laws.FnExactIsSure': WHATEVER THE INPUT: true; the input reads as it did. -/
def fnExactIsSureSpec : ChangeSpec := { name := "fnExactIsSure", fn := fun _ => fun
  | [d1, d2, d3, d4] => { results := [.lit (.bool true)], args := [d1, d2, d3, d4] }
  | _ => none }
def fnExactIsSureRow : OpenClaim := { program := "ytflngcegkhgocaa", sum := "cd1753b27fb7e04c73afab9bf516d47d4ec7ea75ffbd54abc0d57a99b49cddc0", func := "loop.example/g00599/laws.FnExactIsSure", spec := "fnExactIsSure", apart := false }
def FnExactIsSureSaid : Prop := fnExactIsSureRow.holds Try.pinned (OpenSpec.ofChange fnExactIsSureSpec)

/-- ITS FALSE NEIGHBOUR: 'it returns false'. Refute it at one input. -/
def fnExactIsSureWrong : ChangeSpec := { name := "fnExactIsSure", fn := fun _ => fun
  | [d1, d2, d3, d4] => { results := [.lit (.bool false)], args := [d1, d2, d3, d4] }
  | _ => none }
def FnExactIsSureWrongFalsely : Prop := fnExactIsSureRow.holds Try.pinned (OpenSpec.ofChange fnExactIsSureWrong)

/-- 'laws.FnExactSureNeighbors': WHATEVER THE INPUT: true; the input reads as it did. -/
def fnExactSureNeighborsSpec : ChangeSpec := { name := "fnExactSureNeighbors", fn := fun _ => fun
  | [d1, d2, d3] => { results := [.lit (.bool true)], args := [d1, d2, d3] }
  | _ => none }
def fnExactSureNeighborsRow : OpenClaim := { program := "ytflngcegkhgocaa", sum := "cd1753b27fb7e04c73afab9bf516d47d4ec7ea75ffbd54abc0d57a99b49cddc0", func := "loop.example/g00599/laws.FnExactSureNeighbors", spec := "fnExactSureNeighbors", apart := false }
def FnExactSureNeighborsSaid : Prop := fnExactSureNeighborsRow.holds Try.pinned (OpenSpec.ofChange fnExactSureNeighborsSpec)

/-- ITS FALSE NEIGHBOUR: 'it returns false'. Refute it at one input. -/
def fnExactSureNeighborsWrong : ChangeSpec := { name := "fnExactSureNeighbors", fn := fun _ => fun
  | [d1, d2, d3] => { results := [.lit (.bool false)], args := [d1, d2, d3] }
  | _ => none }
def FnExactSureNeighborsWrongFalsely : Prop := fnExactSureNeighborsRow.holds Try.pinned (OpenSpec.ofChange fnExactSureNeighborsWrong)

/- THE SECOND FORM. 'bulk': how many values and letters a reading holds, each counted each time it is reached (what is shared counts as often as it is met; a slice's spare places count too). A statement '..UptoSaid' is the law's where the arguments, and the package variables that the reading takes, are together of bulk at most 1048576: NARROWER than '..Said'. Prove '..Said' where nothing that the law and all that it calls make is longer than what came in: it says more and counts as full. Else prove '..UptoSaid'. A law counts once. -/
mutual
def uptoBulk {H : Type} : DataW H → Nat
  | .lit (.string bytes) => bytes.length + 1
  | .lit _ => 1
  | .nil => 1
  | .ptr d => uptoBulk d + 1
  | .slice elems spare => uptoBulkAll elems + uptoBulkAll spare + 1
  | .agg parts => uptoBulkAll parts + 1
  | .iface _ d => uptoBulk d + 1
  | .map entries => uptoBulkEntries entries + 1
  | .held _ => 1
def uptoBulkAll {H : Type} : List (DataW H) → Nat
  | [] => 0
  | d :: r => uptoBulk d + uptoBulkAll r
def uptoBulkEntries {H : Type} : List (Lit × DataW H) → Nat
  | [] => 0
  | x :: r => uptoBulkEntry x + uptoBulkEntries r
def uptoBulkEntry {H : Type} : Lit × DataW H → Nat
  | (.string bytes, d) => bytes.length + uptoBulk d + 1
  | (_, d) => uptoBulk d + 1
 end
def uptoSmall : (H : Type) → List (DataW H) → Bool := fun _ ds => decide (uptoBulkAll ds ≤ 1048576)
def OpenSpec.upto (s : _root_.Go.ChangeSpec) : _root_.Go.OpenSpec := { _root_.Go.OpenSpec.ofChange s with cond := some uptoSmall }

/-- 'laws.FnExactRouteOf', WHERE WHAT IT READS IS OF BULK AT MOST 1048576: true; the input reads as it did. -/
def fnExactRouteOfUptoRow : OpenClaim := { program := "ytflngcegkhgocaa", sum := "cd1753b27fb7e04c73afab9bf516d47d4ec7ea75ffbd54abc0d57a99b49cddc0", func := "loop.example/g00599/laws.FnExactRouteOf", spec := "fnExactRouteOf", apart := false, narrowed := true }
def FnExactRouteOfUptoSaid : Prop := fnExactRouteOfUptoRow.holds Try.pinned (OpenSpec.upto fnExactRouteOfSpec)

/-- 'laws.FnExactPlaneOf', WHERE WHAT IT READS IS OF BULK AT MOST 1048576: true; the input reads as it did. -/
def fnExactPlaneOfUptoRow : OpenClaim := { program := "ytflngcegkhgocaa", sum := "cd1753b27fb7e04c73afab9bf516d47d4ec7ea75ffbd54abc0d57a99b49cddc0", func := "loop.example/g00599/laws.FnExactPlaneOf", spec := "fnExactPlaneOf", apart := false, narrowed := true }
def FnExactPlaneOfUptoSaid : Prop := fnExactPlaneOfUptoRow.holds Try.pinned (OpenSpec.upto fnExactPlaneOfSpec)

/-- 'laws.FnExactSunAt', WHERE WHAT IT READS IS OF BULK AT MOST 1048576: true; the input reads as it did. -/
def fnExactSunAtUptoRow : OpenClaim := { program := "ytflngcegkhgocaa", sum := "cd1753b27fb7e04c73afab9bf516d47d4ec7ea75ffbd54abc0d57a99b49cddc0", func := "loop.example/g00599/laws.FnExactSunAt", spec := "fnExactSunAt", apart := false, narrowed := true }
def FnExactSunAtUptoSaid : Prop := fnExactSunAtUptoRow.holds Try.pinned (OpenSpec.upto fnExactSunAtSpec)

/-- 'laws.FnExactIsSky', WHERE WHAT IT READS IS OF BULK AT MOST 1048576: true; the input reads as it did. -/
def fnExactIsSkyUptoRow : OpenClaim := { program := "ytflngcegkhgocaa", sum := "cd1753b27fb7e04c73afab9bf516d47d4ec7ea75ffbd54abc0d57a99b49cddc0", func := "loop.example/g00599/laws.FnExactIsSky", spec := "fnExactIsSky", apart := false, narrowed := true }
def FnExactIsSkyUptoSaid : Prop := fnExactIsSkyUptoRow.holds Try.pinned (OpenSpec.upto fnExactIsSkySpec)

/-- 'laws.FnExactLimitOf', WHERE WHAT IT READS IS OF BULK AT MOST 1048576: true; the input reads as it did. -/
def fnExactLimitOfUptoRow : OpenClaim := { program := "ytflngcegkhgocaa", sum := "cd1753b27fb7e04c73afab9bf516d47d4ec7ea75ffbd54abc0d57a99b49cddc0", func := "loop.example/g00599/laws.FnExactLimitOf", spec := "fnExactLimitOf", apart := false, narrowed := true }
def FnExactLimitOfUptoSaid : Prop := fnExactLimitOfUptoRow.holds Try.pinned (OpenSpec.upto fnExactLimitOfSpec)

/-- 'laws.FnExactNodeAt', WHERE WHAT IT READS IS OF BULK AT MOST 1048576: true; the input reads as it did. -/
def fnExactNodeAtUptoRow : OpenClaim := { program := "ytflngcegkhgocaa", sum := "cd1753b27fb7e04c73afab9bf516d47d4ec7ea75ffbd54abc0d57a99b49cddc0", func := "loop.example/g00599/laws.FnExactNodeAt", spec := "fnExactNodeAt", apart := false, narrowed := true }
def FnExactNodeAtUptoSaid : Prop := fnExactNodeAtUptoRow.holds Try.pinned (OpenSpec.upto fnExactNodeAtSpec)

/-- 'laws.FnExactMayDisturb', WHERE WHAT IT READS IS OF BULK AT MOST 1048576: true; the input reads as it did. -/
def fnExactMayDisturbUptoRow : OpenClaim := { program := "ytflngcegkhgocaa", sum := "cd1753b27fb7e04c73afab9bf516d47d4ec7ea75ffbd54abc0d57a99b49cddc0", func := "loop.example/g00599/laws.FnExactMayDisturb", spec := "fnExactMayDisturb", apart := false, narrowed := true }
def FnExactMayDisturbUptoSaid : Prop := fnExactMayDisturbUptoRow.holds Try.pinned (OpenSpec.upto fnExactMayDisturbSpec)

/-- 'laws.FnExactShadowAt', WHERE WHAT IT READS IS OF BULK AT MOST 1048576: true; the input reads as it did. -/
def fnExactShadowAtUptoRow : OpenClaim := { program := "ytflngcegkhgocaa", sum := "cd1753b27fb7e04c73afab9bf516d47d4ec7ea75ffbd54abc0d57a99b49cddc0", func := "loop.example/g00599/laws.FnExactShadowAt", spec := "fnExactShadowAt", apart := false, narrowed := true }
def FnExactShadowAtUptoSaid : Prop := fnExactShadowAtUptoRow.holds Try.pinned (OpenSpec.upto fnExactShadowAtSpec)

/-- 'laws.FnExactIsQuietSky', WHERE WHAT IT READS IS OF BULK AT MOST 1048576: true; the input reads as it did. -/
def fnExactIsQuietSkyUptoRow : OpenClaim := { program := "ytflngcegkhgocaa", sum := "cd1753b27fb7e04c73afab9bf516d47d4ec7ea75ffbd54abc0d57a99b49cddc0", func := "loop.example/g00599/laws.FnExactIsQuietSky", spec := "fnExactIsQuietSky", apart := false, narrowed := true }
def FnExactIsQuietSkyUptoSaid : Prop := fnExactIsQuietSkyUptoRow.holds Try.pinned (OpenSpec.upto fnExactIsQuietSkySpec)

/-- 'laws.FnExactSightAt', WHERE WHAT IT READS IS OF BULK AT MOST 1048576: true; the input reads as it did. -/
def fnExactSightAtUptoRow : OpenClaim := { program := "ytflngcegkhgocaa", sum := "cd1753b27fb7e04c73afab9bf516d47d4ec7ea75ffbd54abc0d57a99b49cddc0", func := "loop.example/g00599/laws.FnExactSightAt", spec := "fnExactSightAt", apart := false, narrowed := true }
def FnExactSightAtUptoSaid : Prop := fnExactSightAtUptoRow.holds Try.pinned (OpenSpec.upto fnExactSightAtSpec)

/-- 'laws.FnExactIsSure', WHERE WHAT IT READS IS OF BULK AT MOST 1048576: true; the input reads as it did. -/
def fnExactIsSureUptoRow : OpenClaim := { program := "ytflngcegkhgocaa", sum := "cd1753b27fb7e04c73afab9bf516d47d4ec7ea75ffbd54abc0d57a99b49cddc0", func := "loop.example/g00599/laws.FnExactIsSure", spec := "fnExactIsSure", apart := false, narrowed := true }
def FnExactIsSureUptoSaid : Prop := fnExactIsSureUptoRow.holds Try.pinned (OpenSpec.upto fnExactIsSureSpec)

/-- 'laws.FnExactSureNeighbors', WHERE WHAT IT READS IS OF BULK AT MOST 1048576: true; the input reads as it did. -/
def fnExactSureNeighborsUptoRow : OpenClaim := { program := "ytflngcegkhgocaa", sum := "cd1753b27fb7e04c73afab9bf516d47d4ec7ea75ffbd54abc0d57a99b49cddc0", func := "loop.example/g00599/laws.FnExactSureNeighbors", spec := "fnExactSureNeighbors", apart := false, narrowed := true }
def FnExactSureNeighborsUptoSaid : Prop := fnExactSureNeighborsUptoRow.holds Try.pinned (OpenSpec.upto fnExactSureNeighborsSpec)

end Rows
end Go.Proofs.Ytflngcegkhgocaa
