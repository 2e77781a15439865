/-
  No cell of these rows narrows 'for every input' (looked for: loops, veiled, ifaces, maps, wideKeys, modest, calm, conditions, laid).
  DERIVED. THE GIVEN ROWS OF THIS SEAT. 5 by the template 'for every input the law returns true; each argument reads behind the call as it read before'; 0 by the template 'total and deterministic' (their statements: YtopbkdcicidajaaTotals.lean).
  GIVEN WITH THE SEED: the statements are not yours to turn. If you find one false, say at which input.
  Laid BY PROGRAM, IN A SANDBOX (cutbox-rows.mjs): the forced cells as the released guide's own fill.sh prints them over the translation b66f941445a42a4f… (all of the seat's roots in one cut). By AI agents, Wed Nov 11 2026. No macro, syntax, notation, axiom, sorry.
-/
import Derived.Test.YtopbkdcicidajaaChecked
import GoSem.Claim
import GoSem.ClaimJoined
import GoSem.ClaimMapViews
import Derived.JoinedTies
import Derived.KernelRfl
namespace Go.Proofs.Ytopbkdcicidajaa
/- THE CELL 'sum', in the pinned program and in every row, IS THE sha256 OF THE DUMP (.gsa) THAT YtopbkdcicidajaaProg.lean LOADS. Nothing in Lean hashes anything: it is a label: what it is worth is what the hold of that sum in a sandbox is worth. -/
noncomputable def Try.pinned : Pinned := { name := "ytopbkdcicidajaa", sum := "b66f941445a42a4f348c644e9940a66663758265b822be891c7d2419c5b881ae", checked := Try.checked }
namespace Rows
def none {H : Type} : Left H := { results := [], args := [] }

/-- 'laws.FnSight': WHATEVER THE INPUT: true; the input reads as it did. -/
def fnSightSpec : ChangeSpec := { name := "fnSight", fn := fun _ => fun
  | [d] => { results := [.lit (.bool true)], args := [d] }
  | _ => none }
def fnSightRow : OpenClaim := { program := "ytopbkdcicidajaa", sum := "b66f941445a42a4f348c644e9940a66663758265b822be891c7d2419c5b881ae", func := "loop.example/g00599/laws.FnSight", spec := "fnSight", unfollowed := true, recurses := true, apart := false }
def FnSightSaid : Prop := fnSightRow.holds Try.pinned (OpenSpec.ofChange fnSightSpec)

/-- ITS FALSE NEIGHBOUR: 'it returns false'. Refute it at one input. -/
def fnSightWrong : ChangeSpec := { name := "fnSight", fn := fun _ => fun
  | [d] => { results := [.lit (.bool false)], args := [d] }
  | _ => none }
def FnSightWrongFalsely : Prop := fnSightRow.holds Try.pinned (OpenSpec.ofChange fnSightWrong)

/-- 'laws.FnShadows': WHATEVER THE INPUT: true; the input reads as it did. -/
def fnShadowsSpec : ChangeSpec := { name := "fnShadows", fn := fun _ => fun
  | [d] => { results := [.lit (.bool true)], args := [d] }
  | _ => none }
def fnShadowsRow : OpenClaim := { program := "ytopbkdcicidajaa", sum := "b66f941445a42a4f348c644e9940a66663758265b822be891c7d2419c5b881ae", func := "loop.example/g00599/laws.FnShadows", spec := "fnShadows", unfollowed := true, recurses := true, apart := false }
def FnShadowsSaid : Prop := fnShadowsRow.holds Try.pinned (OpenSpec.ofChange fnShadowsSpec)

/-- ITS FALSE NEIGHBOUR: 'it returns false'. Refute it at one input. -/
def fnShadowsWrong : ChangeSpec := { name := "fnShadows", fn := fun _ => fun
  | [d] => { results := [.lit (.bool false)], args := [d] }
  | _ => none }
def FnShadowsWrongFalsely : Prop := fnShadowsRow.holds Try.pinned (OpenSpec.ofChange fnShadowsWrong)

/-- 'laws.FnSilence': WHATEVER THE INPUT: true; the input reads as it did. -/
def fnSilenceSpec : ChangeSpec := { name := "fnSilence", fn := fun _ => fun
  | [d] => { results := [.lit (.bool true)], args := [d] }
  | _ => none }
def fnSilenceRow : OpenClaim := { program := "ytopbkdcicidajaa", sum := "b66f941445a42a4f348c644e9940a66663758265b822be891c7d2419c5b881ae", func := "loop.example/g00599/laws.FnSilence", spec := "fnSilence", unfollowed := true, recurses := true, apart := false }
def FnSilenceSaid : Prop := fnSilenceRow.holds Try.pinned (OpenSpec.ofChange fnSilenceSpec)

/-- ITS FALSE NEIGHBOUR: 'it returns false'. Refute it at one input. -/
def fnSilenceWrong : ChangeSpec := { name := "fnSilence", fn := fun _ => fun
  | [d] => { results := [.lit (.bool false)], args := [d] }
  | _ => none }
def FnSilenceWrongFalsely : Prop := fnSilenceRow.holds Try.pinned (OpenSpec.ofChange fnSilenceWrong)

/-- 'laws.FnContacts': WHATEVER THE INPUT: true; the input reads as it did. -/
def fnContactsSpec : ChangeSpec := { name := "fnContacts", fn := fun _ => fun
  | [d] => { results := [.lit (.bool true)], args := [d] }
  | _ => none }
def fnContactsRow : OpenClaim := { program := "ytopbkdcicidajaa", sum := "b66f941445a42a4f348c644e9940a66663758265b822be891c7d2419c5b881ae", func := "loop.example/g00599/laws.FnContacts", spec := "fnContacts", unfollowed := true, recurses := true, apart := false }
def FnContactsSaid : Prop := fnContactsRow.holds Try.pinned (OpenSpec.ofChange fnContactsSpec)

/-- ITS FALSE NEIGHBOUR: 'it returns false'. Refute it at one input. -/
def fnContactsWrong : ChangeSpec := { name := "fnContacts", fn := fun _ => fun
  | [d] => { results := [.lit (.bool false)], args := [d] }
  | _ => none }
def FnContactsWrongFalsely : Prop := fnContactsRow.holds Try.pinned (OpenSpec.ofChange fnContactsWrong)

/-- 'laws.FnWeather': WHATEVER THE INPUT: true; the input reads as it did. -/
def fnWeatherSpec : ChangeSpec := { name := "fnWeather", fn := fun _ => fun
  | [d] => { results := [.lit (.bool true)], args := [d] }
  | _ => none }
def fnWeatherRow : OpenClaim := { program := "ytopbkdcicidajaa", sum := "b66f941445a42a4f348c644e9940a66663758265b822be891c7d2419c5b881ae", func := "loop.example/g00599/laws.FnWeather", spec := "fnWeather", unfollowed := true, recurses := true, apart := false }
def FnWeatherSaid : Prop := fnWeatherRow.holds Try.pinned (OpenSpec.ofChange fnWeatherSpec)

/-- ITS FALSE NEIGHBOUR: 'it returns false'. Refute it at one input. -/
def fnWeatherWrong : ChangeSpec := { name := "fnWeather", fn := fun _ => fun
  | [d] => { results := [.lit (.bool false)], args := [d] }
  | _ => none }
def FnWeatherWrongFalsely : Prop := fnWeatherRow.holds Try.pinned (OpenSpec.ofChange fnWeatherWrong)

/- THE SECOND FORM. 'bulk': how many values and letters a reading holds, each counted each time it is reached (what is shared counts as often as it is met; a slice's spare places count too). A statement '..UptoSaid' is the law's where the arguments, and the package variables that the reading takes, are together of bulk at most 1048576: NARROWER than '..Said'. Prove '..Said' where nothing that the law and all that it calls make is longer than what came in: it says more and counts as full. Else prove '..UptoSaid'. A law counts once. -/
mutual
def uptoBulk {H : Type} : DataW H → Nat
  | .lit (.string bytes) => bytes.length + 1
  | .lit _ => 1
  | .nil => 1
  | .ptr d => uptoBulk d + 1
  | .slice elems spare => uptoBulkAll elems + uptoBulkAll spare + 1
  | .agg parts => uptoBulkAll parts + 1
  | .iface _ d => uptoBulk d + 1
  | .map entries => uptoBulkEntries entries + 1
  | .held _ => 1
def uptoBulkAll {H : Type} : List (DataW H) → Nat
  | [] => 0
  | d :: r => uptoBulk d + uptoBulkAll r
def uptoBulkEntries {H : Type} : List (Lit × DataW H) → Nat
  | [] => 0
  | x :: r => uptoBulkEntry x + uptoBulkEntries r
def uptoBulkEntry {H : Type} : Lit × DataW H → Nat
  | (.string bytes, d) => bytes.length + uptoBulk d + 1
  | (_, d) => uptoBulk d + 1
 end
def uptoSmall : (H : Type) → List (DataW H) → Bool := fun _ ds => decide (uptoBulkAll ds ≤ 1048576)
def OpenSpec.upto (s : _root_.Go.ChangeSpec) : _root_.Go.OpenSpec := { _root_.Go.OpenSpec.ofChange s with cond := some uptoSmall }

/-- 'laws.FnSight', WHERE WHAT IT READS IS OF BULK AT MOST 1048576: true; the input reads as it did. -/
def fnSightUptoRow : OpenClaim := { program := "ytopbkdcicidajaa", sum := "b66f941445a42a4f348c644e9940a66663758265b822be891c7d2419c5b881ae", func := "loop.example/g00599/laws.FnSight", spec := "fnSight", unfollowed := true, recurses := true, apart := false, narrowed := true }
def FnSightUptoSaid : Prop := fnSightUptoRow.holds Try.pinned (OpenSpec.upto fnSightSpec)

/-- 'laws.FnShadows', WHERE WHAT IT READS IS OF BULK AT MOST 1048576: true; the input reads as it did. -/
def fnShadowsUptoRow : OpenClaim := { program := "ytopbkdcicidajaa", sum := "b66f941445a42a4f348c644e9940a66663758265b822be891c7d2419c5b881ae", func := "loop.example/g00599/laws.FnShadows", spec := "fnShadows", unfollowed := true, recurses := true, apart := false, narrowed := true }
def FnShadowsUptoSaid : Prop := fnShadowsUptoRow.holds Try.pinned (OpenSpec.upto fnShadowsSpec)

/-- 'laws.FnSilence', WHERE WHAT IT READS IS OF BULK AT MOST 1048576: true; the input reads as it did. -/
def fnSilenceUptoRow : OpenClaim := { program := "ytopbkdcicidajaa", sum := "b66f941445a42a4f348c644e9940a66663758265b822be891c7d2419c5b881ae", func := "loop.example/g00599/laws.FnSilence", spec := "fnSilence", unfollowed := true, recurses := true, apart := false, narrowed := true }
def FnSilenceUptoSaid : Prop := fnSilenceUptoRow.holds Try.pinned (OpenSpec.upto fnSilenceSpec)

/-- 'laws.FnContacts', WHERE WHAT IT READS IS OF BULK AT MOST 1048576: true; the input reads as it did. -/
def fnContactsUptoRow : OpenClaim := { program := "ytopbkdcicidajaa", sum := "b66f941445a42a4f348c644e9940a66663758265b822be891c7d2419c5b881ae", func := "loop.example/g00599/laws.FnContacts", spec := "fnContacts", unfollowed := true, recurses := true, apart := false, narrowed := true }
def FnContactsUptoSaid : Prop := fnContactsUptoRow.holds Try.pinned (OpenSpec.upto fnContactsSpec)

/-- 'laws.FnWeather', WHERE WHAT IT READS IS OF BULK AT MOST 1048576: true; the input reads as it did. -/
def fnWeatherUptoRow : OpenClaim := { program := "ytopbkdcicidajaa", sum := "b66f941445a42a4f348c644e9940a66663758265b822be891c7d2419c5b881ae", func := "loop.example/g00599/laws.FnWeather", spec := "fnWeather", unfollowed := true, recurses := true, apart := false, narrowed := true }
def FnWeatherUptoSaid : Prop := fnWeatherUptoRow.holds Try.pinned (OpenSpec.upto fnWeatherSpec)

end Rows
end Go.Proofs.Ytopbkdcicidajaa
