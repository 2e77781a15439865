-- Written by a program of this session for this claim (the kit's printer with changes).
import Derived.Test.YtflngcegkhgocaaProg
import Derived.Below
import Derived.Deep.Draws
import Derived.Deep.AppendLies
import Derived.Maps.AppendAt
import Derived.OwnWalk
import Derived.Laws.BytesArg
import Derived.Laws.MakeOwn
import Derived.Laws.OwnMore
import Derived.Deep.OwnRows
import Derived.Tactics
import Derived.Lib.ConvBytes
import Derived.Laws.Slices
import Derived.WalkKit
import Derived.KernelRfl
import Derived.RowKit3
import Derived.Deep.LoopGhost
import Derived.Deep.QuietTactic
import Derived.BigQuiet
import Derived.WideLaws
import Derived.Deep.DeepCutAuto
import Derived.Deep.CutBlock
import Derived.Deep.RegionHeld3
import Derived.Laws.Rows
import Derived.Lib.AppendStr
import Derived.ArgAppend
import Derived.Laws.IdiomCopy
import Derived.OrdersHeld
import Derived.Laws.BitsLemmas
import Derived.RowKit
import Derived.Test.YtflngcegkhgocaaWWords
import Derived.Test.YtflngcegkhgocaaWLast
import Derived.Test.YtflngcegkhgocaaWTab
import Derived.Test.YtflngcegkhgocaaWFour
import Derived.Test.YtflngcegkhgocaaWQPut
import Derived.Test.YtflngcegkhgocaaWApart
import Derived.Test.YtflngcegkhgocaaWArr
import Derived.Test.YtflngcegkhgocaaWZeros
import Derived.Test.YtflngcegkhgocaaWFoot
import Derived.Test.YtflngcegkhgocaaWKept
import Derived.Test.YtflngcegkhgocaaWShare
import Derived.Test.YtflngcegkhgocaaWN
import Derived.Test.YtflngcegkhgocaaWFootNe
import Derived.Test.YtflngcegkhgocaaWAt
import Derived.Test.YtflngcegkhgocaaWEqStruct
import Derived.Test.YtflngcegkhgocaaWRepsOne
import Derived.Test.YtflngcegkhgocaaWInv
import Derived.Test.YtflngcegkhgocaaWInvWords
import Derived.Test.YtflngcegkhgocaaWGuard
import Derived.Test.YtflngcegkhgocaaWNEv
import Derived.Test.YtflngcegkhgocaaWMore
namespace Go.Proofs.Ytflngcegkhgocaa.PFnExactRouteOf
open Go.RowKit Go.Proofs.YtflngcegkhgocaaW.PrintWords Go.Proofs.YtflngcegkhgocaaW.PrintLast Go.Proofs.YtflngcegkhgocaaW.PrintMore
attribute [local go_sem] max2_int min2_int max_two min_two max_three min_three max_four min_four   -- for this text's walks alone
set_option linter.unusedVariables false
set_option linter.unusedSimpArgs false



def errW : Option Int → Value
  | none => .nilIface
  | some c => .iface 0 (.int .i64 c)
theorem errW_none : errW none = .nilIface := rfl
theorem errW_some (c : Int) : errW (some c) = .iface 0 (.int .i64 c) := rfl

theorem info3 : (Try.prog.info? 3).map (fun i => (i.zero, i.size, i.bytes)) = some (some (.int .i64 0), 1, 8) := by kernel_rfl
-- the values' own types

end Go.Proofs.Ytflngcegkhgocaa.PFnExactRouteOf
