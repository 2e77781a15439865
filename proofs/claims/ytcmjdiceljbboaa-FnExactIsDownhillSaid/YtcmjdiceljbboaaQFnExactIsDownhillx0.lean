-- Written by a program of this session for this claim (the kit's printer with changes).
import Derived.Test.YtcmjdiceljbboaaProg
import Derived.Below
import Derived.Deep.Draws
import Derived.Deep.AppendLies
import Derived.Maps.AppendAt
import Derived.OwnWalk
import Derived.Laws.BytesArg
import Derived.Laws.MakeOwn
import Derived.Laws.OwnMore
import Derived.Deep.OwnRows
import Derived.Tactics
import Derived.Lib.ConvBytes
import Derived.Laws.Slices
import Derived.WalkKit
import Derived.KernelRfl
import Derived.RowKit3
import Derived.Deep.LoopGhost
import Derived.Deep.QuietTactic
import Derived.BigQuiet
import Derived.WideLaws
import Derived.Deep.DeepCutAuto
import Derived.Deep.CutBlock
import Derived.Deep.RegionHeld3
import Derived.Laws.Rows
import Derived.Lib.AppendStr
import Derived.ArgAppend
import Derived.Laws.IdiomCopy
import Derived.OrdersHeld
import Derived.Laws.BitsLemmas
import Derived.RowKit
import Derived.Test.YtcmjdiceljbboaaWWords
import Derived.Test.YtcmjdiceljbboaaWLast
import Derived.Test.YtcmjdiceljbboaaWTab
import Derived.Test.YtcmjdiceljbboaaWFour
import Derived.Test.YtcmjdiceljbboaaWQPut
import Derived.Test.YtcmjdiceljbboaaWApart
import Derived.Test.YtcmjdiceljbboaaWArr
import Derived.Test.YtcmjdiceljbboaaWZeros
import Derived.Test.YtcmjdiceljbboaaWFoot
import Derived.Test.YtcmjdiceljbboaaWKept
import Derived.Test.YtcmjdiceljbboaaWShare
import Derived.Test.YtcmjdiceljbboaaWN
import Derived.Test.YtcmjdiceljbboaaWFootNe
import Derived.Test.YtcmjdiceljbboaaWAt
import Derived.Test.YtcmjdiceljbboaaWEqStruct
import Derived.Test.YtcmjdiceljbboaaWRepsOne
import Derived.Test.YtcmjdiceljbboaaWInv
import Derived.Test.YtcmjdiceljbboaaWInvWords
import Derived.Test.YtcmjdiceljbboaaWGuard
import Derived.Test.YtcmjdiceljbboaaWNEv
import Derived.Test.YtcmjdiceljbboaaWMore
namespace Go.Proofs.Ytcmjdiceljbboaa.PFnExactIsDownhill
open Go.RowKit Go.Proofs.YtcmjdiceljbboaaW.PrintWords Go.Proofs.YtcmjdiceljbboaaW.PrintLast Go.Proofs.YtcmjdiceljbboaaW.PrintMore
attribute [local go_sem] max2_int min2_int max_two min_two max_three min_three max_four min_four   -- for this text's walks alone
set_option linter.unusedVariables false
set_option linter.unusedSimpArgs false



def errW : Option Int → Value
  | none => .nilIface
  | some c => .iface 0 (.int .i64 c)
theorem errW_none : errW none = .nilIface := rfl
theorem errW_some (c : Int) : errW (some c) = .iface 0 (.int .i64 c) := rfl

theorem info3 : (Try.prog.info? 3).map (fun i => (i.zero, i.size, i.bytes)) = some (some (.int .i64 0), 1, 8) := by kernel_rfl
-- the values' own types

end Go.Proofs.Ytcmjdiceljbboaa.PFnExactIsDownhill
