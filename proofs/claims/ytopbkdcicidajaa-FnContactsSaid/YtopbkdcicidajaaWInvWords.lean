/- Words of the kit's printer, cut down by a program of this session to what this claim's terms use. -/
import Derived.Test.YtopbkdcicidajaaWInv
import Derived.Test.YtopbkdcicidajaaWFootNe
namespace Go.Proofs.YtopbkdcicidajaaW.PrintWords
open Go.RowKit
end Go.Proofs.YtopbkdcicidajaaW.PrintWords
namespace Go.Proofs.YtopbkdcicidajaaW.PrintLast
section
variable {ops : Array Oper} {a : Act} {o og : Oper} {g : Nat} {t : Tmp} {u : Bool}
end
end Go.Proofs.YtopbkdcicidajaaW.PrintLast
