/- Words of the kit's printer, cut down by a program of this session to what this claim's terms use. -/
import Derived.Test.YtopbkdcicidajaaWWords
import Derived.Laws.StructEq
namespace Go.Proofs.YtopbkdcicidajaaW.PrintWords
open Go.RowKit
section
variable {P : Program} {d : Nat} {xs ys : Array Value} {f : Field} {fs : List Field} {a b : Value} {r s : Bool} {w : World}
end
end Go.Proofs.YtopbkdcicidajaaW.PrintWords
