/- Words of the kit's printer, cut down by a program of this session to what this claim's terms use. -/
import Derived.Test.YtopbkdcicidajaaWTab
namespace Go.Proofs.YtopbkdcicidajaaW.PrintLast
section
variable {P : Program} {ops : Array Oper} {Q : Exit → Act → World → Prop} {md : Region.Mode} {T : Bool × List (List Nat × List Nat)} {B : List Nat} {O : List Nat} {b : Nat → Bool} {i j n : Nat}
end
end Go.Proofs.YtopbkdcicidajaaW.PrintLast
