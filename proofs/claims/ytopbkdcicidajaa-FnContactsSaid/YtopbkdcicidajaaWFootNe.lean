/- Words of the kit's printer, cut down by a program of this session to what this claim's terms use. -/
import Derived.Test.YtopbkdcicidajaaWN
namespace Go.Proofs.YtopbkdcicidajaaW.PrintWords
open Go.RowKit
namespace Kd
section
variable {α : Type} {d : Kd α} {W : World} {g n : Nat} {S ok : Nat → Prop} {A : Option Addr} {ad : Addr} {xs : List α}
end
end Kd
end Go.Proofs.YtopbkdcicidajaaW.PrintWords
