/- Words of the kit's printer, cut down by a program of this session to what this claim's terms use. -/
import Derived.Test.YtpjhdehbikohmaaGreatWInv
import Derived.Test.YtpjhdehbikohmaaGreatWFootNe
namespace Go.Proofs.YtpjhdehbikohmaaGreatW.PrintWords
open Go.RowKit
end Go.Proofs.YtpjhdehbikohmaaGreatW.PrintWords
namespace Go.Proofs.YtpjhdehbikohmaaGreatW.PrintLast
section
variable {ops : Array Oper} {a : Act} {o og : Oper} {g : Nat} {t : Tmp} {u : Bool}
end
end Go.Proofs.YtpjhdehbikohmaaGreatW.PrintLast
