-- Written by a program of this session for this claim (the kit's printer with changes).
import Derived.Test.YtflngcegkhgocaaQFnExactIsSurex0
import Derived.Test.YtflngcegkhgocaaQFnExactIsSurex1
import Derived.Test.YtflngcegkhgocaaQFnExactIsSurex2
import Derived.Test.YtflngcegkhgocaaQFnExactIsSurex3
import Derived.Test.YtflngcegkhgocaaQFnExactIsSurex4
import Derived.Test.YtflngcegkhgocaaQFnExactIsSurex5
import Derived.Test.YtflngcegkhgocaaQFnExactIsSurex6
import Derived.Test.YtflngcegkhgocaaQFnExactIsSurex7
import Derived.Test.YtflngcegkhgocaaQFnExactIsSurex8
import Derived.Test.YtflngcegkhgocaaQFnExactIsSurex9
namespace Go.Proofs.Ytflngcegkhgocaa.PFnExactIsSure
open Go.RowKit Go.Proofs.YtflngcegkhgocaaW.PrintWords Go.Proofs.YtflngcegkhgocaaW.PrintLast Go.Proofs.YtflngcegkhgocaaW.PrintMore
attribute [local go_sem] max2_int min2_int max_two min_two max_three min_three max_four min_four   -- for this text's walks alone
set_option linter.unusedVariables false
set_option linter.unusedSimpArgs false

end Go.Proofs.Ytflngcegkhgocaa.PFnExactIsSure
