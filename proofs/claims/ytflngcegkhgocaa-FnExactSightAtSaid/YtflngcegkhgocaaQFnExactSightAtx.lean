-- Written by a program of this session for this claim (the kit's printer with changes).
import Derived.Test.YtflngcegkhgocaaQFnExactSightAtx0
import Derived.Test.YtflngcegkhgocaaQFnExactSightAtx1
import Derived.Test.YtflngcegkhgocaaQFnExactSightAtx2
import Derived.Test.YtflngcegkhgocaaQFnExactSightAtx3
import Derived.Test.YtflngcegkhgocaaQFnExactSightAtx4
import Derived.Test.YtflngcegkhgocaaQFnExactSightAtx5
import Derived.Test.YtflngcegkhgocaaQFnExactSightAtx6
import Derived.Test.YtflngcegkhgocaaQFnExactSightAtx7
import Derived.Test.YtflngcegkhgocaaQFnExactSightAtx8
namespace Go.Proofs.Ytflngcegkhgocaa.PFnExactSightAt
open Go.RowKit Go.Proofs.YtflngcegkhgocaaW.PrintWords Go.Proofs.YtflngcegkhgocaaW.PrintLast Go.Proofs.YtflngcegkhgocaaW.PrintMore
attribute [local go_sem] max2_int min2_int max_two min_two max_three min_three max_four min_four   -- for this text's walks alone
set_option linter.unusedVariables false
set_option linter.unusedSimpArgs false

end Go.Proofs.Ytflngcegkhgocaa.PFnExactSightAt
