-- Written by a program of this session for this claim (the kit's printer with changes).
import Derived.Test.YtcjfalmhohcifaaQFnExactSureWindowsx0
import Derived.Test.YtcjfalmhohcifaaQFnExactSureWindowsx1
import Derived.Test.YtcjfalmhohcifaaQFnExactSureWindowsx2
import Derived.Test.YtcjfalmhohcifaaQFnExactSureWindowsx3
import Derived.Test.YtcjfalmhohcifaaQFnExactSureWindowsx4
import Derived.Test.YtcjfalmhohcifaaQFnExactSureWindowsx5
import Derived.Test.YtcjfalmhohcifaaQFnExactSureWindowsx6
import Derived.Test.YtcjfalmhohcifaaQFnExactSureWindowsx7
import Derived.Test.YtcjfalmhohcifaaQFnExactSureWindowsx8
import Derived.Test.YtcjfalmhohcifaaQFnExactSureWindowsx9
namespace Go.Proofs.Ytcjfalmhohcifaa.PFnExactSureWindows
open Go.RowKit Go.Proofs.YtcjfalmhohcifaaW.PrintWords Go.Proofs.YtcjfalmhohcifaaW.PrintLast Go.Proofs.YtcjfalmhohcifaaW.PrintMore
attribute [local go_sem] max2_int min2_int max_two min_two max_three min_three max_four min_four   -- for this text's walks alone
set_option linter.unusedVariables false
set_option linter.unusedSimpArgs false

end Go.Proofs.Ytcjfalmhohcifaa.PFnExactSureWindows
