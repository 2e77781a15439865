-- Written by a program of this session for this claim (the kit's printer with changes).
import Derived.Test.YtcjfalmhohcifaaQFnExactLostTicksx0
import Derived.Test.YtcjfalmhohcifaaQFnExactLostTicksx1
import Derived.Test.YtcjfalmhohcifaaQFnExactLostTicksx2
import Derived.Test.YtcjfalmhohcifaaQFnExactLostTicksx3
import Derived.Test.YtcjfalmhohcifaaQFnExactLostTicksx4
import Derived.Test.YtcjfalmhohcifaaQFnExactLostTicksx5
namespace Go.Proofs.Ytcjfalmhohcifaa.PFnExactLostTicks
open Go.RowKit Go.Proofs.YtcjfalmhohcifaaW.PrintWords Go.Proofs.YtcjfalmhohcifaaW.PrintLast Go.Proofs.YtcjfalmhohcifaaW.PrintMore
attribute [local go_sem] max2_int min2_int max_two min_two max_three min_three max_four min_four   -- for this text's walks alone
set_option linter.unusedVariables false
set_option linter.unusedSimpArgs false

end Go.Proofs.Ytcjfalmhohcifaa.PFnExactLostTicks
