-- Written by a program of this session for this claim (the kit's printer with changes).
import Derived.Test.YtcmjdiceljbboaaQFnExactIsDownhillx0
import Derived.Test.YtcmjdiceljbboaaQFnExactIsDownhillx1
import Derived.Test.YtcmjdiceljbboaaQFnExactIsDownhillx2
import Derived.Test.YtcmjdiceljbboaaQFnExactIsDownhillx3
namespace Go.Proofs.Ytcmjdiceljbboaa.PFnExactIsDownhill
open Go.RowKit Go.Proofs.YtcmjdiceljbboaaW.PrintWords Go.Proofs.YtcmjdiceljbboaaW.PrintLast Go.Proofs.YtcmjdiceljbboaaW.PrintMore
attribute [local go_sem] max2_int min2_int max_two min_two max_three min_three max_four min_four   -- for this text's walks alone
set_option linter.unusedVariables false
set_option linter.unusedSimpArgs false

end Go.Proofs.Ytcmjdiceljbboaa.PFnExactIsDownhill
