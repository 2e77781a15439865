-- Written by a program of this session for this claim (the kit's printer with changes).
import Derived.Test.YtlljhblilicnfaaQFnExactTableOfx0
import Derived.Test.YtlljhblilicnfaaQFnExactTableOfx1
import Derived.Test.YtlljhblilicnfaaQFnExactTableOfx2
import Derived.Test.YtlljhblilicnfaaQFnExactTableOfx3
import Derived.Test.YtlljhblilicnfaaQFnExactTableOfx4
import Derived.Test.YtlljhblilicnfaaQFnExactTableOfx5
namespace Go.Proofs.Ytlljhblilicnfaa.PFnExactTableOf
open Go.RowKit Go.Proofs.YtlljhblilicnfaaW.PrintWords Go.Proofs.YtlljhblilicnfaaW.PrintLast Go.Proofs.YtlljhblilicnfaaW.PrintMore
attribute [local go_sem] max2_int min2_int max_two min_two max_three min_three max_four min_four   -- for this text's walks alone
set_option linter.unusedVariables false
set_option linter.unusedSimpArgs false

end Go.Proofs.Ytlljhblilicnfaa.PFnExactTableOf
