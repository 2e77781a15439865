-- Written by a program of this session for this claim (the kit's printer with changes).
import Derived.Test.YtlljhblilicnfaaQFnGraphsx0
import Derived.Test.YtlljhblilicnfaaQFnGraphsx1
import Derived.Test.YtlljhblilicnfaaQFnGraphsx2
import Derived.Test.YtlljhblilicnfaaQFnGraphsx3
import Derived.Test.YtlljhblilicnfaaQFnGraphsx4
namespace Go.Proofs.Ytlljhblilicnfaa.PFnGraphs
open Go.RowKit Go.Proofs.YtlljhblilicnfaaW.PrintWords Go.Proofs.YtlljhblilicnfaaW.PrintLast Go.Proofs.YtlljhblilicnfaaW.PrintMore
attribute [local go_sem] max2_int min2_int max_two min_two max_three min_three max_four min_four   -- for this text's walks alone
set_option linter.unusedVariables false
set_option linter.unusedSimpArgs false

end Go.Proofs.Ytlljhblilicnfaa.PFnGraphs
