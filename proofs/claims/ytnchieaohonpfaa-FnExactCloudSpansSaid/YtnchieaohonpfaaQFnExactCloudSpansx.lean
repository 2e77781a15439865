-- Written by a program of this session for this claim (the kit's printer with changes).
import Derived.Test.YtnchieaohonpfaaQFnExactCloudSpansx0
import Derived.Test.YtnchieaohonpfaaQFnExactCloudSpansx1
import Derived.Test.YtnchieaohonpfaaQFnExactCloudSpansx2
import Derived.Test.YtnchieaohonpfaaQFnExactCloudSpansx3
namespace Go.Proofs.Ytnchieaohonpfaa.PFnExactCloudSpans
open Go.RowKit Go.Proofs.YtnchieaohonpfaaW.PrintWords Go.Proofs.YtnchieaohonpfaaW.PrintLast Go.Proofs.YtnchieaohonpfaaW.PrintMore
attribute [local go_sem] max2_int min2_int max_two min_two max_three min_three max_four min_four   -- for this text's walks alone
set_option linter.unusedVariables false
set_option linter.unusedSimpArgs false

end Go.Proofs.Ytnchieaohonpfaa.PFnExactCloudSpans
