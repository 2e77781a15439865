-- Written by a program of this session for this claim (the kit's printer with changes).
import Derived.Test.YtikklalaggkdoaaQFnExactLitSpansx0
import Derived.Test.YtikklalaggkdoaaQFnExactLitSpansx1
import Derived.Test.YtikklalaggkdoaaQFnExactLitSpansx2
import Derived.Test.YtikklalaggkdoaaQFnExactLitSpansx3
import Derived.Test.YtikklalaggkdoaaQFnExactLitSpansx4
import Derived.Test.YtikklalaggkdoaaQFnExactLitSpansx5
import Derived.Test.YtikklalaggkdoaaQFnExactLitSpansx6
import Derived.Test.YtikklalaggkdoaaQFnExactLitSpansx7
namespace Go.Proofs.Ytikklalaggkdoaa.PFnExactLitSpans
open Go.RowKit Go.Proofs.YtikklalaggkdoaaW.PrintWords Go.Proofs.YtikklalaggkdoaaW.PrintLast Go.Proofs.YtikklalaggkdoaaW.PrintMore
attribute [local go_sem] max2_int min2_int max_two min_two max_three min_three max_four min_four   -- for this text's walks alone
set_option linter.unusedVariables false
set_option linter.unusedSimpArgs false

end Go.Proofs.Ytikklalaggkdoaa.PFnExactLitSpans
