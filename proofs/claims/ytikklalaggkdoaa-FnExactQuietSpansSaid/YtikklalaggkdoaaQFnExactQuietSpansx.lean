-- Written by a program of this session for this claim (the kit's printer with changes).
import Derived.Test.YtikklalaggkdoaaQFnExactQuietSpansx0
import Derived.Test.YtikklalaggkdoaaQFnExactQuietSpansx1
import Derived.Test.YtikklalaggkdoaaQFnExactQuietSpansx2
import Derived.Test.YtikklalaggkdoaaQFnExactQuietSpansx3
import Derived.Test.YtikklalaggkdoaaQFnExactQuietSpansx4
import Derived.Test.YtikklalaggkdoaaQFnExactQuietSpansx5
import Derived.Test.YtikklalaggkdoaaQFnExactQuietSpansx6
import Derived.Test.YtikklalaggkdoaaQFnExactQuietSpansx7
namespace Go.Proofs.Ytikklalaggkdoaa.PFnExactQuietSpans
open Go.RowKit Go.Proofs.YtikklalaggkdoaaW.PrintWords Go.Proofs.YtikklalaggkdoaaW.PrintLast Go.Proofs.YtikklalaggkdoaaW.PrintMore
attribute [local go_sem] max2_int min2_int max_two min_two max_three min_three max_four min_four   -- for this text's walks alone
set_option linter.unusedVariables false
set_option linter.unusedSimpArgs false

end Go.Proofs.Ytikklalaggkdoaa.PFnExactQuietSpans
