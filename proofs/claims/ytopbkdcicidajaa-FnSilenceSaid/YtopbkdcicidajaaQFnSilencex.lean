-- Written by a program of this session for this claim (the kit's printer with changes).
import Derived.Test.YtopbkdcicidajaaQFnSilencex0
import Derived.Test.YtopbkdcicidajaaQFnSilencex1
import Derived.Test.YtopbkdcicidajaaQFnSilencex2
import Derived.Test.YtopbkdcicidajaaQFnSilencex3
import Derived.Test.YtopbkdcicidajaaQFnSilencex4
import Derived.Test.YtopbkdcicidajaaQFnSilencex5
import Derived.Test.YtopbkdcicidajaaQFnSilencex6
import Derived.Test.YtopbkdcicidajaaQFnSilencex7
import Derived.Test.YtopbkdcicidajaaQFnSilencex8
import Derived.Test.YtopbkdcicidajaaQFnSilencex9
import Derived.Test.YtopbkdcicidajaaQFnSilencex10
import Derived.Test.YtopbkdcicidajaaQFnSilencex11
import Derived.Test.YtopbkdcicidajaaQFnSilencex12
import Derived.Test.YtopbkdcicidajaaQFnSilencex13
import Derived.Test.YtopbkdcicidajaaQFnSilencex14
namespace Go.Proofs.Ytopbkdcicidajaa.PFnSilence
open Go.RowKit Go.Proofs.YtopbkdcicidajaaW.PrintWords Go.Proofs.YtopbkdcicidajaaW.PrintLast Go.Proofs.YtopbkdcicidajaaW.PrintMore
attribute [local go_sem] max2_int min2_int max_two min_two max_three min_three max_four min_four   -- for this text's walks alone
set_option linter.unusedVariables false
set_option linter.unusedSimpArgs false

end Go.Proofs.Ytopbkdcicidajaa.PFnSilence
