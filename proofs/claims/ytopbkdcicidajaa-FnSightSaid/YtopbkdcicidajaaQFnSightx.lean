-- Written by a program of this session for this claim (the kit's printer with changes).
import Derived.Test.YtopbkdcicidajaaQFnSightx0
import Derived.Test.YtopbkdcicidajaaQFnSightx1
import Derived.Test.YtopbkdcicidajaaQFnSightx2
import Derived.Test.YtopbkdcicidajaaQFnSightx3
import Derived.Test.YtopbkdcicidajaaQFnSightx4
import Derived.Test.YtopbkdcicidajaaQFnSightx5
import Derived.Test.YtopbkdcicidajaaQFnSightx6
import Derived.Test.YtopbkdcicidajaaQFnSightx7
import Derived.Test.YtopbkdcicidajaaQFnSightx8
namespace Go.Proofs.Ytopbkdcicidajaa.PFnSight
open Go.RowKit Go.Proofs.YtopbkdcicidajaaW.PrintWords Go.Proofs.YtopbkdcicidajaaW.PrintLast Go.Proofs.YtopbkdcicidajaaW.PrintMore
attribute [local go_sem] max2_int min2_int max_two min_two max_three min_three max_four min_four   -- for this text's walks alone
set_option linter.unusedVariables false
set_option linter.unusedSimpArgs false

end Go.Proofs.Ytopbkdcicidajaa.PFnSight
