-- Written by a program of this session for this claim (the kit's printer with changes).
import Derived.Test.YtopbkdcicidajaaQFnContactsx0
import Derived.Test.YtopbkdcicidajaaQFnContactsx1
import Derived.Test.YtopbkdcicidajaaQFnContactsx2
import Derived.Test.YtopbkdcicidajaaQFnContactsx3
import Derived.Test.YtopbkdcicidajaaQFnContactsx4
import Derived.Test.YtopbkdcicidajaaQFnContactsx5
import Derived.Test.YtopbkdcicidajaaQFnContactsx6
import Derived.Test.YtopbkdcicidajaaQFnContactsx7
import Derived.Test.YtopbkdcicidajaaQFnContactsx8
import Derived.Test.YtopbkdcicidajaaQFnContactsx9
import Derived.Test.YtopbkdcicidajaaQFnContactsx10
import Derived.Test.YtopbkdcicidajaaQFnContactsx11
import Derived.Test.YtopbkdcicidajaaQFnContactsx12
import Derived.Test.YtopbkdcicidajaaQFnContactsx13
import Derived.Test.YtopbkdcicidajaaQFnContactsx14
namespace Go.Proofs.Ytopbkdcicidajaa.PFnContacts
open Go.RowKit Go.Proofs.YtopbkdcicidajaaW.PrintWords Go.Proofs.YtopbkdcicidajaaW.PrintLast Go.Proofs.YtopbkdcicidajaaW.PrintMore
attribute [local go_sem] max2_int min2_int max_two min_two max_three min_three max_four min_four   -- for this text's walks alone
set_option linter.unusedVariables false
set_option linter.unusedSimpArgs false

end Go.Proofs.Ytopbkdcicidajaa.PFnContacts
