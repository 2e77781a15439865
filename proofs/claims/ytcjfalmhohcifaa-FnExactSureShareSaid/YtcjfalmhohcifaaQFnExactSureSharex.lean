-- Written by a program of this session for this claim (the kit's printer with changes).
import Derived.Test.YtcjfalmhohcifaaQFnExactSureSharex0
import Derived.Test.YtcjfalmhohcifaaQFnExactSureSharex1
import Derived.Test.YtcjfalmhohcifaaQFnExactSureSharex2
import Derived.Test.YtcjfalmhohcifaaQFnExactSureSharex3
import Derived.Test.YtcjfalmhohcifaaQFnExactSureSharex4
import Derived.Test.YtcjfalmhohcifaaQFnExactSureSharex5
import Derived.Test.YtcjfalmhohcifaaQFnExactSureSharex6
import Derived.Test.YtcjfalmhohcifaaQFnExactSureSharex7
import Derived.Test.YtcjfalmhohcifaaQFnExactSureSharex8
import Derived.Test.YtcjfalmhohcifaaQFnExactSureSharex9
namespace Go.Proofs.Ytcjfalmhohcifaa.PFnExactSureShare
open Go.RowKit Go.Proofs.YtcjfalmhohcifaaW.PrintWords Go.Proofs.YtcjfalmhohcifaaW.PrintLast Go.Proofs.YtcjfalmhohcifaaW.PrintMore
attribute [local go_sem] max2_int min2_int max_two min_two max_three min_three max_four min_four   -- for this text's walks alone
set_option linter.unusedVariables false
set_option linter.unusedSimpArgs false

end Go.Proofs.Ytcjfalmhohcifaa.PFnExactSureShare
