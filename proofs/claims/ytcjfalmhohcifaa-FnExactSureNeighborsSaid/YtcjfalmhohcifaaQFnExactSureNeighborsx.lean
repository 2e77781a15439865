-- Written by a program of this session for this claim (the kit's printer with changes).
import Derived.Test.YtcjfalmhohcifaaQFnExactSureNeighborsx0
import Derived.Test.YtcjfalmhohcifaaQFnExactSureNeighborsx1
import Derived.Test.YtcjfalmhohcifaaQFnExactSureNeighborsx2
import Derived.Test.YtcjfalmhohcifaaQFnExactSureNeighborsx3
import Derived.Test.YtcjfalmhohcifaaQFnExactSureNeighborsx4
import Derived.Test.YtcjfalmhohcifaaQFnExactSureNeighborsx5
import Derived.Test.YtcjfalmhohcifaaQFnExactSureNeighborsx6
import Derived.Test.YtcjfalmhohcifaaQFnExactSureNeighborsx7
import Derived.Test.YtcjfalmhohcifaaQFnExactSureNeighborsx8
import Derived.Test.YtcjfalmhohcifaaQFnExactSureNeighborsx9
namespace Go.Proofs.Ytcjfalmhohcifaa.PFnExactSureNeighbors
open Go.RowKit Go.Proofs.YtcjfalmhohcifaaW.PrintWords Go.Proofs.YtcjfalmhohcifaaW.PrintLast Go.Proofs.YtcjfalmhohcifaaW.PrintMore
attribute [local go_sem] max2_int min2_int max_two min_two max_three min_three max_four min_four   -- for this text's walks alone
set_option linter.unusedVariables false
set_option linter.unusedSimpArgs false

end Go.Proofs.Ytcjfalmhohcifaa.PFnExactSureNeighbors
