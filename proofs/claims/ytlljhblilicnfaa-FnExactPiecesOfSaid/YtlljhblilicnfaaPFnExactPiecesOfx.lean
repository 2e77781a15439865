-- PRINTED BY print.sh 35421559b90ae4d0a3588c463048766b98c2df88dd9212a6774a882060cdf62d: not written by this session
import Derived.Test.YtlljhblilicnfaaPFnExactPiecesOfx0
import Derived.Test.YtlljhblilicnfaaPFnExactPiecesOfx1
import Derived.Test.YtlljhblilicnfaaPFnExactPiecesOfx2
import Derived.Test.YtlljhblilicnfaaPFnExactPiecesOfx3
import Derived.Test.YtlljhblilicnfaaPFnExactPiecesOfx4
import Derived.Test.YtlljhblilicnfaaPFnExactPiecesOfx5
import Derived.Test.YtlljhblilicnfaaPFnExactPiecesOfx6
import Derived.Test.YtlljhblilicnfaaPFnExactPiecesOfx7
namespace Go.Proofs.Ytlljhblilicnfaa.PFnExactPiecesOf
open Go.RowKit Go.Proofs.YtlljhblilicnfaaW.PrintWords Go.Proofs.YtlljhblilicnfaaW.PrintLast Go.Proofs.YtlljhblilicnfaaW.PrintMore
attribute [local go_sem] max2_int min2_int max_two min_two max_three min_three max_four min_four   -- for this text's walks alone
set_option linter.unusedVariables false
set_option linter.unusedSimpArgs false

end Go.Proofs.Ytlljhblilicnfaa.PFnExactPiecesOf
