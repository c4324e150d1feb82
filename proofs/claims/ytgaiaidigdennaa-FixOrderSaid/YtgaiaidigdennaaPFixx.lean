-- printed by wip/tools/xp.py of this project (not trusted: Lean checks it)
import Derived.Test.YtgaiaidigdennaaPFixx0
import Derived.Test.YtgaiaidigdennaaPFixx1
import Derived.Test.YtgaiaidigdennaaPFixx2
import Derived.Test.YtgaiaidigdennaaPFixx3
import Derived.Test.YtgaiaidigdennaaPFixx4
import Derived.Test.YtgaiaidigdennaaPFixx5
import Derived.Test.YtgaiaidigdennaaPFixx6
import Derived.Test.YtgaiaidigdennaaPFixx7
import Derived.Test.YtgaiaidigdennaaPFixx8
namespace Go.Proofs.Ytgaiaidigdennaa.PFix
open Go.RowKit Go.Proofs.YtgaiaidigdennaaW.PrintWords Go.Proofs.YtgaiaidigdennaaW.PrintLast Go.Proofs.YtgaiaidigdennaaW.PrintMore
attribute [local go_sem] max2_int min2_int max_two min_two max_three min_three max_four min_four   -- for this text's walks alone
set_option linter.unusedVariables false
set_option linter.unusedSimpArgs false

end Go.Proofs.Ytgaiaidigdennaa.PFix
