-- printed by wip/tools/xp.py of this project (not trusted: Lean checks it)
import Derived.Test.YteaflkbepnfkdaaPSafex0
import Derived.Test.YteaflkbepnfkdaaPSafex1
import Derived.Test.YteaflkbepnfkdaaPSafex2
import Derived.Test.YteaflkbepnfkdaaPSafex3
import Derived.Test.YteaflkbepnfkdaaPSafex4
import Derived.Test.YteaflkbepnfkdaaPSafex5
namespace Go.Proofs.Yteaflkbepnfkdaa.PSafe
open Go.RowKit Go.Proofs.YteaflkbepnfkdaaW.PrintWords Go.Proofs.YteaflkbepnfkdaaW.PrintLast Go.Proofs.YteaflkbepnfkdaaW.PrintMore
attribute [local go_sem] max2_int min2_int max_two min_two max_three min_three max_four min_four   -- for this text's walks alone
set_option linter.unusedVariables false
set_option linter.unusedSimpArgs false

end Go.Proofs.Yteaflkbepnfkdaa.PSafe
