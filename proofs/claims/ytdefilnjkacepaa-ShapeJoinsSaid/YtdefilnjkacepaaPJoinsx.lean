-- printed by wip/tools/xp.py of this project (not trusted: Lean checks it)
import Derived.Test.YtdefilnjkacepaaPJoinsx0
import Derived.Test.YtdefilnjkacepaaPJoinsx1
import Derived.Test.YtdefilnjkacepaaPJoinsx2
import Derived.Test.YtdefilnjkacepaaPJoinsx3
import Derived.Test.YtdefilnjkacepaaPJoinsx4
import Derived.Test.YtdefilnjkacepaaPJoinsx5
namespace Go.Proofs.Ytdefilnjkacepaa.PJoins
open Go.RowKit Go.Proofs.YtdefilnjkacepaaW.PrintWords Go.Proofs.YtdefilnjkacepaaW.PrintLast Go.Proofs.YtdefilnjkacepaaW.PrintMore Go.Proofs.Ytdefilnjkacepaa.XW
attribute [local go_sem] max2_int min2_int max_two min_two max_three min_three max_four min_four max_five min_five   -- for this text's walks alone
set_option linter.unusedVariables false
set_option linter.unusedSimpArgs false

end Go.Proofs.Ytdefilnjkacepaa.PJoins
