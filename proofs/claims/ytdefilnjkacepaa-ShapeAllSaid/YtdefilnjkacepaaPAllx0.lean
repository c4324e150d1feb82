-- printed by wip/tools/xp.py of this project (not trusted: Lean checks it)
import Derived.Test.YtdefilnjkacepaaProg
import Derived.Below
import Derived.Deep.Draws
import Derived.Deep.AppendLies
import Derived.Maps.AppendAt
import Derived.OwnWalk
import Derived.Laws.BytesArg
import Derived.Laws.MakeOwn
import Derived.Laws.OwnMore
import Derived.Deep.OwnRows
import Derived.Tactics
import Derived.Lib.ConvBytes
import Derived.Laws.Slices
import Derived.WalkKit
import Derived.KernelRfl
import Derived.RowKit3
import Derived.Deep.LoopGhost
import Derived.Deep.QuietTactic
import Derived.BigQuiet
import Derived.WideLaws
import Derived.Deep.DeepCutAuto
import Derived.Deep.CutBlock
import Derived.Deep.RegionHeld3
import Derived.Laws.Rows
import Derived.Lib.AppendStr
import Derived.ArgAppend
import Derived.Laws.IdiomCopy
import Derived.OrdersHeld
import Derived.Laws.BitsLemmas
import Derived.RowKit
import Derived.Laws.CopyOwn
import Derived.Deep.RegionLaw
import Derived.Shelf.Bits.Mul64
import Derived.Test.YtdefilnjkacepaaWWords
import Derived.Test.YtdefilnjkacepaaWLast
import Derived.Test.YtdefilnjkacepaaWTab
import Derived.Test.YtdefilnjkacepaaWRepsOne
import Derived.Test.YtdefilnjkacepaaWGuard
import Derived.Test.YtdefilnjkacepaaWMore
import Derived.Test.YtdefilnjkacepaaXWords
import Derived.Test.YtdefilnjkacepaaXOpen
namespace Go.Proofs.Ytdefilnjkacepaa.PAll
open Go.RowKit Go.Proofs.YtdefilnjkacepaaW.PrintWords Go.Proofs.YtdefilnjkacepaaW.PrintLast Go.Proofs.YtdefilnjkacepaaW.PrintMore Go.Proofs.Ytdefilnjkacepaa.XW
attribute [local go_sem] max2_int min2_int max_two min_two max_three min_three max_four min_four max_five min_five   -- for this text's walks alone
set_option linter.unusedVariables false
set_option linter.unusedSimpArgs false



def errW : Option Int → Value
  | none => .nilIface
  | some c => .iface 0 (.int .i64 c)
theorem errW_none : errW none = .nilIface := rfl
theorem errW_some (c : Int) : errW (some c) = .iface 0 (.int .i64 c) := rfl

theorem info3 : (Try.prog.info? 3).map (fun i => (i.zero, i.size, i.bytes)) = some (some (.int .i64 0), 1, 8) := by kernel_rfl
-- the values' own types


end Go.Proofs.Ytdefilnjkacepaa.PAll
