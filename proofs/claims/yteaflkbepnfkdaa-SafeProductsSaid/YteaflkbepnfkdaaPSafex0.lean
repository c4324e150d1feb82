-- printed by wip/tools/xp.py of this project (not trusted: Lean checks it)
import Derived.Test.YteaflkbepnfkdaaProg
import Derived.Below
import Derived.Deep.Draws
import Derived.Deep.AppendLies
import Derived.Maps.AppendAt
import Derived.OwnWalk
import Derived.Laws.BytesArg
import Derived.Laws.MakeOwn
import Derived.Laws.OwnMore
import Derived.Deep.OwnRows
import Derived.Tactics
import Derived.Lib.ConvBytes
import Derived.Laws.Slices
import Derived.WalkKit
import Derived.KernelRfl
import Derived.RowKit3
import Derived.Deep.LoopGhost
import Derived.Deep.QuietTactic
import Derived.BigQuiet
import Derived.WideLaws
import Derived.Deep.DeepCutAuto
import Derived.Deep.CutBlock
import Derived.Deep.RegionHeld3
import Derived.Laws.Rows
import Derived.Lib.AppendStr
import Derived.ArgAppend
import Derived.Laws.IdiomCopy
import Derived.OrdersHeld
import Derived.Laws.BitsLemmas
import Derived.RowKit
import Derived.Test.YteaflkbepnfkdaaWWords
import Derived.Test.YteaflkbepnfkdaaWLast
import Derived.Test.YteaflkbepnfkdaaWTab
import Derived.Test.YteaflkbepnfkdaaWFour
import Derived.Test.YteaflkbepnfkdaaWQPut
import Derived.Test.YteaflkbepnfkdaaWApart
import Derived.Test.YteaflkbepnfkdaaWArr
import Derived.Test.YteaflkbepnfkdaaWZeros
import Derived.Test.YteaflkbepnfkdaaWFoot
import Derived.Test.YteaflkbepnfkdaaWKept
import Derived.Test.YteaflkbepnfkdaaWShare
import Derived.Test.YteaflkbepnfkdaaWN
import Derived.Test.YteaflkbepnfkdaaWFootNe
import Derived.Test.YteaflkbepnfkdaaWAt
import Derived.Test.YteaflkbepnfkdaaWEqStruct
import Derived.Test.YteaflkbepnfkdaaWRepsOne
import Derived.Test.YteaflkbepnfkdaaWInv
import Derived.Test.YteaflkbepnfkdaaWInvWords
import Derived.Test.YteaflkbepnfkdaaWGuard
import Derived.Test.YteaflkbepnfkdaaWNEv
import Derived.Test.YteaflkbepnfkdaaWMore
namespace Go.Proofs.Yteaflkbepnfkdaa.PSafe
open Go.RowKit Go.Proofs.YteaflkbepnfkdaaW.PrintWords Go.Proofs.YteaflkbepnfkdaaW.PrintLast Go.Proofs.YteaflkbepnfkdaaW.PrintMore
attribute [local go_sem] max2_int min2_int max_two min_two max_three min_three max_four min_four   -- for this text's walks alone
set_option linter.unusedVariables false
set_option linter.unusedSimpArgs false



def errW : Option Int → Value
  | none => .nilIface
  | some c => .iface 0 (.int .i64 c)
theorem errW_none : errW none = .nilIface := rfl
theorem errW_some (c : Int) : errW (some c) = .iface 0 (.int .i64 c) := rfl

theorem info3 : (Try.prog.info? 3).map (fun i => (i.zero, i.size, i.bytes)) = some (some (.int .i64 0), 1, 8) := by kernel_rfl
-- the values' own types

end Go.Proofs.Yteaflkbepnfkdaa.PSafe
