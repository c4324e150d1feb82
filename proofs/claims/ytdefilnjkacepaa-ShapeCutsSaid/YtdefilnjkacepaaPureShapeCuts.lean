/- any part of a side is cut, or refused; conditions: none beyond the statement's own. -/
import Derived.Test.YtdefilnjkacepaaPShapex6
import Derived.Test.YtdefilnjkacepaaLawsShape
namespace Go.Proofs.Ytdefilnjkacepaa.Pure
open Go.RowKit Go.Proofs.Ytdefilnjkacepaa.PShape Go.Proofs.YtdefilnjkacepaaW.PrintWords Go.Proofs.YtdefilnjkacepaaW.PrintLast
theorem ShapeCuts : athanorlaw03_ShapeCuts.Pure := by
  exact Go.Proofs.Ytdefilnjkacepaa.LawsShape.ShapeCuts
end Go.Proofs.Ytdefilnjkacepaa.Pure
