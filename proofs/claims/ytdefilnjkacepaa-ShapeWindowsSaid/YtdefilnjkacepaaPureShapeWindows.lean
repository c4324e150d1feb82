/- the number of positions of a window is that of the document; conditions: none beyond the statement's own. -/
import Derived.Test.YtdefilnjkacepaaPShapex5
import Derived.Test.YtdefilnjkacepaaLawsShape
namespace Go.Proofs.Ytdefilnjkacepaa.Pure
open Go.RowKit Go.Proofs.Ytdefilnjkacepaa.PShape Go.Proofs.YtdefilnjkacepaaW.PrintWords Go.Proofs.YtdefilnjkacepaaW.PrintLast
theorem ShapeWindows : athanorlaw03_ShapeWindows.Pure := by
  exact Go.Proofs.Ytdefilnjkacepaa.LawsShape.ShapeWindows
end Go.Proofs.Ytdefilnjkacepaa.Pure
