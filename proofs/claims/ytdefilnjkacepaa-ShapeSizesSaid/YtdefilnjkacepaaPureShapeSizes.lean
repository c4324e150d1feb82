/- any sides are a valid shape exactly if the document says so, and the size is the product; conditions: none beyond the statement's own. -/
import Derived.Test.YtdefilnjkacepaaPShapex4
import Derived.Test.YtdefilnjkacepaaLawsShape
namespace Go.Proofs.Ytdefilnjkacepaa.Pure
open Go.RowKit Go.Proofs.Ytdefilnjkacepaa.PShape Go.Proofs.YtdefilnjkacepaaW.PrintWords Go.Proofs.YtdefilnjkacepaaW.PrintLast
theorem ShapeSizes : athanorlaw03_ShapeSizes.Pure := by
  exact Go.Proofs.Ytdefilnjkacepaa.LawsShape.ShapeSizes
end Go.Proofs.Ytdefilnjkacepaa.Pure
