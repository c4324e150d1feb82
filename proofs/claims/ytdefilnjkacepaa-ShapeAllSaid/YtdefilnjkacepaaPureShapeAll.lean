/- All places of a shape are yielded in row-major order, until the loop stops. -/
import Derived.Test.YtdefilnjkacepaaPAllx5
import Derived.Test.YtdefilnjkacepaaLawsAll
namespace Go.Proofs.Ytdefilnjkacepaa.Pure
open Go.RowKit Go.Proofs.Ytdefilnjkacepaa.PAll Go.Proofs.YtdefilnjkacepaaW.PrintWords Go.Proofs.YtdefilnjkacepaaW.PrintLast
theorem ShapeAll : athanorlaw03_ShapeAll.Pure := by
  exact Go.Proofs.Ytdefilnjkacepaa.LawsAll.ShapeAll
end Go.Proofs.Ytdefilnjkacepaa.Pure
