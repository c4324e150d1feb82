/- two shapes are joined exactly if the document says so; cutting gives the parts again -/
import Derived.Test.YtdefilnjkacepaaPJoinsx5
import Derived.Test.YtdefilnjkacepaaLawsJoins
namespace Go.Proofs.Ytdefilnjkacepaa.Pure
open Go.RowKit Go.Proofs.Ytdefilnjkacepaa.PJoins Go.Proofs.YtdefilnjkacepaaW.PrintWords Go.Proofs.YtdefilnjkacepaaW.PrintLast
theorem ShapeJoins : athanorlaw03_ShapeJoins.Pure := by
  exact Go.Proofs.Ytdefilnjkacepaa.LawsJoins.ShapeJoins
end Go.Proofs.Ytdefilnjkacepaa.Pure
