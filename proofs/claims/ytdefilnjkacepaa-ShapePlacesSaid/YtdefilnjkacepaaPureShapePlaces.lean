/- Numbers of places and indices correspond; others are refused. -/
import Derived.Test.YtdefilnjkacepaaPPlax5
import Derived.Test.YtdefilnjkacepaaLawsPlaces
namespace Go.Proofs.Ytdefilnjkacepaa.Pure
open Go.RowKit Go.Proofs.Ytdefilnjkacepaa.PPla Go.Proofs.YtdefilnjkacepaaW.PrintWords Go.Proofs.YtdefilnjkacepaaW.PrintLast
theorem ShapePlaces : athanorlaw03_ShapePlaces.Pure := by
  exact Go.Proofs.Ytdefilnjkacepaa.LawsPlaces.ShapePlaces
end Go.Proofs.Ytdefilnjkacepaa.Pure
