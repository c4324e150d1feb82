/- safe.Sub, safe.Share and safe.Max answer the document's differences, shares and maxima, or refuse; conditions: none beyond the statement's own. -/
import Derived.Test.YteaflkbepnfkdaaPSafex5
import Derived.Test.YteaflkbepnfkdaaLawsSafe
namespace Go.Proofs.Yteaflkbepnfkdaa.Pure
open Go.RowKit Go.Proofs.Yteaflkbepnfkdaa.PSafe Go.Proofs.YteaflkbepnfkdaaW.PrintWords Go.Proofs.YteaflkbepnfkdaaW.PrintLast
theorem SafeParts : athanorlaw02_SafeParts.Pure := by
  exact Go.Proofs.Yteaflkbepnfkdaa.LawsSafe.SafeParts
end Go.Proofs.Yteaflkbepnfkdaa.Pure
