/- safe.Mul multiplies any list of numbers as the document says, or refuses it; a factor 0 makes the product 0; conditions: none beyond the statement's own. -/
import Derived.Test.YteaflkbepnfkdaaPSafex3
import Derived.Test.YteaflkbepnfkdaaLawsSafe
namespace Go.Proofs.Yteaflkbepnfkdaa.Pure
open Go.RowKit Go.Proofs.Yteaflkbepnfkdaa.PSafe Go.Proofs.YteaflkbepnfkdaaW.PrintWords Go.Proofs.YteaflkbepnfkdaaW.PrintLast
theorem SafeProducts : athanorlaw02_SafeProducts.Pure := by
  exact Go.Proofs.Yteaflkbepnfkdaa.LawsSafe.SafeProducts
end Go.Proofs.Yteaflkbepnfkdaa.Pure
