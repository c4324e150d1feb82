/- sums and products, and their errors, do not depend on the order of the numbers; conditions: none beyond the statement's own. -/
import Derived.Test.YteaflkbepnfkdaaPSafex3
import Derived.Test.YteaflkbepnfkdaaLawsSafe
namespace Go.Proofs.Yteaflkbepnfkdaa.Pure
open Go.RowKit Go.Proofs.Yteaflkbepnfkdaa.PSafe Go.Proofs.YteaflkbepnfkdaaW.PrintWords Go.Proofs.YteaflkbepnfkdaaW.PrintLast
theorem SafeTurned : athanorlaw02_SafeTurned.Pure := by
  exact Go.Proofs.Yteaflkbepnfkdaa.LawsSafe.SafeTurned
end Go.Proofs.Yteaflkbepnfkdaa.Pure
