/- safe.Add adds any list of numbers as the document says, or refuses it with the document's error; conditions: none beyond the statement's own. -/
import Derived.Test.YteaflkbepnfkdaaPSafex2
import Derived.Test.YteaflkbepnfkdaaLawsSafe
namespace Go.Proofs.Yteaflkbepnfkdaa.Pure
open Go.RowKit Go.Proofs.Yteaflkbepnfkdaa.PSafe Go.Proofs.YteaflkbepnfkdaaW.PrintWords Go.Proofs.YteaflkbepnfkdaaW.PrintLast
theorem SafeSums : athanorlaw02_SafeSums.Pure := by
  exact Go.Proofs.Yteaflkbepnfkdaa.LawsSafe.SafeSums
end Go.Proofs.Yteaflkbepnfkdaa.Pure
