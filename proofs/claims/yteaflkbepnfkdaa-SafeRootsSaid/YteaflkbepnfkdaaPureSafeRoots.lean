/- the square of safe.Isqrt's root is at most the number, and that of the next integer is above it; conditions: none beyond the statement's own. -/
import Derived.Test.YteaflkbepnfkdaaPSafex3
import Derived.Test.YteaflkbepnfkdaaLawsSafe
namespace Go.Proofs.Yteaflkbepnfkdaa.Pure
open Go.RowKit Go.Proofs.Yteaflkbepnfkdaa.PSafe Go.Proofs.YteaflkbepnfkdaaW.PrintWords Go.Proofs.YteaflkbepnfkdaaW.PrintLast
theorem SafeRoots : athanorlaw02_SafeRoots.Pure := by
  exact Go.Proofs.Yteaflkbepnfkdaa.LawsSafe.SafeRoots
end Go.Proofs.Yteaflkbepnfkdaa.Pure
