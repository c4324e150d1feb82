/- The output for any weight, bias and input is that of the document, or they are refused. -/
import Derived.Test.YtgmgjddfceilhaaPDenx13
import Derived.Test.YtgmgjddfceilhaaLawsDenseG
namespace Go.Proofs.Ytgmgjddfceilhaa.Pure
open Go.RowKit Go.Proofs.Ytgmgjddfceilhaa.PDen Go.Proofs.YtgmgjddfceilhaaW.PrintWords Go.Proofs.YtgmgjddfceilhaaW.PrintLast
theorem DenseGoes : athanorlaw06_DenseGoes.Pure := by
  exact Go.Proofs.Ytgmgjddfceilhaa.LawsDenseG.DenseGoes
end Go.Proofs.Ytgmgjddfceilhaa.Pure
