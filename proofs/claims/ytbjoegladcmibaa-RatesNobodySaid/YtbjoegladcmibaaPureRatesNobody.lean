import Derived.Test.YtbjoegladcmibaaXRatesNobodyxr
namespace Go.Proofs.Ytbjoegladcmibaa.Pure
open Go.RowKit Go.Proofs.Ytbjoegladcmibaa.XRatesNobody Go.Proofs.YtbjoegladcmibaaW.PrintWords Go.Proofs.YtbjoegladcmibaaW.PrintLast Go.Proofs.Ytbjoegladcmibaa.Opens
set_option linter.unusedVariables false
set_option linter.unusedSimpArgs false
set_option linter.unnecessarySimpa false

theorem RatesNobody : octroilaw14_RatesNobody.Pure := fun x0 h0 => rfl

end Go.Proofs.Ytbjoegladcmibaa.Pure
