import Derived.Test.YtbjoegladcmibaaYPeopleNobodyxr
namespace Go.Proofs.Ytbjoegladcmibaa.Pure
open Go.RowKit Go.Proofs.Ytbjoegladcmibaa.YPeopleNobody Go.Proofs.YtbjoegladcmibaaW.PrintWords Go.Proofs.YtbjoegladcmibaaW.PrintLast Go.Proofs.Ytbjoegladcmibaa.Opens
set_option linter.unusedVariables false
set_option linter.unusedSimpArgs false
set_option linter.unnecessarySimpa false

theorem PeopleNobody : octroilaw15_PeopleNobody.Pure := fun x0 h0 => rfl

end Go.Proofs.Ytbjoegladcmibaa.Pure
