import Derived.Test.YtbjoegladcmibaaYPeopleThirdxr
namespace Go.Proofs.Ytbjoegladcmibaa.Pure
open Go.RowKit Go.Proofs.Ytbjoegladcmibaa.YPeopleThird Go.Proofs.YtbjoegladcmibaaW.PrintWords Go.Proofs.YtbjoegladcmibaaW.PrintLast Go.Proofs.Ytbjoegladcmibaa.Opens
set_option linter.unusedVariables false
set_option linter.unusedSimpArgs false
set_option linter.unnecessarySimpa false

theorem PeopleThird : octroilaw15_PeopleThird.Pure := by
  intro a0 l1 x2 h0 hl hb h2
  unfold octroilaw15_PeopleThird.f
  rw [if_pos (show octroilaw15_PeopleThird.Good l1 from by unfold octroilaw15_PeopleThird.Good; omega)]

end Go.Proofs.Ytbjoegladcmibaa.Pure
