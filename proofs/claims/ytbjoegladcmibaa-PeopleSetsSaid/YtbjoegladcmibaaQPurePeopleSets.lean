import Derived.Test.YtbjoegladcmibaaQYPeopleSetsxr
namespace Go.Proofs.Ytbjoegladcmibaa.Pure
open Go.RowKit Go.Proofs.Ytbjoegladcmibaa.YPeopleSets Go.Proofs.YtbjoegladcmibaaW.PrintWords Go.Proofs.YtbjoegladcmibaaW.PrintLast Go.Proofs.Ytbjoegladcmibaa.Opens
set_option linter.unusedVariables false
set_option linter.unusedSimpArgs false
set_option linter.unnecessarySimpa false

theorem PeopleSets : octroilaw15_PeopleSets.Pure := by
  intro a0 l1 x2 h0 hl hb h2
  unfold octroilaw15_PeopleSets.f
  rw [if_pos (show octroilaw15_PeopleSets.Good l1 from by unfold octroilaw15_PeopleSets.Good; omega)]

end Go.Proofs.Ytbjoegladcmibaa.Pure
