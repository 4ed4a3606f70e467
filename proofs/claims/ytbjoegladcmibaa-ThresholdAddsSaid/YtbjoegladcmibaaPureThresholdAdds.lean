import Derived.Test.YtbjoegladcmibaaYThresholdAddsxr
namespace Go.Proofs.Ytbjoegladcmibaa.Pure
open Go.RowKit Go.Proofs.Ytbjoegladcmibaa.YThresholdAdds Go.Proofs.YtbjoegladcmibaaW.PrintWords Go.Proofs.YtbjoegladcmibaaW.PrintLast Go.Proofs.Ytbjoegladcmibaa.Opens
set_option linter.unusedVariables false
set_option linter.unusedSimpArgs false
set_option linter.unnecessarySimpa false

theorem ThresholdAdds : octroilaw19_ThresholdAdds.Pure := by
  intro l0 x1 x2 hl hb h1
  unfold octroilaw19_ThresholdAdds.f
  rw [if_pos ⟨by omega, fun y hy => (hl.2 y hy).1, h1.1⟩]

end Go.Proofs.Ytbjoegladcmibaa.Pure
