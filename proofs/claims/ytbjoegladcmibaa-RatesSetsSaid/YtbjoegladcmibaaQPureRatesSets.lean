import Derived.Test.YtbjoegladcmibaaQYRatesSetsxr
namespace Go.Proofs.Ytbjoegladcmibaa.Pure
open Go.RowKit Go.Proofs.Ytbjoegladcmibaa.YRatesSets Go.Proofs.YtbjoegladcmibaaW.PrintWords Go.Proofs.YtbjoegladcmibaaW.PrintLast Go.Proofs.Ytbjoegladcmibaa.Opens
set_option linter.unusedVariables false
set_option linter.unusedSimpArgs false
set_option linter.unnecessarySimpa false

theorem RatesSets : octroilaw14_RatesSets.Pure := by
  intro l0 x1 hl hb h1
  unfold octroilaw14_RatesSets.f
  rw [if_pos ⟨by omega, fun y hy => ⟨(hl.2 y hy).1, (hl.2 y hy).2.1⟩, h1.1, h1.2.1⟩]

end Go.Proofs.Ytbjoegladcmibaa.Pure
