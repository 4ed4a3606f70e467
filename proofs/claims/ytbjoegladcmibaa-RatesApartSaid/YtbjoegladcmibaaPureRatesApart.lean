import Derived.Test.YtbjoegladcmibaaXRatesApartxr
namespace Go.Proofs.Ytbjoegladcmibaa.Pure
open Go.RowKit Go.Proofs.Ytbjoegladcmibaa.XRatesApart Go.Proofs.YtbjoegladcmibaaW.PrintWords Go.Proofs.YtbjoegladcmibaaW.PrintLast Go.Proofs.Ytbjoegladcmibaa.Opens
set_option linter.unusedVariables false
set_option linter.unusedSimpArgs false
set_option linter.unnecessarySimpa false

theorem RatesApart : octroilaw14_RatesApart.Pure := by
  intro l0 x1 x2 hl hb h1 h2
  unfold octroilaw14_RatesApart.f
  rw [if_pos ⟨by omega, fun y hy => ⟨(hl.2 y hy).1, (hl.2 y hy).2.1⟩, h1.1, h1.2.1, h2.1, h2.2.1⟩]

end Go.Proofs.Ytbjoegladcmibaa.Pure
