-- WRITTEN BY wip/xprint.py (my own wrapper round the print, with contracts of my own in it)
import Derived.Test.YtbjoegladcmibaaYThresholdAddsx1
import Derived.Test.YtbjoegladcmibaaOpens
namespace Go.Proofs.Ytbjoegladcmibaa.YThresholdAdds
open Go.RowKit Go.Proofs.YtbjoegladcmibaaW.PrintWords Go.Proofs.YtbjoegladcmibaaW.PrintLast Go.Proofs.Ytbjoegladcmibaa.Opens
set_option linter.unusedVariables false
set_option linter.unusedSimpArgs false

def g53 (x : S53) : Prop := (Lit.int .i64 x.f0).wf = true ∧ (Lit.int .i64 x.f1).wf = true
theorem o53 : ∀ n, Opens.Op Try.prog n 53 k53 g53 := by
  intro n
  cases n with
  | zero => exact Opens.Op.zero
  | succ n => exact Opens.Op.mono (Opens.Op.iso (Opens.Op.struct Try.underlying53 (by kernel_rfl) (Fl.cons rfl (by kernel_rfl) (Opens.Op.int (n := n) Try.underlying3) (Fl.one rfl (by kernel_rfl) (Opens.Op.int (n := n) Try.underlying3)))) _ (fun v => ⟨v.1, v.2⟩) (fun _ => rfl)) (fun v h => h)

/-- THE ONE PURE STATEMENT of octroilaw19_ThresholdAdds. -/
def octroilaw19_ThresholdAdds.Pure : Prop := ∀ (l0 : List (S53)) (x1 : S53) (a2 : Bool), (l0.length ≤ maxLen ∧ ∀ x ∈ l0, g53 x) → l0.length * 16 ≤ 140737488351232 → g53 x1 → octroilaw19_ThresholdAdds.f l0 x1.f0 x1.f1 a2 = some true
end Go.Proofs.Ytbjoegladcmibaa.YThresholdAdds
