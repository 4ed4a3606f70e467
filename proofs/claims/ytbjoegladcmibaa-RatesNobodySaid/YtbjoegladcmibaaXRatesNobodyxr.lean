-- WRITTEN BY wip/xprint.py (my own wrapper round the print, with contracts of my own in it)
import Derived.Test.YtbjoegladcmibaaXRatesNobodyx1
import Derived.Test.YtbjoegladcmibaaOpens
namespace Go.Proofs.Ytbjoegladcmibaa.XRatesNobody
open Go.RowKit Go.Proofs.YtbjoegladcmibaaW.PrintWords Go.Proofs.YtbjoegladcmibaaW.PrintLast Go.Proofs.Ytbjoegladcmibaa.Opens
set_option linter.unusedVariables false
set_option linter.unusedSimpArgs false

def g28 (x : S28) : Prop := x.f0.size ≤ maxLen ∧ (Lit.int .i64 x.f1).wf = true ∧ (Lit.int .i64 x.f2).wf = true
theorem o28 : ∀ n, Opens.Op Try.prog n 28 k28 g28 := by
  intro n
  cases n with
  | zero => exact Opens.Op.zero
  | succ n => exact Opens.Op.mono (Opens.Op.iso (Opens.Op.struct Try.underlying28 (by kernel_rfl) (Fl.cons rfl (by kernel_rfl) (Opens.Op.string (n := n) Try.underlying9) (Fl.cons rfl (by kernel_rfl) (Opens.Op.int (n := n) Try.underlying3) (Fl.one rfl (by kernel_rfl) (Opens.Op.int (n := n) Try.underlying3))))) _ (fun v => ⟨v.1, v.2.1, v.2.2⟩) (fun _ => rfl)) (fun v h => h)

/-- THE ONE PURE STATEMENT of octroilaw14_RatesNobody. -/
def octroilaw14_RatesNobody.Pure : Prop := ∀ (x0 : S28), g28 x0 → octroilaw14_RatesNobody.f x0.f0 x0.f1 x0.f2 = some true
end Go.Proofs.Ytbjoegladcmibaa.XRatesNobody
