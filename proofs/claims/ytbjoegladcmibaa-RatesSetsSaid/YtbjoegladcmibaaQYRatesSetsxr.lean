-- WRITTEN BY wip/xprint.py (my own wrapper round the print, with contracts of my own in it)
import Derived.Test.YtbjoegladcmibaaQYRatesSetsx1
import Derived.Test.YtbjoegladcmibaaQOpens
namespace Go.Proofs.Ytbjoegladcmibaa.YRatesSets
open Go.RowKit Go.Proofs.YtbjoegladcmibaaW.PrintWords Go.Proofs.YtbjoegladcmibaaW.PrintLast Go.Proofs.Ytbjoegladcmibaa.Opens
set_option linter.unusedVariables false
set_option linter.unusedSimpArgs false

def g24 (x : S24) : Prop := (Lit.int .i64 x.f0).wf = true ∧ (Lit.int .i64 x.f1).wf = true ∧ (Lit.int .i64 x.f2).wf = true
theorem o24 : ∀ n, Opens.Op Try.prog n 24 k24 g24 := by
  intro n
  cases n with
  | zero => exact Opens.Op.zero
  | succ n => exact Opens.Op.mono (Opens.Op.iso (Opens.Op.struct Try.underlying24 (by kernel_rfl) (Fl.cons rfl (by kernel_rfl) (Opens.Op.int (n := n) Try.underlying3) (Fl.cons rfl (by kernel_rfl) (Opens.Op.int (n := n) Try.underlying3) (Fl.one rfl (by kernel_rfl) (Opens.Op.int (n := n) Try.underlying3))))) _ (fun v => ⟨v.1, v.2.1, v.2.2⟩) (fun _ => rfl)) (fun v h => h)

def g26 (x : S26) : Prop := x.f0.size ≤ maxLen ∧ (Lit.int .i64 x.f1).wf = true ∧ g24 x.f2
theorem o26 : ∀ n, Opens.Op Try.prog n 26 k26 g26 := by
  intro n
  cases n with
  | zero => exact Opens.Op.zero
  | succ n => exact Opens.Op.mono (Opens.Op.iso (Opens.Op.struct Try.underlying26 (by kernel_rfl) (Fl.cons rfl (by kernel_rfl) (Opens.Op.string (n := n) Try.underlying9) (Fl.cons rfl (by kernel_rfl) (Opens.Op.int (n := n) Try.underlying3) (Fl.one rfl (by kernel_rfl) (o24 n))))) _ (fun v => ⟨v.1, v.2.1, v.2.2⟩) (fun _ => rfl)) (fun v h => h)

def g28 (x : S28) : Prop := x.f0.size ≤ maxLen ∧ (Lit.int .i64 x.f1).wf = true ∧ (Lit.int .i64 x.f2).wf = true
theorem o28 : ∀ n, Opens.Op Try.prog n 28 k28 g28 := by
  intro n
  cases n with
  | zero => exact Opens.Op.zero
  | succ n => exact Opens.Op.mono (Opens.Op.iso (Opens.Op.struct Try.underlying28 (by kernel_rfl) (Fl.cons rfl (by kernel_rfl) (Opens.Op.string (n := n) Try.underlying9) (Fl.cons rfl (by kernel_rfl) (Opens.Op.int (n := n) Try.underlying3) (Fl.one rfl (by kernel_rfl) (Opens.Op.int (n := n) Try.underlying3))))) _ (fun v => ⟨v.1, v.2.1, v.2.2⟩) (fun _ => rfl)) (fun v h => h)

/-- THE ONE PURE STATEMENT of octroilaw14_RatesSets. -/
def octroilaw14_RatesSets.Pure : Prop := ∀ (l0 : List (S26)) (x1 : S28), (l0.length ≤ maxLen ∧ ∀ x ∈ l0, g26 x) → l0.length * 48 ≤ 140737488351232 → g28 x1 → octroilaw14_RatesSets.f l0 x1.f0 x1.f1 x1.f2 = some true
end Go.Proofs.Ytbjoegladcmibaa.YRatesSets
