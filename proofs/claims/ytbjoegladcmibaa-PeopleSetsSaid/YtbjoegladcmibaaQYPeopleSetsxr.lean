-- WRITTEN BY wip/xprint.py (my own wrapper round the print, with contracts of my own in it)
import Derived.Test.YtbjoegladcmibaaQYPeopleSetsx1
import Derived.Test.YtbjoegladcmibaaQOpens
namespace Go.Proofs.Ytbjoegladcmibaa.YPeopleSets
open Go.RowKit Go.Proofs.YtbjoegladcmibaaW.PrintWords Go.Proofs.YtbjoegladcmibaaW.PrintLast Go.Proofs.Ytbjoegladcmibaa.Opens
set_option linter.unusedVariables false
set_option linter.unusedSimpArgs false

def g24 (x : S24) : Prop := (Lit.int .i64 x.f0).wf = true ∧ (Lit.int .i64 x.f1).wf = true ∧ (Lit.int .i64 x.f2).wf = true
theorem o24 : ∀ n, Opens.Op Try.prog n 24 k24 g24 := by
  intro n
  cases n with
  | zero => exact Opens.Op.zero
  | succ n => exact Opens.Op.mono (Opens.Op.iso (Opens.Op.struct Try.underlying24 (by kernel_rfl) (Fl.cons rfl (by kernel_rfl) (Opens.Op.int (n := n) Try.underlying3) (Fl.cons rfl (by kernel_rfl) (Opens.Op.int (n := n) Try.underlying3) (Fl.one rfl (by kernel_rfl) (Opens.Op.int (n := n) Try.underlying3))))) _ (fun v => ⟨v.1, v.2.1, v.2.2⟩) (fun _ => rfl)) (fun v h => h)

def g42 (x : S42) : Prop := (Lit.int .i64 x.f0).wf = true ∧ x.f1.size ≤ maxLen ∧ x.f2.size ≤ maxLen ∧ g24 x.f3
theorem o42 : ∀ n, Opens.Op Try.prog n 42 k42 g42 := by
  intro n
  cases n with
  | zero => exact Opens.Op.zero
  | succ n => exact Opens.Op.mono (Opens.Op.iso (Opens.Op.struct Try.underlying42 (by kernel_rfl) (Fl.cons rfl (by kernel_rfl) (Opens.Op.int (n := n) Try.underlying3) (Fl.cons rfl (by kernel_rfl) (Opens.Op.string (n := n) Try.underlying9) (Fl.cons rfl (by kernel_rfl) (Opens.Op.string (n := n) Try.underlying9) (Fl.one rfl (by kernel_rfl) (o24 n)))))) _ (fun v => ⟨v.1, v.2.1, v.2.2.1, v.2.2.2⟩) (fun _ => rfl)) (fun v h => h)

/-- THE ONE PURE STATEMENT of octroilaw15_PeopleSets. -/
def octroilaw15_PeopleSets.Pure : Prop := ∀ (a0 : ByteArray) (l1 : List (S42)) (x2 : S42), a0.size ≤ 140737488351232 → (l1.length ≤ maxLen ∧ ∀ x ∈ l1, g42 x) → l1.length * 64 ≤ 140737488351232 → g42 x2 → octroilaw15_PeopleSets.f a0 l1 x2.f0 x2.f1 x2.f2 x2.f3.f0 x2.f3.f1 x2.f3.f2 = some true
end Go.Proofs.Ytbjoegladcmibaa.YPeopleSets
