-- WRITTEN BY wip/xprint.py (my own wrapper round the print, with contracts of my own in it)
import Derived.Test.YtbjoegladcmibaaYPeopleNobodyx1
import Derived.Test.YtbjoegladcmibaaOpens
namespace Go.Proofs.Ytbjoegladcmibaa.YPeopleNobody
open Go.RowKit Go.Proofs.YtbjoegladcmibaaW.PrintWords Go.Proofs.YtbjoegladcmibaaW.PrintLast Go.Proofs.Ytbjoegladcmibaa.Opens
set_option linter.unusedVariables false
set_option linter.unusedSimpArgs false

def g24 (x : S24) : Prop := (Lit.int .i64 x.f0).wf = true ∧ (Lit.int .i64 x.f1).wf = true ∧ (Lit.int .i64 x.f2).wf = true
theorem o24 : ∀ n, Opens.Op Try.prog n 24 k24 g24 := by
  intro n
  cases n with
  | zero => exact Opens.Op.zero
  | succ n => exact Opens.Op.mono (Opens.Op.iso (Opens.Op.struct Try.underlying24 (by kernel_rfl) (Fl.cons rfl (by kernel_rfl) (Opens.Op.int (n := n) Try.underlying3) (Fl.cons rfl (by kernel_rfl) (Opens.Op.int (n := n) Try.underlying3) (Fl.one rfl (by kernel_rfl) (Opens.Op.int (n := n) Try.underlying3))))) _ (fun v => ⟨v.1, v.2.1, v.2.2⟩) (fun _ => rfl)) (fun v h => h)

def g42 (x : S42) : Prop := (Lit.int .i64 x.f0).wf = true ∧ x.f1.size ≤ maxLen ∧ x.f2.size ≤ maxLen ∧ g24 x.f3
theorem o42 : ∀ n, Opens.Op Try.prog n 42 k42 g42 := by
  intro n
  cases n with
  | zero => exact Opens.Op.zero
  | succ n => exact Opens.Op.mono (Opens.Op.iso (Opens.Op.struct Try.underlying42 (by kernel_rfl) (Fl.cons rfl (by kernel_rfl) (Opens.Op.int (n := n) Try.underlying3) (Fl.cons rfl (by kernel_rfl) (Opens.Op.string (n := n) Try.underlying9) (Fl.cons rfl (by kernel_rfl) (Opens.Op.string (n := n) Try.underlying9) (Fl.one rfl (by kernel_rfl) (o24 n)))))) _ (fun v => ⟨v.1, v.2.1, v.2.2.1, v.2.2.2⟩) (fun _ => rfl)) (fun v h => h)

/-- THE ONE PURE STATEMENT of octroilaw15_PeopleNobody. -/
def octroilaw15_PeopleNobody.Pure : Prop := ∀ (x0 : S42), g42 x0 → octroilaw15_PeopleNobody.f x0.f0 x0.f1 x0.f2 x0.f3.f0 x0.f3.f1 x0.f3.f2 = some true
end Go.Proofs.Ytbjoegladcmibaa.YPeopleNobody
