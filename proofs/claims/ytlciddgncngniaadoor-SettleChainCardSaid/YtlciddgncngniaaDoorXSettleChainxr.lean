-- WRITTEN BY wip/xprint.py (my own wrapper round the print, with contracts of my own in it)
import Derived.Test.YtlciddgncngniaaDoorXSettleChainx8
import Derived.Test.YtlciddgncngniaaDoorOpens
namespace Go.Proofs.YtlciddgncngniaaDoor.XSettleChain
open Go.RowKit Go.Proofs.YtlciddgncngniaaDoorW.PrintWords Go.Proofs.YtlciddgncngniaaDoorW.PrintLast Go.Proofs.YtlciddgncngniaaDoor.Opens
set_option linter.unusedVariables false
set_option linter.unusedSimpArgs false

def g36 (x : S36) : Prop := (Lit.int .i64 x.f0).wf = true ∧ (Lit.int .i64 x.f1).wf = true ∧ (Lit.int .i64 x.f2).wf = true
theorem o36 : ∀ n, Opens.Op Tryd.prog n 36 k36 g36 := by
  intro n
  cases n with
  | zero => exact Opens.Op.zero
  | succ n => exact Opens.Op.mono (Opens.Op.iso (Opens.Op.struct Tryd.underlying36 (by kernel_rfl) (Fl.cons rfl (by kernel_rfl) (Opens.Op.int (n := n) Tryd.underlying3) (Fl.cons rfl (by kernel_rfl) (Opens.Op.int (n := n) Tryd.underlying3) (Fl.one rfl (by kernel_rfl) (Opens.Op.int (n := n) Tryd.underlying3))))) _ (fun v => ⟨v.1, v.2.1, v.2.2⟩) (fun _ => rfl)) (fun v h => h)

/-- THE ONE PURE STATEMENT of octroilaw38_SettleChain. -/
def octroilaw38_SettleChain.Pure : Prop := ∀ (l0 : List (S36)) (a1 : Int), (l0.length ≤ maxLen ∧ ∀ x ∈ l0, g36 x) → (Lit.int .i64 a1).wf = true → ∃ k, octroilaw38_SettleChain.f k l0 a1 = some true
end Go.Proofs.YtlciddgncngniaaDoor.XSettleChain
