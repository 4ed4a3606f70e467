-- WRITTEN BY wip/xprint.py (my own wrapper round the print, with contracts of my own in it)
import Derived.Test.YtlciddgncngniaaDoorXSettleOfx10
import Derived.Test.YtlciddgncngniaaDoorOpens
namespace Go.Proofs.YtlciddgncngniaaDoor.XSettleOf
open Go.RowKit Go.Proofs.YtlciddgncngniaaDoorW.PrintWords Go.Proofs.YtlciddgncngniaaDoorW.PrintLast Go.Proofs.YtlciddgncngniaaDoor.Opens
set_option linter.unusedVariables false
set_option linter.unusedSimpArgs false

def g36 (x : S36) : Prop := (Lit.int .i64 x.f0).wf = true ∧ (Lit.int .i64 x.f1).wf = true ∧ (Lit.int .i64 x.f2).wf = true
theorem o36 : ∀ n, Opens.Op Tryd.prog n 36 k36 g36 := by
  intro n
  cases n with
  | zero => exact Opens.Op.zero
  | succ n => exact Opens.Op.mono (Opens.Op.iso (Opens.Op.struct Tryd.underlying36 (by kernel_rfl) (Fl.cons rfl (by kernel_rfl) (Opens.Op.int (n := n) Tryd.underlying3) (Fl.cons rfl (by kernel_rfl) (Opens.Op.int (n := n) Tryd.underlying3) (Fl.one rfl (by kernel_rfl) (Opens.Op.int (n := n) Tryd.underlying3))))) _ (fun v => ⟨v.1, v.2.1, v.2.2⟩) (fun _ => rfl)) (fun v h => h)

def g41 (x : S41) : Prop := (Lit.int .i64 x.f0).wf = true ∧ (Lit.int .i64 x.f1).wf = true ∧ (Lit.int .i64 x.f2).wf = true ∧ (Lit.int .i64 x.f3).wf = true ∧ (Lit.int .i64 x.f4).wf = true
theorem o41 : ∀ n, Opens.Op Tryd.prog n 41 k41 g41 := by
  intro n
  cases n with
  | zero => exact Opens.Op.zero
  | succ n => exact Opens.Op.mono (Opens.Op.iso (Opens.Op.struct Tryd.underlying41 (by kernel_rfl) (Fl.cons rfl (by kernel_rfl) (Opens.Op.int (n := n) Tryd.underlying3) (Fl.cons rfl (by kernel_rfl) (Opens.Op.int (n := n) Tryd.underlying3) (Fl.cons rfl (by kernel_rfl) (Opens.Op.int (n := n) Tryd.underlying3) (Fl.cons rfl (by kernel_rfl) (Opens.Op.int (n := n) Tryd.underlying3) (Fl.one rfl (by kernel_rfl) (Opens.Op.int (n := n) Tryd.underlying3))))))) _ (fun v => ⟨v.1, v.2.1, v.2.2.1, v.2.2.2.1, v.2.2.2.2⟩) (fun _ => rfl)) (fun v h => h)

/-- THE ONE PURE STATEMENT of octroilaw38_SettleOf. -/
def octroilaw38_SettleOf.Pure : Prop := ∀ (x0 : S36) (a1 : Int) (x2 : S41), g36 x0 → (Lit.int .i64 a1).wf = true → g41 x2 → ∃ k, octroilaw38_SettleOf.f k x0.f0 x0.f1 x0.f2 a1 x2.f0 x2.f1 x2.f2 x2.f3 x2.f4 = some true
end Go.Proofs.YtlciddgncngniaaDoor.XSettleOf
