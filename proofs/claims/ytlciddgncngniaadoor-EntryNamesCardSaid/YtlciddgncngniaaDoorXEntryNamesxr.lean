-- WRITTEN BY wip/xprint.py (my own wrapper round the print, with contracts of my own in it)
import Derived.Test.YtlciddgncngniaaDoorXEntryNamesx4
import Derived.Test.YtlciddgncngniaaDoorOpens
namespace Go.Proofs.YtlciddgncngniaaDoor.XEntryNames
open Go.RowKit Go.Proofs.YtlciddgncngniaaDoorW.PrintWords Go.Proofs.YtlciddgncngniaaDoorW.PrintLast Go.Proofs.YtlciddgncngniaaDoor.Opens
set_option linter.unusedVariables false
set_option linter.unusedSimpArgs false

def g23 (x : S23) : Prop := (Lit.int .i64 x.f0).wf = true ∧ (Lit.int .i64 x.f1).wf = true ∧ (Lit.int .i64 x.f2).wf = true
theorem o23 : ∀ n, Opens.Op Tryd.prog n 23 k23 g23 := by
  intro n
  cases n with
  | zero => exact Opens.Op.zero
  | succ n => exact Opens.Op.mono (Opens.Op.iso (Opens.Op.struct Tryd.underlying23 (by kernel_rfl) (Fl.cons rfl (by kernel_rfl) (Opens.Op.int (n := n) Tryd.underlying3) (Fl.cons rfl (by kernel_rfl) (Opens.Op.int (n := n) Tryd.underlying3) (Fl.one rfl (by kernel_rfl) (Opens.Op.int (n := n) Tryd.underlying3))))) _ (fun v => ⟨v.1, v.2.1, v.2.2⟩) (fun _ => rfl)) (fun v h => h)

def g25 (x : S25) : Prop := g23 x.f0 ∧ g23 x.f1 ∧ x.f2.size ≤ maxLen ∧ True ∧ (Lit.int .i64 x.f4).wf = true ∧ (Lit.int .i64 x.f5).wf = true ∧ (Lit.int .i64 x.f6).wf = true ∧ x.f7.size ≤ maxLen ∧ x.f8.size ≤ maxLen ∧ (Lit.int .i64 x.f9).wf = true ∧ (Lit.int .i64 x.f10).wf = true ∧ (Lit.int .i64 x.f11).wf = true ∧ True
theorem o25 : ∀ n, Opens.Op Tryd.prog n 25 k25 g25 := by
  intro n
  cases n with
  | zero => exact Opens.Op.zero
  | succ n => exact Opens.Op.mono (Opens.Op.iso (Opens.Op.struct Tryd.underlying25 (by kernel_rfl) (Fl.cons rfl (by kernel_rfl) (o23 n) (Fl.cons rfl (by kernel_rfl) (o23 n) (Fl.cons rfl (by kernel_rfl) (Opens.Op.string (n := n) Tryd.underlying9) (Fl.cons rfl (by kernel_rfl) (Opens.Op.bool (n := n) Tryd.underlying4) (Fl.cons rfl (by kernel_rfl) (Opens.Op.int (n := n) Tryd.underlying3) (Fl.cons rfl (by kernel_rfl) (Opens.Op.int (n := n) Tryd.underlying3) (Fl.cons rfl (by kernel_rfl) (Opens.Op.int (n := n) Tryd.underlying3) (Fl.cons rfl (by kernel_rfl) (Opens.Op.string (n := n) Tryd.underlying9) (Fl.cons rfl (by kernel_rfl) (Opens.Op.string (n := n) Tryd.underlying9) (Fl.cons rfl (by kernel_rfl) (Opens.Op.int (n := n) Tryd.underlying3) (Fl.cons rfl (by kernel_rfl) (Opens.Op.int (n := n) Tryd.underlying3) (Fl.cons rfl (by kernel_rfl) (Opens.Op.int (n := n) Tryd.underlying3) (Fl.one rfl (by kernel_rfl) (Opens.Op.bool (n := n) Tryd.underlying4))))))))))))))) _ (fun v => ⟨v.1, v.2.1, v.2.2.1, v.2.2.2.1, v.2.2.2.2.1, v.2.2.2.2.2.1, v.2.2.2.2.2.2.1, v.2.2.2.2.2.2.2.1, v.2.2.2.2.2.2.2.2.1, v.2.2.2.2.2.2.2.2.2.1, v.2.2.2.2.2.2.2.2.2.2.1, v.2.2.2.2.2.2.2.2.2.2.2.1, v.2.2.2.2.2.2.2.2.2.2.2.2⟩) (fun _ => rfl)) (fun v h => h)

/-- THE ONE PURE STATEMENT of octroilaw25_EntryNames. -/
def octroilaw25_EntryNames.Pure : Prop := ∀ (x0 : S25) (a1 : ByteArray), g25 x0 → a1.size ≤ 140737488351232 → ∃ k, octroilaw25_EntryNames.f k x0.f0.f0 x0.f0.f1 x0.f0.f2 x0.f1.f0 x0.f1.f1 x0.f1.f2 x0.f2 x0.f3 x0.f4 x0.f5 x0.f6 x0.f7 x0.f8 x0.f9 x0.f10 x0.f11 x0.f12 a1 = some true
end Go.Proofs.YtlciddgncngniaaDoor.XEntryNames
