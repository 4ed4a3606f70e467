-- WRITTEN BY wip/xprint.py (my own wrapper round the print, with contracts of my own in it)
import Derived.Test.YtnaglnifpejpjaaGreatDoorRYEvalPartsx1
import Derived.Test.YtnaglnifpejpjaaGreatDoorROA
namespace Go.Proofs.YtnaglnifpejpjaaGreatDoor.YEvalParts
open Go.RowKit Go.Proofs.YtnaglnifpejpjaaGreatDoorW.PrintWords Go.Proofs.YtnaglnifpejpjaaGreatDoorW.PrintLast Go.Proofs.YtnaglnifpejpjaaGreatDoor.XEvalRuns
set_option linter.unusedVariables false
set_option linter.unusedSimpArgs false

def g70 (x : S70) : Prop := x.f0.size ≤ 140737488351232 ∧ (Lit.int .u8 x.f1).wf = true ∧ (Lit.int .i64 x.f2).wf = true
theorem o70 : ∀ n, OpenW.Op Tryz.prog n 70 k70 g70 := by
  intro n
  cases n with
  | zero => exact OpenW.Op.zero
  | succ n => exact OpenW.Op.mono (OpenW.Op.iso (OpenW.Op.struct Tryz.underlying70 (by kernel_rfl) (OpenW.Fl.cons rfl (by kernel_rfl) (OpenW.Op.string (n := n) Tryz.underlying9) (OpenW.Fl.cons rfl (by kernel_rfl) (OpenW.Op.int (n := n) Tryz.underlying5) (OpenW.Fl.one rfl (by kernel_rfl) (OpenW.Op.int (n := n) Tryz.underlying3))))) _ (fun v => ⟨v.1, v.2.1, v.2.2⟩) (fun _ => rfl)) (fun v h => h)

def h25 (G : S25 → Prop) (x : S25) : Prop := (Lit.int .i64 x.f0).wf = true ∧ (Lit.int .i64 x.f1).wf = true ∧ x.f2.size ≤ 140737488351232 ∧ (x.f3.length ≤ 140737488351232 ∧ ∀ y_x_f3 ∈ x.f3, g70 y_x_f3) ∧ (x.f4.length ≤ 140737488351232 ∧ ∀ y ∈ x.f4, G y)
def u25 : Nat → S25 → Prop
  | 0 => fun _ => False
  | m + 1 => h25 (u25 m)
def g25 (x : S25) : Prop := ∃ m, u25 m x
theorem p25 : ∀ m n, n ≤ m → OpenW.Op Tryz.prog n 25 (Kd.upto F25 5 [25, 70] m) (u25 m) := by
  intro m
  induction m with
  | zero =>
    intro n hn
    obtain rfl : n = 0 := by omega
    exact OpenW.Op.zero
  | succ m ih =>
    intro n hn
    cases n with
    | zero => exact OpenW.Op.zero
    | succ n => exact OpenW.Op.mono (OpenW.Op.iso (OpenW.Op.struct Tryz.underlying25 (by kernel_rfl) (OpenW.Fl.cons rfl (by kernel_rfl) (OpenW.Op.int (n := n) Tryz.underlying3) (OpenW.Fl.cons rfl (by kernel_rfl) (OpenW.Op.int (n := n) Tryz.underlying3) (OpenW.Fl.cons rfl (by kernel_rfl) (OpenW.Op.string (n := n) Tryz.underlying9) (OpenW.Fl.cons rfl (by kernel_rfl) (OpenW.Op.slice (n := n) Tryz.underlying22 (by kernel_rfl) (by kernel_rfl) z70 (fun m_ hm_ => (o70 m_))) (OpenW.Fl.one rfl (by kernel_rfl) (OpenW.Op.slice (n := n) Tryz.underlying23 (by rw [sz25]; kernel_rfl) (by kernel_rfl) z25 (fun j_ hj_ => ih j_ (by omega))))))))) _ (fun v => ⟨v.1, v.2.1, v.2.2.1, v.2.2.2.1, v.2.2.2.2⟩) (fun _ => rfl)) (fun v h => h)
theorem o25 (n : Nat) : OpenW.Op Tryz.prog n 25 k25 g25 := by
  intro H enc w base held cs x h hlt
  obtain ⟨v, h1, h2⟩ := p25 n n (Nat.le_refl _) h hlt
  exact ⟨v, ⟨n, h1⟩, ⟨n, h2⟩⟩

def g43 (x : S43) : Prop := (Lit.int .i64 x.f0).wf = true ∧ (Lit.int .i64 x.f1).wf = true ∧ (Lit.int .i64 x.f2).wf = true
theorem o43 : ∀ n, OpenW.Op Tryz.prog n 43 k43 g43 := by
  intro n
  cases n with
  | zero => exact OpenW.Op.zero
  | succ n => exact OpenW.Op.mono (OpenW.Op.iso (OpenW.Op.struct Tryz.underlying43 (by kernel_rfl) (OpenW.Fl.cons rfl (by kernel_rfl) (OpenW.Op.int (n := n) Tryz.underlying3) (OpenW.Fl.cons rfl (by kernel_rfl) (OpenW.Op.int (n := n) Tryz.underlying3) (OpenW.Fl.one rfl (by kernel_rfl) (OpenW.Op.int (n := n) Tryz.underlying3))))) _ (fun v => ⟨v.1, v.2.1, v.2.2⟩) (fun _ => rfl)) (fun v h => h)

def g45 (x : S45) : Prop := g43 x.f0 ∧ g43 x.f1 ∧ x.f2.size ≤ 140737488351232 ∧ True ∧ (Lit.int .i64 x.f4).wf = true ∧ (Lit.int .i64 x.f5).wf = true ∧ (Lit.int .i64 x.f6).wf = true ∧ x.f7.size ≤ 140737488351232 ∧ x.f8.size ≤ 140737488351232 ∧ (Lit.int .i64 x.f9).wf = true ∧ (Lit.int .i64 x.f10).wf = true ∧ (Lit.int .i64 x.f11).wf = true ∧ True
theorem o45 : ∀ n, OpenW.Op Tryz.prog n 45 k45 g45 := by
  intro n
  cases n with
  | zero => exact OpenW.Op.zero
  | succ n => exact OpenW.Op.mono (OpenW.Op.iso (OpenW.Op.struct Tryz.underlying45 (by kernel_rfl) (OpenW.Fl.cons rfl (by kernel_rfl) (o43 n) (OpenW.Fl.cons rfl (by kernel_rfl) (o43 n) (OpenW.Fl.cons rfl (by kernel_rfl) (OpenW.Op.string (n := n) Tryz.underlying9) (OpenW.Fl.cons rfl (by kernel_rfl) (OpenW.Op.bool (n := n) Tryz.underlying4) (OpenW.Fl.cons rfl (by kernel_rfl) (OpenW.Op.int (n := n) Tryz.underlying3) (OpenW.Fl.cons rfl (by kernel_rfl) (OpenW.Op.int (n := n) Tryz.underlying3) (OpenW.Fl.cons rfl (by kernel_rfl) (OpenW.Op.int (n := n) Tryz.underlying3) (OpenW.Fl.cons rfl (by kernel_rfl) (OpenW.Op.string (n := n) Tryz.underlying9) (OpenW.Fl.cons rfl (by kernel_rfl) (OpenW.Op.string (n := n) Tryz.underlying9) (OpenW.Fl.cons rfl (by kernel_rfl) (OpenW.Op.int (n := n) Tryz.underlying3) (OpenW.Fl.cons rfl (by kernel_rfl) (OpenW.Op.int (n := n) Tryz.underlying3) (OpenW.Fl.cons rfl (by kernel_rfl) (OpenW.Op.int (n := n) Tryz.underlying3) (OpenW.Fl.one rfl (by kernel_rfl) (OpenW.Op.bool (n := n) Tryz.underlying4))))))))))))))) _ (fun v => ⟨v.1, v.2.1, v.2.2.1, v.2.2.2.1, v.2.2.2.2.1, v.2.2.2.2.2.1, v.2.2.2.2.2.2.1, v.2.2.2.2.2.2.2.1, v.2.2.2.2.2.2.2.2.1, v.2.2.2.2.2.2.2.2.2.1, v.2.2.2.2.2.2.2.2.2.2.1, v.2.2.2.2.2.2.2.2.2.2.2.1, v.2.2.2.2.2.2.2.2.2.2.2.2⟩) (fun _ => rfl)) (fun v h => h)

/-- THE ONE PURE STATEMENT of octroilaw34_EvalParts. -/
def octroilaw34_EvalParts.Pure : Prop := ∀ (x0 : S25) (l1 : List (S45)) (l2 : List (S45)), g25 x0 → (l1.length ≤ 140737488351232 ∧ ∀ y_l1 ∈ l1, g45 y_l1) → (l2.length ≤ 140737488351232 ∧ ∀ y_l2 ∈ l2, g45 y_l2) → octroilaw34_EvalParts.f x0.f0 x0.f1 x0.f2 x0.f3 x0.f4 l1 l2 = some true
end Go.Proofs.YtnaglnifpejpjaaGreatDoor.YEvalParts
