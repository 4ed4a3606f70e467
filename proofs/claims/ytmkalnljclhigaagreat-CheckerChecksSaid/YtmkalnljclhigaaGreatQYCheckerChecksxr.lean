-- WRITTEN BY wip/xprint.py (my own wrapper round the print, with contracts of my own in it)
import Derived.Test.YtmkalnljclhigaaGreatQYCheckerChecksx1
import Derived.Test.YtmkalnljclhigaaGreatQOpenW
namespace Go.Proofs.YtmkalnljclhigaaGreat.YCheckerChecks
open Go.RowKit Go.Proofs.YtmkalnljclhigaaGreatW.PrintWords Go.Proofs.YtmkalnljclhigaaGreatW.PrintLast Go.Proofs.YtmkalnljclhigaaGreat.XCheckerChecks
set_option linter.unusedVariables false
set_option linter.unusedSimpArgs false

def g62 (x : S62) : Prop := x.f0.size ≤ 140737488351232 ∧ (Lit.int .u8 x.f1).wf = true ∧ (Lit.int .i64 x.f2).wf = true
theorem o62 : ∀ n, OpenW.Op Tryz.prog n 62 k62 g62 := by
  intro n
  cases n with
  | zero => exact OpenW.Op.zero
  | succ n => exact OpenW.Op.mono (OpenW.Op.iso (OpenW.Op.struct Tryz.underlying62 (by kernel_rfl) (OpenW.Fl.cons rfl (by kernel_rfl) (OpenW.Op.string (n := n) Tryz.underlying9) (OpenW.Fl.cons rfl (by kernel_rfl) (OpenW.Op.int (n := n) Tryz.underlying5) (OpenW.Fl.one rfl (by kernel_rfl) (OpenW.Op.int (n := n) Tryz.underlying3))))) _ (fun v => ⟨v.1, v.2.1, v.2.2⟩) (fun _ => rfl)) (fun v h => h)

def h33 (G : S33 → Prop) (x : S33) : Prop := (Lit.int .i64 x.f0).wf = true ∧ (Lit.int .i64 x.f1).wf = true ∧ x.f2.size ≤ 140737488351232 ∧ (x.f3.length ≤ 140737488351232 ∧ ∀ y_x_f3 ∈ x.f3, g62 y_x_f3) ∧ (x.f4.length ≤ 140737488351232 ∧ ∀ y ∈ x.f4, G y)
def u33 : Nat → S33 → Prop
  | 0 => fun _ => False
  | m + 1 => h33 (u33 m)
def g33 (x : S33) : Prop := ∃ m, u33 m x
theorem p33 : ∀ m n, n ≤ m → OpenW.Op Tryz.prog n 33 (Kd.upto F33 5 [33, 62] m) (u33 m) := by
  intro m
  induction m with
  | zero =>
    intro n hn
    obtain rfl : n = 0 := by omega
    exact OpenW.Op.zero
  | succ m ih =>
    intro n hn
    cases n with
    | zero => exact OpenW.Op.zero
    | succ n => exact OpenW.Op.mono (OpenW.Op.iso (OpenW.Op.struct Tryz.underlying33 (by kernel_rfl) (OpenW.Fl.cons rfl (by kernel_rfl) (OpenW.Op.int (n := n) Tryz.underlying3) (OpenW.Fl.cons rfl (by kernel_rfl) (OpenW.Op.int (n := n) Tryz.underlying3) (OpenW.Fl.cons rfl (by kernel_rfl) (OpenW.Op.string (n := n) Tryz.underlying9) (OpenW.Fl.cons rfl (by kernel_rfl) (OpenW.Op.slice (n := n) Tryz.underlying30 (by kernel_rfl) (by kernel_rfl) z62 (fun m_ hm_ => (o62 m_))) (OpenW.Fl.one rfl (by kernel_rfl) (OpenW.Op.slice (n := n) Tryz.underlying31 (by rw [sz33]; kernel_rfl) (by kernel_rfl) z33 (fun j_ hj_ => ih j_ (by omega))))))))) _ (fun v => ⟨v.1, v.2.1, v.2.2.1, v.2.2.2.1, v.2.2.2.2⟩) (fun _ => rfl)) (fun v h => h)
theorem o33 (n : Nat) : OpenW.Op Tryz.prog n 33 k33 g33 := by
  intro H enc w base held cs x h hlt
  obtain ⟨v, h1, h2⟩ := p33 n n (Nat.le_refl _) h hlt
  exact ⟨v, ⟨n, h1⟩, ⟨n, h2⟩⟩

def g35 (x : S35) : Prop := (Lit.int .i64 x.f0).wf = true ∧ g33 x.f1
theorem o35 : ∀ n, OpenW.Op Tryz.prog n 35 k35 g35 := by
  intro n
  cases n with
  | zero => exact OpenW.Op.zero
  | succ n => exact OpenW.Op.mono (OpenW.Op.iso (OpenW.Op.struct Tryz.underlying35 (by kernel_rfl) (OpenW.Fl.cons rfl (by kernel_rfl) (OpenW.Op.int (n := n) Tryz.underlying3) (OpenW.Fl.one rfl (by kernel_rfl) (o33 n)))) _ (fun v => ⟨v.1, v.2⟩) (fun _ => rfl)) (fun v h => h)

/-- THE ONE PURE STATEMENT of octroilaw33_CheckerChecks. -/
def octroilaw33_CheckerChecks.Pure : Prop := ∀ (l0 : List (S35)) (a1 : Int) (a2 : Int), (l0.length ≤ 140737488351232 ∧ ∀ y_l0 ∈ l0, g35 y_l0) → (Lit.int .i64 a1).wf = true → (Lit.int .i64 a2).wf = true → octroilaw33_CheckerChecks.f l0 a1 a2 = some true
end Go.Proofs.YtmkalnljclhigaaGreat.YCheckerChecks
