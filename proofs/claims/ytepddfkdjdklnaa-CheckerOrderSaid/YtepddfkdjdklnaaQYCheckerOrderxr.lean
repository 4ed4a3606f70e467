-- WRITTEN BY wip/xprint.py (my own wrapper round the print, with contracts of my own in it)
import Derived.Test.YtepddfkdjdklnaaQYCheckerOrderx1
import Derived.Test.YtepddfkdjdklnaaQOpenW
namespace Go.Proofs.Ytepddfkdjdklnaa.YCheckerOrder
open Go.RowKit Go.Proofs.YtepddfkdjdklnaaW.PrintWords Go.Proofs.YtepddfkdjdklnaaW.PrintLast Go.Proofs.Ytepddfkdjdklnaa.PCheckerOrder
set_option linter.unusedVariables false
set_option linter.unusedSimpArgs false

def g64 (x : S64) : Prop := x.f0.size ≤ 140737488351232 ∧ (Lit.int .u8 x.f1).wf = true ∧ (Lit.int .i64 x.f2).wf = true
theorem o64 : ∀ n, OpenW.Op Try.prog n 64 k64 g64 := by
  intro n
  cases n with
  | zero => exact OpenW.Op.zero
  | succ n => exact OpenW.Op.mono (OpenW.Op.iso (OpenW.Op.struct Try.underlying64 (by kernel_rfl) (OpenW.Fl.cons rfl (by kernel_rfl) (OpenW.Op.string (n := n) Try.underlying9) (OpenW.Fl.cons rfl (by kernel_rfl) (OpenW.Op.int (n := n) Try.underlying5) (OpenW.Fl.one rfl (by kernel_rfl) (OpenW.Op.int (n := n) Try.underlying3))))) _ (fun v => ⟨v.1, v.2.1, v.2.2⟩) (fun _ => rfl)) (fun v h => h)

def h41 (G : S41 → Prop) (x : S41) : Prop := (Lit.int .i64 x.f0).wf = true ∧ (Lit.int .i64 x.f1).wf = true ∧ x.f2.size ≤ 140737488351232 ∧ (x.f3.length ≤ 140737488351232 ∧ ∀ y_x_f3 ∈ x.f3, g64 y_x_f3) ∧ (x.f4.length ≤ 140737488351232 ∧ ∀ y ∈ x.f4, G y)
def u41 : Nat → S41 → Prop
  | 0 => fun _ => False
  | m + 1 => h41 (u41 m)
def g41 (x : S41) : Prop := ∃ m, u41 m x
theorem p41 : ∀ m n, n ≤ m → OpenW.Op Try.prog n 41 (Kd.upto F41 5 [41, 64] m) (u41 m) := by
  intro m
  induction m with
  | zero =>
    intro n hn
    obtain rfl : n = 0 := by omega
    exact OpenW.Op.zero
  | succ m ih =>
    intro n hn
    cases n with
    | zero => exact OpenW.Op.zero
    | succ n => exact OpenW.Op.mono (OpenW.Op.iso (OpenW.Op.struct Try.underlying41 (by kernel_rfl) (OpenW.Fl.cons rfl (by kernel_rfl) (OpenW.Op.int (n := n) Try.underlying3) (OpenW.Fl.cons rfl (by kernel_rfl) (OpenW.Op.int (n := n) Try.underlying3) (OpenW.Fl.cons rfl (by kernel_rfl) (OpenW.Op.string (n := n) Try.underlying9) (OpenW.Fl.cons rfl (by kernel_rfl) (OpenW.Op.slice (n := n) Try.underlying38 (by kernel_rfl) (by kernel_rfl) z64 (fun m_ hm_ => (o64 m_))) (OpenW.Fl.one rfl (by kernel_rfl) (OpenW.Op.slice (n := n) Try.underlying39 (by rw [sz41]; kernel_rfl) (by kernel_rfl) z41 (fun j_ hj_ => ih j_ (by omega))))))))) _ (fun v => ⟨v.1, v.2.1, v.2.2.1, v.2.2.2.1, v.2.2.2.2⟩) (fun _ => rfl)) (fun v h => h)
theorem o41 (n : Nat) : OpenW.Op Try.prog n 41 k41 g41 := by
  intro H enc w base held cs x h hlt
  obtain ⟨v, h1, h2⟩ := p41 n n (Nat.le_refl _) h hlt
  exact ⟨v, ⟨n, h1⟩, ⟨n, h2⟩⟩

def g43 (x : S43) : Prop := (Lit.int .i64 x.f0).wf = true ∧ g41 x.f1
theorem o43 : ∀ n, OpenW.Op Try.prog n 43 k43 g43 := by
  intro n
  cases n with
  | zero => exact OpenW.Op.zero
  | succ n => exact OpenW.Op.mono (OpenW.Op.iso (OpenW.Op.struct Try.underlying43 (by kernel_rfl) (OpenW.Fl.cons rfl (by kernel_rfl) (OpenW.Op.int (n := n) Try.underlying3) (OpenW.Fl.one rfl (by kernel_rfl) (o41 n)))) _ (fun v => ⟨v.1, v.2⟩) (fun _ => rfl)) (fun v h => h)

/-- THE ONE PURE STATEMENT of octroilaw33_CheckerOrder. -/
def octroilaw33_CheckerOrder.Pure : Prop := ∀ (l0 : List (S43)), (l0.length ≤ 140737488351232 ∧ ∀ y_l0 ∈ l0, g43 y_l0) → octroilaw33_CheckerOrder.f l0 = some true
end Go.Proofs.Ytepddfkdjdklnaa.YCheckerOrder
