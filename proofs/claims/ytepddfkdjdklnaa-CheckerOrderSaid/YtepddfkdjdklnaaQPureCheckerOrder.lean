import Derived.Test.YtepddfkdjdklnaaQYCheckerOrderxr
namespace Go.Proofs.Ytepddfkdjdklnaa.Pure
open Go.RowKit Go.Proofs.Ytepddfkdjdklnaa.YCheckerOrder Go.Proofs.YtepddfkdjdklnaaW.PrintWords Go.Proofs.YtepddfkdjdklnaaW.PrintLast Go.Proofs.Ytepddfkdjdklnaa.PCheckerOrder
set_option linter.unusedVariables false
set_option linter.unusedSimpArgs false
set_option linter.unnecessarySimpa false

theorem fit_of : ∀ (m : Nat) (x : S41), u41 m x → Ch.Fit x
  | 0, x, h => h.elim
  | m + 1, ⟨k, n, f, fs, ks⟩, h => by
    obtain ⟨_, _, _, h3, h4⟩ := h
    rw [Ch.Fit]
    exact ⟨h3.1, h4.1, Ch.fitL_of fun y hy => fit_of m y (h4.2 y hy)⟩
theorem CheckerOrder : octroilaw33_CheckerOrder.Pure := by
  intro l0 h
  unfold octroilaw33_CheckerOrder.f
  rw [if_pos ⟨h.1, fun x hx => by obtain ⟨_, m, hm⟩ := h.2 x hx; exact fit_of m _ hm⟩]

end Go.Proofs.Ytepddfkdjdklnaa.Pure
