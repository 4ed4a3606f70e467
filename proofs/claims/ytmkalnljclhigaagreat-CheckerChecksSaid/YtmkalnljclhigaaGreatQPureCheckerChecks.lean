import Derived.Test.YtmkalnljclhigaaGreatQYCheckerChecksxr
namespace Go.Proofs.YtmkalnljclhigaaGreat.Pure
open Go.RowKit Go.Proofs.YtmkalnljclhigaaGreat.YCheckerChecks Go.Proofs.YtmkalnljclhigaaGreatW.PrintWords Go.Proofs.YtmkalnljclhigaaGreatW.PrintLast Go.Proofs.YtmkalnljclhigaaGreat.XCheckerChecks
set_option linter.unusedVariables false
set_option linter.unusedSimpArgs false
set_option linter.unnecessarySimpa false

theorem fit_of : ∀ (m : Nat) (x : S33), u33 m x → Ch.Fit x ∧ Ch.Thin x
  | 0, x, h => h.elim
  | m + 1, ⟨k, n, f, fs, ks⟩, h => by
    obtain ⟨_, _, h2, h3, h4⟩ := h
    rw [Ch.Fit, Ch.Thin]
    exact ⟨⟨h3.1, h4.1, Ch.fitL_of fun y hy => (fit_of m y (h4.2 y hy)).1⟩, h2, fun q hq => (h3.2 q hq).1, Ch.thinL_of fun y hy => (fit_of m y (h4.2 y hy)).2⟩
theorem CheckerChecks : octroilaw33_CheckerChecks.Pure := by
  intro l0 a1 a2 h h1 h2
  unfold octroilaw33_CheckerChecks.f
  rw [if_pos ⟨h.1, fun x hx => by obtain ⟨_, m, hm⟩ := h.2 x hx; exact fit_of m _ hm, h1⟩]

end Go.Proofs.YtmkalnljclhigaaGreat.Pure
