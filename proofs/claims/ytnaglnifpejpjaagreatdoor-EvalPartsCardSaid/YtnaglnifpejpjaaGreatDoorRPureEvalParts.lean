import Derived.Test.YtnaglnifpejpjaaGreatDoorRYEvalPartsxr
namespace Go.Proofs.YtnaglnifpejpjaaGreatDoor.Pure
open Go.RowKit Go.Proofs.YtnaglnifpejpjaaGreatDoor.YEvalParts Go.Proofs.YtnaglnifpejpjaaGreatDoorW.PrintWords Go.Proofs.YtnaglnifpejpjaaGreatDoorW.PrintLast Go.Proofs.YtnaglnifpejpjaaGreatDoor.XEvalRuns
set_option linter.unusedVariables false
set_option linter.unusedSimpArgs false
set_option linter.unnecessarySimpa false

theorem fit_of : ∀ (m : Nat) (x : S25), u25 m x → Ch.Fit x ∧ Ch.Thin x
 | 0, x, h => h.elim
 | m + 1, ⟨k, n, f, fs, ks⟩, h => by
   obtain ⟨_, _, h2, h3, h4⟩ := h
   rw [Ch.Fit, Ch.Thin]
   exact ⟨⟨h3.1, h4.1, Ch.fitL_of fun y hy => (fit_of m y (h4.2 y hy)).1⟩, h2, fun q hq => (h3.2 q hq).1, Ch.thinL_of fun y hy => (fit_of m y (h4.2 y hy)).2⟩
theorem EvalParts : octroilaw34_EvalParts.Pure := by
 intro x0 l1 l2 h0 h1 h2
 obtain ⟨m, hm⟩ := h0
 have hx := fit_of m x0 hm
 obtain ⟨f0, f1, f2, f3, f4⟩ := x0
 show octroilaw34_EvalParts.f f0 f1 f2 f3 f4 l1 l2 = some true
 have hG : octroilaw34_EvalParts.Good ⟨f0, f1, f2, f3, f4⟩ l1 l2 := ⟨hx.1, hx.2, ⟨h1.1, fun r hr => by
  obtain ⟨_, _, a, _, _, _, _, b, c, _⟩ := h1.2 r hr
  exact ⟨a, b, c⟩⟩, ⟨h2.1, fun r hr => by
  obtain ⟨_, _, a, _, _, _, _, b, c, _⟩ := h2.2 r hr
  exact ⟨a, b, c⟩⟩⟩
 unfold octroilaw34_EvalParts.f
 rw [if_pos hG]

end Go.Proofs.YtnaglnifpejpjaaGreatDoor.Pure
