import Derived.Test.YtepddfkdjdklnaaQYCheckerNobodyxr
namespace Go.Proofs.Ytepddfkdjdklnaa.Pure
open Go.RowKit Go.Proofs.Ytepddfkdjdklnaa.YCheckerNobody Go.Proofs.YtepddfkdjdklnaaW.PrintWords Go.Proofs.YtepddfkdjdklnaaW.PrintLast
set_option linter.unusedVariables false
set_option linter.unusedSimpArgs false
set_option linter.unnecessarySimpa false

theorem CheckerNobody : octroilaw33_CheckerNobody.Pure := by
  intro a0 _
  rfl

end Go.Proofs.Ytepddfkdjdklnaa.Pure
