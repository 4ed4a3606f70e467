-- WRITTEN BY wip/xprint.py (my own wrapper round the print, with contracts of my own in it)
import Derived.Test.YtepddfkdjdklnaaQYCheckerNobodyx1
import Derived.Test.YtepddfkdjdklnaaQWWords
import Derived.ProofKit
import Derived.OpenShut
import Derived.ChangeOld
import Derived.SizedLaws
import Derived.Deep.Slices
import Derived.Lib.SmallJoins
namespace Go.Proofs.Ytepddfkdjdklnaa.YCheckerNobody
open Go.RowKit Go.Proofs.YtepddfkdjdklnaaW.PrintWords Go.Proofs.YtepddfkdjdklnaaW.PrintLast
set_option linter.unusedVariables false
set_option linter.unusedSimpArgs false

/-- THE ONE PURE STATEMENT of octroilaw33_CheckerNobody. -/
def octroilaw33_CheckerNobody.Pure : Prop := ∀ (a0 : Int), (Lit.int .i64 a0).wf = true → octroilaw33_CheckerNobody.f a0 = some true
end Go.Proofs.Ytepddfkdjdklnaa.YCheckerNobody
