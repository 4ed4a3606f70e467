-- WRITTEN BY wip/xprint.py (my own wrapper round the print, with contracts of my own in it)
import Derived.Test.YtnaglnifpejpjaaGreatDoorRXEvalRunsx0
import Derived.Test.YtnaglnifpejpjaaGreatDoorRXEvalRunsx3
import Derived.Test.YtnaglnifpejpjaaGreatDoorRXEvalRunsx17
namespace Go.Proofs.YtnaglnifpejpjaaGreatDoor.XEvalRuns
open Go.RowKit Go.Proofs.YtnaglnifpejpjaaGreatDoorW.PrintWords Go.Proofs.YtnaglnifpejpjaaGreatDoorW.PrintLast Go.Proofs.YtnaglnifpejpjaaGreatDoorW.PrintMore
attribute [local go_sem] max2_int min2_int max_two min_two max_three min_three max_four min_four   -- for this text's walks alone
set_option linter.unusedVariables false
set_option linter.unusedSimpArgs false

/-! ### octroiref31_GoodExpr: function 28 -/
def octroiref31_GoodExpr.f (k : Nat) (a0_0 : Int) (a0_1 : Int) (a0_2 : ByteArray) (l0_3 : List (S70)) (l0_4 : List (S25)) : Option (Bool) := (octroiref31_Deep.f k a0_0 a0_1 a0_2 l0_3 l0_4 64).bind fun t488 => (if t488 ≤ 64 then ((octroiref31_right.f k a0_0 a0_1 a0_2 l0_3 l0_4).bind fun t489 => (some t489)) else (some false))

end Go.Proofs.YtnaglnifpejpjaaGreatDoor.XEvalRuns
