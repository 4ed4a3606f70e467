/-
  octroiref34.value (written by mkevr3.py).
-/
import Derived.Test.YtnaglnifpejpjaaGreatDoorREvr2
import Derived.Test.YtnaglnifpejpjaaGreatDoorREv4
import Derived.Test.YtnaglnifpejpjaaGreatDoorRNumS
namespace Go.Proofs.YtnaglnifpejpjaaGreatDoor.Ch
set_option linter.unusedVariables false
set_option linter.unusedSimpArgs false
set_option linter.unnecessarySimpa false
open Go.RowKit Go.Proofs.YtnaglnifpejpjaaGreatDoorK Go.Proofs.YtnaglnifpejpjaaGreatDoor.XEvalRuns Go.Proofs.YtnaglnifpejpjaaGreatDoorW.PrintWords Go.Proofs.YtnaglnifpejpjaaGreatDoorW.PrintLast
open Go.Proofs.YtnaglnifpejpjaaGreatDoorW.PrintMore in
attribute [local go_sem] max2_int min2_int max_two min_two

theorem sumR : SumR := fun l hl => Num.sum_all l hl
end Go.Proofs.YtnaglnifpejpjaaGreatDoor.Ch
