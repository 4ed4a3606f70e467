/-
  octroiref34.total (written by mkevr.py).
-/
import Derived.Test.YtnaglnifpejpjaaGreatDoorREvA
import Derived.Test.YtnaglnifpejpjaaGreatDoorRCkA
import Derived.Test.YtnaglnifpejpjaaGreatDoorRXEvalRunsx15
namespace Go.Proofs.YtnaglnifpejpjaaGreatDoor.Ch
set_option linter.unusedVariables false
set_option linter.unusedSimpArgs false
set_option linter.unnecessarySimpa false
open Go.RowKit Go.Proofs.YtnaglnifpejpjaaGreatDoorK Go.Proofs.YtnaglnifpejpjaaGreatDoor.XEvalRuns Go.Proofs.YtnaglnifpejpjaaGreatDoorW.PrintWords Go.Proofs.YtnaglnifpejpjaaGreatDoorW.PrintLast
/-- The reference's sum is the program's. -/
def SumR : Prop := ∀ l : List Int, l.length ≤ 700 → ∃ a, octroiref01_Sum.f a l = some (Go.Proofs.YtnaglnifpejpjaaGreatDoorK.sumV l, Go.Proofs.YtnaglnifpejpjaaGreatDoorK.sumE l)
theorem sumr_any (hS : SumR) (A : Option Addr) (c : Nat) (l : List Int) (w : World) (hr : Kd.C (Kd.int .i64) w A l.length l) (hc : l.length ≤ c) (hl : l.length ≤ 700) : Calls Tryz.prog 16 #[.slice A l.length c] w fun e w' => e = .returned (.tuple #[.int .i64 (Go.Proofs.YtnaglnifpejpjaaGreatDoorK.sumV l), .int .i64 (Go.Proofs.YtnaglnifpejpjaaGreatDoorK.sumE l)]) ∧ Below w.heap.size w w' := by
 obtain ⟨a, ha⟩ := hS l hl
 exact octroiref01_Sum.calls a A c l _ _ w hr hc ha
end Go.Proofs.YtnaglnifpejpjaaGreatDoor.Ch
