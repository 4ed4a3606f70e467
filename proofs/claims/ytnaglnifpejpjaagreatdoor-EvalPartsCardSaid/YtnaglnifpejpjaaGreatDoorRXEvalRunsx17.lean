-- WRITTEN BY wip/xprint.py (my own wrapper round the print, with contracts of my own in it)
import Derived.Test.YtnaglnifpejpjaaGreatDoorRXEvalRunsx0
import Derived.Test.YtnaglnifpejpjaaGreatDoorRXEvalRunsx16
namespace Go.Proofs.YtnaglnifpejpjaaGreatDoor.XEvalRuns
open Go.RowKit Go.Proofs.YtnaglnifpejpjaaGreatDoorW.PrintWords Go.Proofs.YtnaglnifpejpjaaGreatDoorW.PrintLast Go.Proofs.YtnaglnifpejpjaaGreatDoorW.PrintMore
attribute [local go_sem] max2_int min2_int max_two min_two max_three min_three max_four min_four   -- for this text's walks alone
set_option linter.unusedVariables false
set_option linter.unusedSimpArgs false

/-! ### octroiref31_right: function 62 -/
mutual
def octroiref31_right.j0 : Nat → Bool → Int → Int → ByteArray → List (S70) → List (S25) → Option (Bool)
 | 0, _, _, _, _, _, _ => none
 | k + 1, x28, x475000, x475001, x475002, x475003, x475004 => if x28 = true then (some false) else (if x475000 = 1 then ((octroiref31_number.f x475001).bind fun t476 => (some t476)) else (if x475000 = 2 then ((octroiref31_BoxNumber.f x475001).bind fun t477 => (some t477)) else (if x475000 = 3 then (octroiref31_right.l0 k 0 x475000 x475001 x475002 x475003 x475004) else (octroiref31_right.l1 k 0 x475000 x475001 x475002 x475003 x475004))))
def octroiref31_right.l0 : Nat → Int → Int → Int → ByteArray → List (S70) → List (S25) → Option (Bool)
 | 0, _, _, _, _, _, _ => none
 | k + 1, x3, x475000, x475001, x475002, x475003, x475004 => if x3 < (x475003.length : Int) then (if 0 ≤ x3 then ((octroiref31_Name.f k ((rd_T70 x475003 x3).f0)).bind fun t481 => (if t481 = true then (if ((rd_T70 x475003 x3).f1) = 61 then ((octroiref31_number.f ((rd_T70 x475003 x3).f2)).bind fun t482 => (if t482 = true then (octroiref31_right.l0 k (wrap64 (x3 + 1)) x475000 x475001 x475002 x475003 x475004) else (some false))) else (if ((rd_T70 x475003 x3).f1) = 60 then ((octroiref31_number.f ((rd_T70 x475003 x3).f2)).bind fun t483 => (if t483 = true then (octroiref31_right.l0 k (wrap64 (x3 + 1)) x475000 x475001 x475002 x475003 x475004) else (some false))) else (if ((rd_T70 x475003 x3).f1) = 62 then ((octroiref31_number.f ((rd_T70 x475003 x3).f2)).bind fun t484 => (if t484 = true then (octroiref31_right.l0 k (wrap64 (x3 + 1)) x475000 x475001 x475002 x475003 x475004) else (some false))) else (some false)))) else (some false))) else (none)) else (if x475001 = 0 then ((octroiref31_Name.f k x475002).bind fun t478 => (if t478 = true then (some (decide ((x475003.length : Int) ≤ 16))) else (some false))) else (some false))
def octroiref31_right.l1 : Nat → Int → Int → Int → ByteArray → List (S70) → List (S25) → Option (Bool)
 | 0, _, _, _, _, _, _ => none
 | k + 1, x5, x475000, x475001, x475002, x475003, x475004 => if x5 < (x475004.length : Int) then (if 0 ≤ x5 then ((octroiref31_right.f k ((rd_T25 x475004 x5).f0) ((rd_T25 x475004 x5).f1) ((rd_T25 x475004 x5).f2) ((rd_T25 x475004 x5).f3) ((rd_T25 x475004 x5).f4)).bind fun t486 => (if t486 = true then (octroiref31_right.l1 k (wrap64 (x5 + 1)) x475000 x475001 x475002 x475003 x475004) else (some false))) else (none)) else (some (x475001 == 0))
def octroiref31_right.f : Nat → Int → Int → ByteArray → List (S70) → List (S25) → Option (Bool)
 | 0, _, _, _, _, _ => none
 | k + 1, a0_0, a0_1, a0_2, l0_3, l0_4 => (octroiref31_many.f k a0_0).bind fun t475 => (if (l0_4.length : Int) = t475 then (if a0_0 = 3 then (octroiref31_right.j0 k false a0_0 a0_1 a0_2 l0_3 l0_4) else (if a0_2.toList = ([] : List UInt8) then (octroiref31_right.j0 k (decide ((l0_3.length : Int) > 0)) a0_0 a0_1 a0_2 l0_3 l0_4) else (octroiref31_right.j0 k true a0_0 a0_1 a0_2 l0_3 l0_4))) else (octroiref31_right.j0 k true a0_0 a0_1 a0_2 l0_3 l0_4))
end

end Go.Proofs.YtnaglnifpejpjaaGreatDoor.XEvalRuns
