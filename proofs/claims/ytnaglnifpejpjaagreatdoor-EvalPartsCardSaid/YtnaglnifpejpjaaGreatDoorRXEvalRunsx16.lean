-- WRITTEN BY wip/xprint.py (my own wrapper round the print, with contracts of my own in it)
import Derived.Test.YtnaglnifpejpjaaGreatDoorRXEvalRunsx0
namespace Go.Proofs.YtnaglnifpejpjaaGreatDoor.XEvalRuns
open Go.RowKit Go.Proofs.YtnaglnifpejpjaaGreatDoorW.PrintWords Go.Proofs.YtnaglnifpejpjaaGreatDoorW.PrintLast Go.Proofs.YtnaglnifpejpjaaGreatDoorW.PrintMore
attribute [local go_sem] max2_int min2_int max_two min_two max_three min_three max_four min_four   -- for this text's walks alone
set_option linter.unusedVariables false
set_option linter.unusedSimpArgs false

/-! ### octroiref31_many: function 107 -/
mutual
def octroiref31_many.j0 : Nat → Int → Bool → Option (Int)
 | 0, _, _ => none
 | k + 1, x3, x4 => if x4 = true then (some 0) else (if x3 = 6 then (some 1) else (if x3 = 4 then (octroiref31_many.j1 k x3 (x3 == 4)) else (if x3 = 5 then (octroiref31_many.j1 k x3 (x3 == 5)) else (if x3 = 7 then (octroiref31_many.j1 k x3 (x3 == 7)) else (octroiref31_many.j1 k x3 (x3 == 8))))))
def octroiref31_many.j1 : Nat → Int → Bool → Option (Int)
 | 0, _, _ => none
 | k + 1, x3, x10 => if x10 = true then (some 2) else (if x3 = 9 then (some 3) else (some (-1)))
end
def octroiref31_many.f (k : Nat) (a0 : Int) : Option (Int) := if a0 = 1 then (octroiref31_many.j0 k a0 (a0 == 1)) else (if a0 = 2 then (octroiref31_many.j0 k a0 (a0 == 2)) else (octroiref31_many.j0 k a0 (a0 == 3)))

/-! ### octroiref31_number: function 108 -/
def octroiref31_number.f (a0 : Int) : Option (Bool) := if a0 ≥ 0 then (some (decide (a0 ≤ 999999999999999999))) else (some false)

/-! ### octroiref31_BoxNumber: function 109 -/
def octroiref31_BoxNumber.f (a0 : Int) : Option (Bool) := if a0 ≥ 1 then (some (decide (a0 ≤ 9999))) else (some false)

/-! ### octroiref30_Keyword: function 139 -/
def octroiref30_Keyword.f (a0 : ByteArray) : Option (Bool) := if a0.toList = ([98, 111, 120] : List UInt8) then (some true) else (if a0.toList = ([115, 117, 109] : List UInt8) then (some true) else (if a0.toList = ([109, 105, 110] : List UInt8) then (some true) else (if a0.toList = ([109, 97, 120] : List UInt8) then (some true) else (some (a0.toList == ([99, 108, 97, 109, 112] : List UInt8))))))

/-! ### octroiref31_Name: function 110 -/
def octroiref31_Name.l0 : Nat → ByteArray → Int → Option (Bool)
 | 0, _, _ => none
 | k + 1, x0, x3 => if x3 < (x0.size : Int) then (if 0 ≤ x3 then (if (bt x0 x3) < 97 then (some false) else (if (bt x0 x3) > 122 then (some false) else (octroiref31_Name.l0 k x0 (wrap64 (x3 + 1))))) else (none)) else (if (x0.size : Int) ≥ 1 then (if (x0.size : Int) ≤ 32 then ((octroiref30_Keyword.f x0).bind fun t473 => (some (!t473))) else (some false)) else (some false))
def octroiref31_Name.f (k : Nat) (a0 : ByteArray) : Option (Bool) := octroiref31_Name.l0 k a0 0

end Go.Proofs.YtnaglnifpejpjaaGreatDoor.XEvalRuns
