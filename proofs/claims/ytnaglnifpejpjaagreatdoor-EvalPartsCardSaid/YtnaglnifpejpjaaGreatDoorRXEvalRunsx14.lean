-- WRITTEN BY wip/xprint.py (my own wrapper round the print, with contracts of my own in it)
import Derived.Test.YtnaglnifpejpjaaGreatDoorRXEvalRunsx0
import Derived.Test.YtnaglnifpejpjaaGreatDoorRXEvalRunsx1
import Derived.Test.YtnaglnifpejpjaaGreatDoorRXEvalRunsx11
namespace Go.Proofs.YtnaglnifpejpjaaGreatDoor.XEvalRuns
open Go.RowKit Go.Proofs.YtnaglnifpejpjaaGreatDoorW.PrintWords Go.Proofs.YtnaglnifpejpjaaGreatDoorW.PrintLast Go.Proofs.YtnaglnifpejpjaaGreatDoorW.PrintMore
attribute [local go_sem] max2_int min2_int max_two min_two max_three min_three max_four min_four   -- for this text's walks alone
set_option linter.unusedVariables false
set_option linter.unusedSimpArgs false

attribute [local go_sem high] eqA43
/-! ### octroiref34_known: function 63 -/
mutual
def octroiref34_known.l0 : Nat → Int → List (S35) → Int → Option (Int × Int)
 | 0, _, _, _ => none
 | k + 1, x0, x1, x6 => if x6 < (x1.length : Int) then (if 0 ≤ x6 then (if ((rd_T35 x1 x6).f0) = x0 then (octroiref34_known.j1 k x0 x1 x6 ((rd_T35 x1 x6).f2)) else (octroiref34_known.j1 k x0 x1 x6 false)) else (none)) else (some (0, 83))
def octroiref34_known.j1 : Nat → Int → List (S35) → Int → Bool → Option (Int × Int)
 | 0, _, _, _, _ => none
 | k + 1, x0, x1, x6, x26 => if x26 = true then (if 0 ≤ x6 then (if x6 < (x1.length : Int) then ((octroiref01_May.f ((rd_T35 x1 x6).f1)).bind fun t402 => (if t402 = true then (some ((rd_T35 x1 x6).f1, 0)) else (some (0, 2)))) else (none)) else (none)) else (octroiref34_known.l0 k x0 x1 (wrap64 (x6 + 1)))
end
def octroiref34_known.f (k : Nat) (a0 : Int) (l1 : List (S35)) : Option (Int × Int) := octroiref34_known.l0 k a0 l1 0

/-! ### octroiref25_one: function 67 -/
def octroiref25_one.f (a0 : Bool) : Option (Int) := if a0 = true then (some 1) else (some 0)

/-! ### octroiref25_Late: function 68 -/
def octroiref25_Late.f (a0_0 : Int) (a0_1 : Int) (a0_2 : Int) (a0_3 : Int) (a0_4 : Int) (a0_5 : Int) (a0_6 : ByteArray) (a0_7 : Bool) (a0_8 : Int) (a0_9 : Int) (a0_10 : Int) (a0_11 : ByteArray) (a0_12 : ByteArray) (a0_13 : Int) (a0_14 : Int) (a0_15 : Int) (a0_16 : Bool) : Option (Bool) := some (!(a0_0 == a0_3) || (!(a0_1 == a0_4) || (!(a0_2 == a0_5))))

/-! ### octroiref25_Tag: function 31 -/
def octroiref25_Tag.f (a0_0 : Int) (a0_1 : Int) (a0_2 : Int) (a0_3 : Int) (a0_4 : Int) (a0_5 : Int) (a0_6 : ByteArray) (a0_7 : Bool) (a0_8 : Int) (a0_9 : Int) (a0_10 : Int) (a0_11 : ByteArray) (a0_12 : ByteArray) (a0_13 : Int) (a0_14 : Int) (a0_15 : Int) (a0_16 : Bool) (a1 : ByteArray) : Option (Int × Bool) := if a1.toList = ([116, 114, 101, 97, 116] : List UInt8) then (some (a0_9, true)) else (if a1.toList = ([114, 97, 116, 101] : List UInt8) then (some (a0_10, true)) else (if a1.toList = ([115, 117, 112, 112, 108, 121] : List UInt8) then (some (a0_8, true)) else (if a1.toList = ([115, 97, 108, 101] : List UInt8) then ((octroiref25_one.f a0_7).bind fun t406 => (some (t406, true))) else (if a1.toList = ([108, 97, 116, 101] : List UInt8) then ((octroiref25_Late.f a0_0 a0_1 a0_2 a0_3 a0_4 a0_5 a0_6 a0_7 a0_8 a0_9 a0_10 a0_11 a0_12 a0_13 a0_14 a0_15 a0_16).bind fun t407 => ((octroiref25_one.f t407).bind fun t408 => (some (t408, true)))) else (if a1.toList = ([109, 105, 120, 101, 100] : List UInt8) then ((octroiref25_one.f a0_16).bind fun t409 => (some (t409, true))) else (some (0, false)))))))

-- NOT PRINTED: function 14 (octroiref34_Picks)

/-! ### octroiref18_Output: function 171 -/
def octroiref18_Output.f (a0 : Int) : Option (Bool) := if a0 = 1 then (some true) else (if a0 = 3 then (some true) else (if a0 = 9 then (some true) else (if a0 ≥ 12 then (some (decide (a0 ≤ 14))) else (some false))))

/-! ### octroiref18_Deducts: function 172 -/
def octroiref18_Deducts.f (a0 : Int) : Option (Bool) := if a0 ≥ 11 then (some (decide (a0 ≤ 14))) else (some false)

/-! ### octroiref25_Owed: function 140 -/
def octroiref25_Owed.f (a0_0 : Int) (a0_1 : Int) (a0_2 : Int) (a0_3 : Int) (a0_4 : Int) (a0_5 : Int) (a0_6 : ByteArray) (a0_7 : Bool) (a0_8 : Int) (a0_9 : Int) (a0_10 : Int) (a0_11 : ByteArray) (a0_12 : ByteArray) (a0_13 : Int) (a0_14 : Int) (a0_15 : Int) (a0_16 : Bool) : Option (Int) := (octroiref18_Output.f a0_9).bind fun t429 => (if t429 = true then (if a0_7 = true then (some a0_14) else ((octroiref18_Deducts.f a0_9).bind fun t430 => (if t430 = true then (some a0_14) else (some 0)))) else (some 0))

/-! ### octroiref25_Field: function 112 -/
def octroiref25_Field.f (a0_0 : Int) (a0_1 : Int) (a0_2 : Int) (a0_3 : Int) (a0_4 : Int) (a0_5 : Int) (a0_6 : ByteArray) (a0_7 : Bool) (a0_8 : Int) (a0_9 : Int) (a0_10 : Int) (a0_11 : ByteArray) (a0_12 : ByteArray) (a0_13 : Int) (a0_14 : Int) (a0_15 : Int) (a0_16 : Bool) (a1 : ByteArray) : Option (Int × Bool) := if a1.toList = ([98, 97, 115, 101] : List UInt8) then (some (a0_13, true)) else (if a1.toList = ([116, 97, 120] : List UInt8) then (some (a0_14, true)) else (if a1.toList = ([111, 117, 116] : List UInt8) then ((octroiref25_Owed.f a0_0 a0_1 a0_2 a0_3 a0_4 a0_5 a0_6 a0_7 a0_8 a0_9 a0_10 a0_11 a0_12 a0_13 a0_14 a0_15 a0_16).bind fun t432 => (some (t432, true))) else (if a1.toList = ([105, 110] : List UInt8) then (some (a0_15, true)) else (some (0, false)))))

end Go.Proofs.YtnaglnifpejpjaaGreatDoor.XEvalRuns
