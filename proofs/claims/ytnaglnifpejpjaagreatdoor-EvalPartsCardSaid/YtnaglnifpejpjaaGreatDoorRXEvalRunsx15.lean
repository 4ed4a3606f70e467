-- WRITTEN BY wip/xprint.py (my own wrapper round the print, with contracts of my own in it)
import Derived.Test.YtnaglnifpejpjaaGreatDoorRXEvalRunsx0
import Derived.Test.YtnaglnifpejpjaaGreatDoorRXEvalRunsx11
import Derived.Test.YtnaglnifpejpjaaGreatDoorRXEvalRunsx12
import Derived.Test.YtnaglnifpejpjaaGreatDoorRXEvalRunsx13
import Derived.Test.YtnaglnifpejpjaaGreatDoorRXEvalRunsx14
namespace Go.Proofs.YtnaglnifpejpjaaGreatDoor.XEvalRuns
open Go.RowKit Go.Proofs.YtnaglnifpejpjaaGreatDoorW.PrintWords Go.Proofs.YtnaglnifpejpjaaGreatDoorW.PrintLast Go.Proofs.YtnaglnifpejpjaaGreatDoorW.PrintMore
attribute [local go_sem] max2_int min2_int max_two min_two max_three min_three max_four min_four   -- for this text's walks alone
set_option linter.unusedVariables false
set_option linter.unusedSimpArgs false

/-! ### octroiref33_Names: function 111 -/
mutual
def octroiref33_Names.l0 : Nat → Bool → Int → Int → Int → ByteArray → List (S70) → List (S25) → Option (Bool)
 | 0, _, _, _, _, _, _, _ => none
 | k + 1, x4, x5, x434000, x434001, x434002, x434003, x434004 => if x5 < (x434003.length : Int) then (if 0 ≤ x5 then ((octroiref25_Tag.f 0 0 0 0 0 0 (⟨#[]⟩ : ByteArray) false 0 0 0 (⟨#[]⟩ : ByteArray) (⟨#[]⟩ : ByteArray) 0 0 0 false ((rd_T70 x434003 x5).f0)).bind fun bt437 => (if x4 = true then (octroiref33_Names.l0 k bt437.2 (wrap64 (x5 + 1)) x434000 x434001 x434002 x434003 x434004) else (octroiref33_Names.l0 k false (wrap64 (x5 + 1)) x434000 x434001 x434002 x434003 x434004))) else (none)) else (some x4)
def octroiref33_Names.l1 : Nat → Int → Int → Int → ByteArray → List (S70) → List (S25) → Option (Bool)
 | 0, _, _, _, _, _, _ => none
 | k + 1, x8, x434000, x434001, x434002, x434003, x434004 => if x8 < (x434004.length : Int) then (if 0 ≤ x8 then ((octroiref33_Names.f k ((rd_T25 x434004 x8).f0) ((rd_T25 x434004 x8).f1) ((rd_T25 x434004 x8).f2) ((rd_T25 x434004 x8).f3) ((rd_T25 x434004 x8).f4)).bind fun t440 => (if t440 = true then (octroiref33_Names.l1 k (wrap64 (x8 + 1)) x434000 x434001 x434002 x434003 x434004) else (some false))) else (none)) else (some true)
def octroiref33_Names.f : Nat → Int → Int → ByteArray → List (S70) → List (S25) → Option (Bool)
 | 0, _, _, _, _, _ => none
 | k + 1, a0_0, a0_1, a0_2, l0_3, l0_4 => if a0_0 = 3 then ((octroiref25_Field.f 0 0 0 0 0 0 (⟨#[]⟩ : ByteArray) false 0 0 0 (⟨#[]⟩ : ByteArray) (⟨#[]⟩ : ByteArray) 0 0 0 false a0_2).bind fun bt434 => (octroiref33_Names.l0 k bt434.2 0 a0_0 a0_1 a0_2 l0_3 l0_4)) else (octroiref33_Names.l1 k 0 a0_0 a0_1 a0_2 l0_3 l0_4)
end

-- NOT PRINTED: function 64 (octroiref34_total)

/-! ### octroiref01_Turn: function 113 -/
def octroiref01_Turn.f (a0_0 : Bool) (l0_1 : List Int) : Option (Bool × List Int) := if (l0_1.length : Int) = 0 then (some (a0_0, l0_1)) else (some (!a0_0, l0_1))

/-! ### octroiref01_Sub: function 65 -/
def octroiref01_Sub.j0 : Nat → Int → Int → Bool → Option (Int × Int)
 | 0, _, _, _ => none
 | k + 1, x0, x1, x15 => if x15 = true then (some (0, 2)) else ((octroiref01_Of.f k x0).bind fun bt450 => ((octroiref01_Of.f k x1).bind fun bt454 => ((octroiref01_Turn.f bt454.1 bt454.2).bind fun bt458 => ((octroiref01_Add.f k bt450.1 bt450.2 bt458.1 bt458.2).bind fun bt462 => ((octroiref01_Int.f k bt462.1 bt462.2).bind fun bt466 => (if bt466.2 = true then (some (bt466.1, 0)) else (some (0, 3))))))))
def octroiref01_Sub.f (k : Nat) (a0 : Int) (a1 : Int) : Option (Int × Int) := (octroiref01_May.f a0).bind fun t448 => (if t448 = true then ((octroiref01_May.f a1).bind fun t449 => (octroiref01_Sub.j0 k a0 a1 (!t449))) else (octroiref01_Sub.j0 k a0 a1 true))

-- NOT PRINTED: function 29 (octroiref34_value)

/-! ### octroiref33_all: function 86 -/
def octroiref33_all.l0 : Nat → List Int → List Bool → Int → Option (Bool)
 | 0, _, _, _ => none
 | k + 1, x0, x1, x5 => if x5 < (x0.length : Int) then (if 0 ≤ x5 then (if 0 ≤ (rd x0 x5) then (if (rd x0 x5) < (x1.length : Int) then (if (rdOf false x1 (rd x0 x5) = true) then (octroiref33_all.l0 k x0 x1 (wrap64 (x5 + 1))) else (some false)) else (none)) else (none)) else (none)) else (some true)
def octroiref33_all.f (k : Nat) (l0 : List Int) (l1 : List Bool) : Option (Bool) := octroiref33_all.l0 k l0 l1 0

end Go.Proofs.YtnaglnifpejpjaaGreatDoor.XEvalRuns
