/-
  Short names, for texts that would else be too long for one file.
-/
import Derived.Test.YtnaglnifpejpjaaGreatDoorRWWords
import Derived.ProofKit
namespace Go.Proofs.YtnaglnifpejpjaaGreatDoor
set_option linter.unusedVariables false
set_option linter.unusedSimpArgs false
set_option linter.unnecessarySimpa false
set_option linter.defProp false
open Go.RowKit Go.Proofs.YtnaglnifpejpjaaGreatDoorW.PrintWords
theorem A0m {p : Prop} (h : p) : Aside0 p := Aside0.mk h
def bN := @pw_below_drewN
def bD := @below_drew1
def bS := @below_set
def rN := @Kd.R_drewN
def rD := @Kd.R_drew
def kN := @blk_drewN
def kF := @blk_frozen
def kC := @blk_cell
def wL := @World.block_lt_of_cell?
def dT := @of_decide_eq_true
theorem sT {α : Type} (l : List α) (i : Nat) (a : α) : l.toArray.setIfInBounds i a = (l.set i a).toArray := by simp
theorem sZ {α : Type} (a b : α) (l : List α) : (a :: l).set 0 b = b :: l := rfl
theorem sS {α : Type} (a b : α) (i : Nat) (l : List α) : (a :: l).set (i + 1) b = a :: l.set i b := rfl
def kD := @blk_drew
end Go.Proofs.YtnaglnifpejpjaaGreatDoor
