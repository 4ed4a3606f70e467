/-
  Short names, for texts that would else be too long for one file.
-/
import Derived.Test.YtlciddgncngniaaDoorWWords
import Derived.ProofKit
namespace Go.Proofs.YtlciddgncngniaaDoor
set_option linter.defProp false
open Go.RowKit Go.Proofs.YtlciddgncngniaaDoorW.PrintWords
theorem A0m {p : Prop} (h : p) : Aside0 p := Aside0.mk h
def bA := @below_alloc
def bN := @pw_below_drewN
def bD := @below_drew1
def bS := @below_set
def rA := @Kd.R_alloc
def rN := @Kd.R_drewN
def rD := @Kd.R_drew
def kA := @blk_alloc
def kN := @blk_drewN
def kD := @blk_drew
theorem set_drewN (w : World) (n : Nat) (a : Addr) (v : Value) : (w.drewN n).setCell a v = (w.setCell a v).drewN n := by
  unfold World.setCell
  first | rfl | (simp only [World.drewN]; split <;> rfl) | (simp [World.drewN]; split <;> rfl)
/-- A cell's fact behind draws that lie under writes: by the worlds' own equation, not by unfolding. -/
theorem cell_eqd {w w' : World} {n : Nat} {a : Addr} {v : Value} (e : w' = w.drewN n) (h : w.cell? a = some v) : w'.cell? a = some v := by
  subst e
  exact h
end Go.Proofs.YtlciddgncngniaaDoor
