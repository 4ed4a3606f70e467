/-
  A whole row of one block, loaded by one operation under an S that says its cells (the kernel's cost of a walk cell by cell is too high).
-/
import Derived.Test.YtnaglnifpejpjaaGreatDoorRWWords
import Derived.ProofKit
import Derived.Deep.MidRow
namespace Go.Proofs.YtnaglnifpejpjaaGreatDoor.RowTake
set_option linter.unusedSimpArgs false
set_option linter.unnecessarySimpa false
set_option linter.unusedVariables false
open Go.RowKit Go.Proofs.YtnaglnifpejpjaaGreatDoorW.PrintWords

/-- In straight code: a whole row is loaded by one operation. (By 'apply': the places are found one behind the other.) -/
theorem wpl_row {P : Program} {ops : Array Oper} {rest : List Oper} {o : Oper} {a : Act} {w : World} {Q : Exit → Act → World → Prop} (ty : TypeId) (x : Operand) (g : Nat) (cs : List Value) (d : TypeDesc)
 (hu : P.underlying ty = some d) (hd : d.isRow = true) (hgd : o.guard = none) (ho : o.op = .load ty x) (hx : a.eval x = .pointer (some ⟨g, 0, none⟩))
 (hg : w.heap[g]? = some (.cells cs.toArray ty (0, 0))) (hi : (P.info? ty).map (·.size) = some cs.length)
 (h : wpList P ops Q rest (a.put o.dst (.agg cs.toArray)) w) : wpList P ops Q (o :: rest) a w :=
 wpList_load_mid hgd ty x ho g 0 hx cs d (fun j v hv => by
  rw [Nat.zero_add]
  exact (blk_cell hg j).trans (by rw [List.getElem?_toArray]; exact hv)) hu hd hi h
theorem field_run {P : Program} (T i : Nat) (fs : Array Field) (f : Field) (d : TypeDesc) (hu : P.underlying T = some (.struct fs)) (hf : fs[i]? = some f) (hd : P.underlying f.type = some d) (hna : d.isRow = false)
 (cs : Array Value) (v : Value) (hv : cs[f.offset]? = some v) (w : World) : (Instr.field T (.agg cs) i).run P w = .ok v w := by
 have ha : (isAgg f.type).run P w = .ok false w := by
  unfold isAgg
  rw [Sem.run_bind, run_underlying hd w]
  cases d <;> simp_all
 unfold Instr.field
 rw [Sem.run_bind, run_underlying hu w]
 simp [hf, asAgg, part, Sem.run_bind, ha, hv]
end Go.Proofs.YtnaglnifpejpjaaGreatDoor.RowTake
