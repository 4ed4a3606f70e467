/-
  A whole row of one block, loaded by one operation under an S that says its cells (the kernel's cost of a walk cell by cell is too high).
-/
import Derived.Test.YtbjoegladcmibaaWWords
import Derived.ProofKit
import Derived.Deep.MidRow
namespace Go.Proofs.Ytbjoegladcmibaa.RowTake
set_option linter.unusedVariables false
open Go.RowKit Go.Proofs.YtbjoegladcmibaaW.PrintWords

/-- The cells cs lie in block b from o on, as one right-nested conjunction. -/
def cellsAll (w : World) (b : Nat) : Nat → List Value → Prop
  | _, [] => True
  | o, [c] => w.cell? ⟨b, o, none⟩ = some c
  | o, c :: d :: cs => w.cell? ⟨b, o, none⟩ = some c ∧ cellsAll w b (o + 1) (d :: cs)

theorem cellsAll_range {w : World} {b : Nat} : ∀ {cs : List Value} {o : Nat}, cellsAll w b o cs → w.rangeAt b o cs
  | [], _, _ => fun j v hv => by simp at hv
  | [c], o, h => fun j v hv => by
    cases j with
    | zero => simp at hv; subst hv; exact h
    | succ j => simp at hv
  | c :: d :: cs, o, h => fun j v hv => by
    cases j with
    | zero => simp at hv; subst hv; exact h.1
    | succ j =>
      have h2 := cellsAll_range h.2 j v (by simpa using hv)
      rw [show o + (j + 1) = o + 1 + j by omega]
      exact h2

theorem row_take {P : Program} {op : Oper} {ev : Operand → Value} {w : World} (ty : TypeId) (x : Operand) (ho : op.op = .load ty x) (b : Nat)
    (hx : ev x = .pointer (some ⟨b, 0, none⟩)) (cs : List Value) (d : TypeDesc) (hc : cellsAll w b 0 cs)
    (hu : P.underlying ty = some d) (hd : d.isRow = true) (hi : (P.info? ty).map (·.size) = some cs.length) : (execOp ev op).run P w = .ok (.value (.agg cs.toArray)) w := by
  unfold execOp
  simp only [ho, hx, Instr.loadAt, Instr.sureAddr, Sem.run_bind, Sem.run_pure, Result.andThen_ok, run_loadVar_mid w b 0 ty cs d (cellsAll_range hc) hu hd hi]

theorem row_take2 {P : Program} {op : Oper} {ev : Operand → Value} {w : World} {res : Result Next} (ty : TypeId) (x : Operand) (b : Nat) (cs : List Value) (d : TypeDesc)
    (hu : P.underlying ty = some d) (hd : d.isRow = true) (ho : op.op = .load ty x) (hx : ev x = .pointer (some ⟨b, 0, none⟩)) (hc : cellsAll w b 0 cs)
    (hi : (P.info? ty).map (·.size) = some cs.length) (hr : Result.ok (Next.value (.agg cs.toArray)) w = res) : (execOp ev op).run P w = res :=
  (row_take ty x ho b hx cs d hc hu hd hi).trans hr
/-- In straight code: a whole row is loaded by one operation. (By 'apply': the places are found one behind the other.) -/
theorem wpl_row {P : Program} {ops : Array Oper} {rest : List Oper} {o : Oper} {a : Act} {w : World} {Q : Exit → Act → World → Prop} (ty : TypeId) (x : Operand) (g : Nat) (cs : List Value) (d : TypeDesc)
    (hu : P.underlying ty = some d) (hd : d.isRow = true) (hgd : o.guard = none) (ho : o.op = .load ty x) (hx : a.eval x = .pointer (some ⟨g, 0, none⟩))
    (hg : w.heap[g]? = some (.cells cs.toArray ty (0, 0))) (hi : (P.info? ty).map (·.size) = some cs.length)
    (h : wpList P ops Q rest (a.put o.dst (.agg cs.toArray)) w) : wpList P ops Q (o :: rest) a w :=
  wpList_load_mid hgd ty x ho g 0 hx cs d (fun j v hv => by
    rw [Nat.zero_add]
    exact (blk_cell hg j).trans (by rw [List.getElem?_toArray]; exact hv)) hu hd hi h
/-- A cell of a block whose row is a list: the list says it (cheap for the kernel where the row is long). -/
theorem blk_at {w : World} {g : Nat} {t : TypeId} {cs : List Value} (h : w.heap[g]? = some (.cells cs.toArray t (0, 0))) (i : Nat) {v : Value} (hv : cs[i]? = some v) :
    w.cell? ⟨g, i, none⟩ = some v := (blk_cell h i).trans (by rw [List.getElem?_toArray]; exact hv)
theorem field_run {P : Program} (T i : Nat) (fs : Array Field) (f : Field) (d : TypeDesc) (hu : P.underlying T = some (.struct fs)) (hf : fs[i]? = some f) (hd : P.underlying f.type = some d) (hna : d.isRow = false)
    (cs : Array Value) (v : Value) (hv : cs[f.offset]? = some v) (w : World) : (Instr.field T (.agg cs) i).run P w = .ok v w := by
  have ha : (isAgg f.type).run P w = .ok false w := by
    unfold isAgg
    rw [Sem.run_bind, run_underlying hd w]
    cases d <;> simp_all
  unfold Instr.field
  rw [Sem.run_bind, run_underlying hu w]
  simp [hf, asAgg, part, Sem.run_bind, ha, hv]
end Go.Proofs.Ytbjoegladcmibaa.RowTake
