import Derived.Test.YtmkalnljclhigaaGreatQK
/-! More small words: 'Below' over a new block, a store in a new block. -/
namespace Go.Proofs.YtmkalnljclhigaaGreatK
set_option linter.unusedVariables false
set_option linter.unusedSimpArgs false
open Go.RowKit
theorem s_alloc {w W : World} (h : Below w.heap.size w W) (o : Obj) : Below w.heap.size w (W.alloc o) := h.alloc h.size o
theorem s_set {w W : World} (h : Below w.heap.size w W) (a : Addr) (v : Value) (hle : w.heap.size ≤ a.block) : Below w.heap.size w (W.setCell a v) := h.setCell hle v
theorem block_alloc {w : World} {g : Nat} {x : Obj} (h : w.heap[g]? = some x) (o : Obj) : (w.alloc o).heap[g]? = some x := by
  have hg : g < w.heap.size := by rw [Array.getElem?_eq_some_iff] at h; exact h.1
  rw [← h]
  exact Array.getElem?_push_lt hg |>.trans (by rw [Array.getElem?_eq_getElem hg])
theorem block_on {w w1 : World} {g : Nat} {x : Obj} (h : Below w.heap.size w w1) (hg : w.heap[g]? = some x) : w1.heap[g]? = some x := by
  rw [h.block _ (by rw [Array.getElem?_eq_some_iff] at hg; exact hg.1)]
  exact hg
theorem block_lt {w : World} {g : Nat} {x : Obj} (h : w.heap[g]? = some x) : g < w.heap.size := by rw [Array.getElem?_eq_some_iff] at h; exact h.1
theorem cells1 {w : World} {g : Nat} {a0 : Value} {t : TypeId} (h : w.heap[g]? = some (.cells #[a0] t (0, 0))) : w.cell? ⟨g, 0, none⟩ = some a0 := by simp [World.cell?, h]
theorem blockFree {w : World} {g : Nat} {C : Array Value} {t : TypeId} (h : w.heap[g]? = some (.cells C t (0, 0))) (i : Nat) : w.frozen? ⟨g, i, none⟩ = false := by simp [World.frozen?, h]
end Go.Proofs.YtmkalnljclhigaaGreatK
