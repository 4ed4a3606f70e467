import Derived.Test.YtbjoegladcmibaaQK
/-! More small words: 'Below' over a new block, a store in a new block. -/
namespace Go.Proofs.YtbjoegladcmibaaK
set_option linter.unusedVariables false
set_option linter.unusedSimpArgs false
open Go.RowKit
theorem s_alloc {w W : World} (h : Below w.heap.size w W) (o : Obj) : Below w.heap.size w (W.alloc o) := h.alloc h.size o
theorem s_drewN {B : Nat} {w W : World} (h : Below B w W) (n : Nat) : Below B w (W.drewN n) := ⟨h.os, h.tape, h.output, h.size, h.block⟩
theorem s_set {w W : World} (h : Below w.heap.size w W) (a : Addr) (v : Value) (hle : w.heap.size ≤ a.block) : Below w.heap.size w (W.setCell a v) := h.setCell hle v
theorem block_kept {w w1 : World} {C : Array Value} {t : TypeId} (h : Below (w.alloc (.cells C t)).heap.size (w.alloc (.cells C t)) w1) : w1.heap[w.heap.size]? = some (.cells C t (0, 0)) := by
  rw [h.block _ (by simp)]
  exact Array.getElem?_push_size
theorem block_alloc {w : World} {g : Nat} {x : Obj} (h : w.heap[g]? = some x) (o : Obj) : (w.alloc o).heap[g]? = some x := by
  have hg : g < w.heap.size := by rw [Array.getElem?_eq_some_iff] at h; exact h.1
  rw [← h]
  exact Array.getElem?_push_lt hg |>.trans (by rw [Array.getElem?_eq_getElem hg])
theorem block_on {w w1 : World} {g : Nat} {x : Obj} (h : Below w.heap.size w w1) (hg : w.heap[g]? = some x) : w1.heap[g]? = some x := by
  rw [h.block _ (by rw [Array.getElem?_eq_some_iff] at hg; exact hg.1)]
  exact hg
theorem block_lt {w : World} {g : Nat} {x : Obj} (h : w.heap[g]? = some x) : g < w.heap.size := by rw [Array.getElem?_eq_some_iff] at h; exact h.1
theorem set_ne {w : World} {g g' i : Nat} {v : Value} {x : Obj} (h : w.heap[g']? = some x) (hne : g' ≠ g) : (w.setCell ⟨g, i, none⟩ v).heap[g']? = some x := (Below.heap_setCell _ _ _ _ hne).trans h
theorem cells1 {w : World} {g : Nat} {a0 : Value} {t : TypeId} (h : w.heap[g]? = some (.cells #[a0] t (0, 0))) : w.cell? ⟨g, 0, none⟩ = some a0 := by simp [World.cell?, h]
theorem cells2 {w : World} {g : Nat} {a0 a1 : Value} {t : TypeId} (h : w.heap[g]? = some (.cells #[a0, a1] t (0, 0))) : w.cell? ⟨g, 0, none⟩ = some a0 ∧ w.cell? ⟨g, 1, none⟩ = some a1 := by simp [World.cell?, h]
theorem blockFree {w : World} {g : Nat} {C : Array Value} {t : TypeId} (h : w.heap[g]? = some (.cells C t (0, 0))) (i : Nat) : w.frozen? ⟨g, i, none⟩ = false := by simp [World.frozen?, h]
end Go.Proofs.YtbjoegladcmibaaK
