/-
  checker: Box of a plan that no call made.
-/
import Derived.Test.YtepddfkdjdklnaaQCh15
namespace Go.Proofs.Ytepddfkdjdklnaa.Ch
set_option linter.unusedVariables false
set_option linter.unusedSimpArgs false
set_option linter.unnecessarySimpa false
open Go.RowKit Go.Proofs.YtepddfkdjdklnaaK Go.Proofs.Ytepddfkdjdklnaa.PCheckerOrder Go.Proofs.YtepddfkdjdklnaaW.PrintWords Go.Proofs.YtepddfkdjdklnaaW.PrintLast

abbrev zBox : Array Value := #[.int .i64 0, .int .i64 0, .int .i64 0, .string ⟨#[]⟩, .slice none 0 0, .slice none 0 0]
set_option maxRecDepth 100000 in
theorem box_nob (w : World) (p : Option Addr) (i : Int) (h : Nob w p) : Calls Try.prog 10 #[.pointer p, .int .i64 i] w fun e w' => e = .returned (.tuple #[.agg zBox, .bool false]) ∧ Below w.heap.size w w' := by
  obtain ⟨wa, hwa⟩ : ∃ W : World, W = w.alloc (.cells zBox 43) := ⟨_, rfl⟩
  have hba : Below w.heap.size w wa := by rw [hwa]; exact s_alloc (Below.refl _ _) _
  have hxa : wa.heap[w.heap.size]? = some (.cells zBox 43 (0, 0)) := by rw [hwa]; exact Array.getElem?_push_size
  have hh : Nob wa p := by
    rcases h with rfl | ⟨b, rfl, h1⟩
    · exact .inl rfl
    · refine .inr ⟨b, rfl, (hba.cell (p := ⟨b, 1, none⟩) ?_).trans h1⟩
      rcases Nat.lt_or_ge b w.heap.size with hlt | hge
      · exact hlt
      · simp [World.cell?, Array.getElem?_eq_none hge] at h1
  have hn := has_nob wa p i hh
  have HN := Lib.hid hn
  have HB := Lib.hid hba
  have HX := Lib.hid hxa
  clear hn h hh hba hxa
  go_enter Try.func10, Try.ntmps10
  go_upto_region 1 with fail
  rw [← hwa]
  clear hwa
  go_wp2_with (go_at_call 25; refine HN.out.mono ?_; rintro e w1 ⟨rfl, hb⟩; have HB1 := Lib.hid (s_trans HB.out hb); have HX1 := Lib.hid (block_on hb HX.out); obtain ⟨x0, x1, x2, x3, x4, x5⟩ := cells6 HX1.out; have f0 := blockFree HX1.out 0; have f1 := blockFree HX1.out 1; have f2 := blockFree HX1.out 2; have f3 := blockFree HX1.out 3; have f4 := blockFree HX1.out 4; have f5 := blockFree HX1.out 5; clear hb)
  have hq : ((((((w1.setCell ⟨w.heap.size, 0, none⟩ (.int .i64 0)).setCell ⟨w.heap.size, 1, none⟩ (.int .i64 0)).setCell ⟨w.heap.size, 2, none⟩ (.int .i64 0)).setCell ⟨w.heap.size, 3, none⟩ (.string ⟨#[]⟩)).setCell ⟨w.heap.size, 4, none⟩ (.slice none 0 0)).setCell ⟨w.heap.size, 5, none⟩ (.slice none 0 0)).heap[w.heap.size]? = some (.cells zBox 43 (0, 0)) := by
    have h0 := Go.Joins.block_setCell (i := 0) HX1.out (.int .i64 0)
    have h1 := Go.Joins.block_setCell (i := 1) h0 (.int .i64 0)
    have h2 := Go.Joins.block_setCell (i := 2) h1 (.int .i64 0)
    have h3 := Go.Joins.block_setCell (i := 3) h2 (.string ⟨#[]⟩)
    have h4 := Go.Joins.block_setCell (i := 4) h3 (.slice none 0 0)
    have h5 := Go.Joins.block_setCell (i := 5) h4 (.slice none 0 0)
    simpa using h5
  have hz := s_set (s_set (s_set (s_set (s_set (s_set HB1.out ⟨w.heap.size, 0, none⟩ (.int .i64 0) (Nat.le_refl _)) ⟨w.heap.size, 1, none⟩ (.int .i64 0) (Nat.le_refl _)) ⟨w.heap.size, 2, none⟩ (.int .i64 0) (Nat.le_refl _)) ⟨w.heap.size, 3, none⟩ (.string ⟨#[]⟩) (Nat.le_refl _)) ⟨w.heap.size, 4, none⟩ (.slice none 0 0) (Nat.le_refl _)) ⟨w.heap.size, 5, none⟩ (.slice none 0 0) (Nat.le_refl _)
  generalize ((((((w1.setCell ⟨w.heap.size, 0, none⟩ (.int .i64 0)).setCell ⟨w.heap.size, 1, none⟩ (.int .i64 0)).setCell ⟨w.heap.size, 2, none⟩ (.int .i64 0)).setCell ⟨w.heap.size, 3, none⟩ (.string ⟨#[]⟩)).setCell ⟨w.heap.size, 4, none⟩ (.slice none 0 0)).setCell ⟨w.heap.size, 5, none⟩ (.slice none 0 0)) = wz at *
  obtain ⟨y0, y1, y2, y3, y4, y5⟩ := cells6 hq
  refine bodyPost_ret (v := .tuple #[.agg zBox, .bool false]) (by simp [results, Try.results10, go_sem, y0, y1, y2, y3, y4, y5]) rfl ⟨rfl, hz⟩
end Go.Proofs.Ytepddfkdjdklnaa.Ch
