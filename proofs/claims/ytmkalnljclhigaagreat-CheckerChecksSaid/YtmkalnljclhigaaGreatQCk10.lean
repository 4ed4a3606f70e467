/-
  Lists that are the same; a box of a plan.
-/
import Derived.Test.YtmkalnljclhigaaGreatQCkA
import Derived.Test.YtmkalnljclhigaaGreatQChB
namespace Go.Proofs.YtmkalnljclhigaaGreat.Ch
set_option linter.unusedVariables false
set_option linter.unusedSimpArgs false
set_option linter.unnecessarySimpa false
open Go.RowKit Go.Maps Go.Proofs.YtmkalnljclhigaaGreatK Go.Proofs.YtmkalnljclhigaaGreat.XCheckerChecks Go.Proofs.YtmkalnljclhigaaGreatW.PrintWords Go.Proofs.YtmkalnljclhigaaGreatW.PrintLast

theorem same_z (zs : List Int) (hl : zs.length ≤ 1000000) : ∀ (q i : Nat), i + q = zs.length → octroiref03_Same.l0 (q + 1) zs zs (i : Int) = some true
  | 0, i, h => by rw [octroiref03_Same.l0, if_neg (by omega)]
  | q + 1, i, h => by
    rw [octroiref03_Same.l0, if_pos (by omega), if_pos (by omega), if_pos (by omega), if_pos rfl, wrapF i (by omega)]
    exact same_z zs hl q (i + 1) (by omega)
theorem same3_f (zs : List Int) (hl : zs.length ≤ 1000000) : octroiref03_Same.f (zs.length + 1) zs zs = some true := by
  rw [octroiref03_Same.f, if_pos rfl]
  exact same_z zs hl zs.length 0 (by omega)
set_option maxRecDepth 100000 in
set_option maxHeartbeats 2000000 in
theorem box_plan (w : World) (p : Nat) (l : List S35) (o : List Nat) (i : Nat) (hi : i < l.length) (hl : l.length ≤ 256) (h : PlanIn w p l o) : Calls Tryz.prog 17 #[.pointer (some ⟨p, 0, none⟩), .int .i64 i] w fun e w' => ∃ A4 c4 A5 c5, e = .returned (.tuple #[bV l[i] A4 c4 A5 c5, .bool true]) ∧ BIn w' l[i] A4 c4 A5 c5 ∧ Below w.heap.size w w' := by
  obtain ⟨wa, hwa⟩ : ∃ W : World, W = w.alloc (.cells zBox 35) := ⟨_, rfl⟩
  have hba : Below w.heap.size w wa := by rw [hwa]; exact s_alloc (Below.refl _ _) _
  have hxa : wa.heap[w.heap.size]? = some (.cells zBox 35 (0, 0)) := by rw [hwa]; exact Array.getElem?_push_size
  have hn := has_plan wa p l o i (h.below hba)
  rw [decide_eq_true (show 0 ≤ (i : Int) ∧ (i : Int) < l.length from ⟨by omega, by omega⟩)] at hn
  obtain ⟨A, c, m, vn, vo, b, h1, hC, hc, _⟩ := h.ex
  obtain ⟨y, hyy⟩ : ∃ y, l[i] = y := ⟨_, rfl⟩
  rw [hyy]
  have HYY := Lib.hid hyy
  clear hyy
  have HN := Lib.hid hn
  have HB := Lib.hid hba
  have HX := Lib.hid hxa
  have H1 := Lib.hid h1
  have HC := Lib.hid hC
  clear hn h hba hxa h1 hC
  go_enter Tryz.func17, Tryz.ntmps17
  go_upto_region 1 with fail
  rw [← hwa]
  clear hwa
  go_upto_region 3 with (go_at_call 44; refine HN.out.mono ?_; rintro e w1 ⟨rfl, hb⟩; have HB1 := Lib.hid (s_trans HB.out hb); have HX1 := Lib.hid (block_on hb HX.out); clear hb)
  obtain ⟨ad0, A4, c4, A5, c5, e0, p0, p1, p2, p3, p4, p5, g3, g4, g5, g6⟩ := at_T35 HC.out (i : Int) (by omega) (by omega)
  have hy : rd_T35 l (i : Int) = y := (rd43 l i hi).trans HYY.out
  rw [hy] at p0 p1 p2 p3 p4 p5 g3 g4 g5 g6
  rw [Int.toNat_natCast] at p0 p1 p2 p3 p4 p5
  cases e0
  have q0 := (HB1.out.cell (p := _) (World.block_lt_of_cell? w _ p0)).trans p0
  have q1 := (HB1.out.cell (p := _) (World.block_lt_of_cell? w _ p1)).trans p1
  have q2 := (HB1.out.cell (p := _) (World.block_lt_of_cell? w _ p2)).trans p2
  have q3 := (HB1.out.cell (p := _) (World.block_lt_of_cell? w _ p3)).trans p3
  have q4 := (HB1.out.cell (p := _) (World.block_lt_of_cell? w _ p4)).trans p4
  have q5 := (HB1.out.cell (p := _) (World.block_lt_of_cell? w _ p5)).trans p5
  clear hy p0 p1 p2 p3 p4 p5
  have HIN := Lib.hid (⟨g3, g4, g5, g6⟩ : BIn w y A4 c4 A5 c5)
  clear g3 g4 g5 g6
  obtain ⟨z0, z1, z2, z3⟩ := cells4 (block_on HB1.out H1.out)
  obtain ⟨x0, x1, x2, x3, x4, x5⟩ := cells6 HX1.out
  have f0 := blockFree HX1.out 0
  have f1 := blockFree HX1.out 1
  have f2 := blockFree HX1.out 2
  have f3 := blockFree HX1.out 3
  have f4 := blockFree HX1.out 4
  have f5 := blockFree HX1.out 5
  go_wp2
  have hq : ((((((w1.setCell ⟨w.heap.size, 0, none⟩ (.int .i64 y.f0)).setCell ⟨w.heap.size, 1, none⟩ (.int .i64 y.f1.f0)).setCell ⟨w.heap.size, 2, none⟩ (.int .i64 y.f1.f1)).setCell ⟨w.heap.size, 3, none⟩ (.string y.f1.f2)).setCell ⟨w.heap.size, 4, none⟩ (.slice A4 y.f1.f3.length c4)).setCell ⟨w.heap.size, 5, none⟩ (.slice A5 y.f1.f4.length c5)).heap[w.heap.size]? = some (.cells #[.int .i64 y.f0, .int .i64 y.f1.f0, .int .i64 y.f1.f1, .string y.f1.f2, .slice A4 y.f1.f3.length c4, .slice A5 y.f1.f4.length c5] 35 (0, 0)) := by
    have h0 := Go.Joins.block_setCell (i := 0) HX1.out (.int .i64 y.f0)
    have h1 := Go.Joins.block_setCell (i := 1) h0 (.int .i64 y.f1.f0)
    have h2 := Go.Joins.block_setCell (i := 2) h1 (.int .i64 y.f1.f1)
    have h3 := Go.Joins.block_setCell (i := 3) h2 (.string y.f1.f2)
    have h4 := Go.Joins.block_setCell (i := 4) h3 (.slice A4 y.f1.f3.length c4)
    have h5 := Go.Joins.block_setCell (i := 5) h4 (.slice A5 y.f1.f4.length c5)
    simpa using h5
  have hz := s_set (s_set (s_set (s_set (s_set (s_set HB1.out ⟨w.heap.size, 0, none⟩ (.int .i64 y.f0) (Nat.le_refl _)) ⟨w.heap.size, 1, none⟩ (.int .i64 y.f1.f0) (Nat.le_refl _)) ⟨w.heap.size, 2, none⟩ (.int .i64 y.f1.f1) (Nat.le_refl _)) ⟨w.heap.size, 3, none⟩ (.string y.f1.f2) (Nat.le_refl _)) ⟨w.heap.size, 4, none⟩ (.slice A4 y.f1.f3.length c4) (Nat.le_refl _)) ⟨w.heap.size, 5, none⟩ (.slice A5 y.f1.f4.length c5) (Nat.le_refl _)
  generalize ((((((w1.setCell ⟨w.heap.size, 0, none⟩ (.int .i64 y.f0)).setCell ⟨w.heap.size, 1, none⟩ (.int .i64 y.f1.f0)).setCell ⟨w.heap.size, 2, none⟩ (.int .i64 y.f1.f1)).setCell ⟨w.heap.size, 3, none⟩ (.string y.f1.f2)).setCell ⟨w.heap.size, 4, none⟩ (.slice A4 y.f1.f3.length c4)).setCell ⟨w.heap.size, 5, none⟩ (.slice A5 y.f1.f4.length c5)) = wz at *
  obtain ⟨y0, y1, y2, y3, y4, y5⟩ := cells6 hq
  refine bodyPost_ret (v := .tuple #[bV y A4 c4 A5 c5, .bool true]) (by simp [results, Tryz.results17, go_sem, y0, y1, y2, y3, y4, y5]) rfl ⟨A4, c4, A5, c5, rfl, EIn.below HIN.out hz, hz⟩
end Go.Proofs.YtmkalnljclhigaaGreat.Ch
