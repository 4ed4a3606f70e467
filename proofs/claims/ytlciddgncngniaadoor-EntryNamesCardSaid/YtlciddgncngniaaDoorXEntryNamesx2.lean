-- WRITTEN BY wip/xprint.py (my own wrapper round the print, with contracts of my own in it)
import Derived.Test.YtlciddgncngniaaDoorXEntryNamesx0
import Derived.Test.YtlciddgncngniaaDoorXEntryNamesx1
namespace Go.Proofs.YtlciddgncngniaaDoor.XEntryNames
open Go.RowKit Go.Proofs.YtlciddgncngniaaDoorW.PrintWords Go.Proofs.YtlciddgncngniaaDoorW.PrintLast Go.Proofs.YtlciddgncngniaaDoorW.PrintMore
attribute [local go_sem] max2_int min2_int max_two min_two max_three min_three max_four min_four   -- for this text's walks alone
set_option linter.unusedVariables false
set_option linter.unusedSimpArgs false

attribute [local go_sem high] eqA23
/-! ### octroilaw24_Light: function 11 -/
def octroilaw24_Light.f (a0_0 : Int) (a0_1 : Int) (a0_2 : Int) (a0_3 : Int) (a0_4 : Int) (a0_5 : Int) (a0_6 : ByteArray) (a0_7 : Bool) (a0_8 : Int) (a0_9 : Int) (a0_10 : Int) (a0_11 : ByteArray) (a0_12 : ByteArray) (a0_13 : Int) (a0_14 : Int) (a0_15 : Int) (a0_16 : Bool) : Option (Bool) := some (decide ((wrap64 ((wrap64 ((a0_6.size : Int) + (a0_11.size : Int))) + (a0_12.size : Int))) ≤ 300))
set_option maxHeartbeats 8000000 in
set_option maxRecDepth 100000 in
theorem octroilaw24_Light.calls (a0_0 : Int) (a0_1 : Int) (a0_2 : Int) (a0_3 : Int) (a0_4 : Int) (a0_5 : Int) (a0_6 : ByteArray) (a0_7 : Bool) (a0_8 : Int) (a0_9 : Int) (a0_10 : Int) (a0_11 : ByteArray) (a0_12 : ByteArray) (a0_13 : Int) (a0_14 : Int) (a0_15 : Int) (a0_16 : Bool) (r : Bool) (w : World) (h : octroilaw24_Light.f a0_0 a0_1 a0_2 a0_3 a0_4 a0_5 a0_6 a0_7 a0_8 a0_9 a0_10 a0_11 a0_12 a0_13 a0_14 a0_15 a0_16 = some r) :
    Calls Tryd.prog 11 #[.agg #[.int .i64 a0_0, .int .i64 a0_1, .int .i64 a0_2, .int .i64 a0_3, .int .i64 a0_4, .int .i64 a0_5, .string a0_6, .bool a0_7, .int .i64 a0_8, .int .i64 a0_9, .int .i64 a0_10, .string a0_11, .string a0_12, .int .i64 a0_13, .int .i64 a0_14, .int .i64 a0_15, .bool a0_16]] w fun e w' => e = .returned (.bool r) ∧ Below w.heap.size w w' := by
  have hu25 := Tryd.underlying25
  have HB := Aside0.mk (Below.refl w.heap.size w)
  have H : (some (decide ((wrap64 ((wrap64 ((a0_6.size : Int) + (a0_11.size : Int))) + (a0_12.size : Int))) ≤ 300))) = some r := h
  clear h
  obtain rfl := Option.some.inj H
  go_enter Tryd.func11, Tryd.ntmps11
  go_wp2_with (first | ((with_reducible refine gate_dst (N := 1) rfl ?_); refine box_event ?hg (N := 1) ?hd (cs := #[.int .i64 a0_0, .int .i64 a0_1, .int .i64 a0_2, .int .i64 a0_3, .int .i64 a0_4, .int .i64 a0_5, .string a0_6, .bool a0_7, .int .i64 a0_8, .int .i64 a0_9, .int .i64 a0_10, .string a0_11, .string a0_12, .int .i64 a0_13, .int .i64 a0_14, .int .i64 a0_15, .bool a0_16]) (t := 25) ?hr ?_; (case hd => rfl); (case hg => rfl); (case hr => first | (go_simp; done) | (go_simp; rfl)); intro gb101 hg w2 hbox hb; have n0_ := Aside0.mk (below_step (by repeat (first | (with_reducible first | exact HB.out | apply below_alloc | apply pw_below_drewN | apply below_drew1) | exact HB.out)) hb); have n1_ := Aside0.mk (hbox); have n2_ := Aside0.mk ((by rw [hg]; exact (below_size (by repeat (first | (with_reducible first | exact HB.out | apply below_alloc | apply pw_below_drewN | apply below_drew1) | exact HB.out))) : w.heap.size ≤ gb101)); have n3_ := Aside0.mk ((by rw [hg]; exact (below_size (by repeat (first | (with_reducible first | exact HB.out | apply below_alloc | apply pw_below_drewN | apply below_drew1) | exact HB.out))) : w.heap.size ≤ gb101)); clear HB; have HB := n0_; have BK101 := n1_; have GW101 := n2_; have GE101 := n3_; clear n0_ n1_ n2_ n3_; clear hb hbox hg; have hcz3_0 : w2.cell? ⟨gb101, 0, none⟩ = some (.int .i64 a0_0) := (blk_cell BK101.out 0).trans rfl; have hcz3_1 : w2.cell? ⟨gb101, 1, none⟩ = some (.int .i64 a0_1) := (blk_cell BK101.out 1).trans rfl; have hcz3_2 : w2.cell? ⟨gb101, 2, none⟩ = some (.int .i64 a0_2) := (blk_cell BK101.out 2).trans rfl; have hcz3_3 : w2.cell? ⟨gb101, 3, none⟩ = some (.int .i64 a0_3) := (blk_cell BK101.out 3).trans rfl; have hcz3_4 : w2.cell? ⟨gb101, 4, none⟩ = some (.int .i64 a0_4) := (blk_cell BK101.out 4).trans rfl; have hcz3_5 : w2.cell? ⟨gb101, 5, none⟩ = some (.int .i64 a0_5) := (blk_cell BK101.out 5).trans rfl; have hcz3_6 : w2.cell? ⟨gb101, 6, none⟩ = some (.string a0_6) := (blk_cell BK101.out 6).trans rfl; have hcz3_7 : w2.cell? ⟨gb101, 7, none⟩ = some (.bool a0_7) := (blk_cell BK101.out 7).trans rfl; have hcz3_8 : w2.cell? ⟨gb101, 8, none⟩ = some (.int .i64 a0_8) := (blk_cell BK101.out 8).trans rfl; have hcz3_9 : w2.cell? ⟨gb101, 9, none⟩ = some (.int .i64 a0_9) := (blk_cell BK101.out 9).trans rfl; have hcz3_10 : w2.cell? ⟨gb101, 10, none⟩ = some (.int .i64 a0_10) := (blk_cell BK101.out 10).trans rfl; have hcz3_11 : w2.cell? ⟨gb101, 11, none⟩ = some (.string a0_11) := (blk_cell BK101.out 11).trans rfl; have hcz3_12 : w2.cell? ⟨gb101, 12, none⟩ = some (.string a0_12) := (blk_cell BK101.out 12).trans rfl; have hcz3_13 : w2.cell? ⟨gb101, 13, none⟩ = some (.int .i64 a0_13) := (blk_cell BK101.out 13).trans rfl; have hcz3_14 : w2.cell? ⟨gb101, 14, none⟩ = some (.int .i64 a0_14) := (blk_cell BK101.out 14).trans rfl; have hcz3_15 : w2.cell? ⟨gb101, 15, none⟩ = some (.int .i64 a0_15) := (blk_cell BK101.out 15).trans rfl; have hcz3_16 : w2.cell? ⟨gb101, 16, none⟩ = some (.bool a0_16) := (blk_cell BK101.out 16).trans rfl; have hfz3_0 := blk_frozen BK101.out 0; have hfz3_1 := blk_frozen BK101.out 1; have hfz3_2 := blk_frozen BK101.out 2; have hfz3_3 := blk_frozen BK101.out 3; have hfz3_4 := blk_frozen BK101.out 4; have hfz3_5 := blk_frozen BK101.out 5; have hfz3_6 := blk_frozen BK101.out 6; have hfz3_7 := blk_frozen BK101.out 7; have hfz3_8 := blk_frozen BK101.out 8; have hfz3_9 := blk_frozen BK101.out 9; have hfz3_10 := blk_frozen BK101.out 10; have hfz3_11 := blk_frozen BK101.out 11; have hfz3_12 := blk_frozen BK101.out 12; have hfz3_13 := blk_frozen BK101.out 13; have hfz3_14 := blk_frozen BK101.out 14; have hfz3_15 := blk_frozen BK101.out 15; have hfz3_16 := blk_frozen BK101.out 16))
  go_ret
  exact ⟨by first | rfl | (simp [errW_none, errW_some] <;> rfl) | (simp [*, errW_none, errW_some] <;> rfl), by repeat (first | (with_reducible first | exact HB.out | apply below_alloc | apply pw_below_drewN | apply below_drew1 | refine below_set ?_ GE101.out) | exact HB.out)⟩

/-! ### treat_Output: function 71 -/
def treat_Output.f (a0 : Int) : Option (Bool) := if a0 = 1 then (some true) else (if a0 = 3 then (some true) else (if a0 = 9 then (some true) else (if a0 = 12 then (some true) else (if a0 = 13 then (some true) else (if a0 = 14 then (some true) else (some false))))))
set_option maxHeartbeats 8000000 in
set_option maxRecDepth 100000 in
theorem treat_Output.calls (a0 : Int) (r : Bool) (w : World) (h : treat_Output.f a0 = some r) :
    Calls Tryd.prog 71 #[.int .i64 a0] w fun e w' => e = .returned (.bool r) ∧ Drawn0 w w' := by
  have H : (if a0 = 1 then (some true) else (if a0 = 3 then (some true) else (if a0 = 9 then (some true) else (if a0 = 12 then (some true) else (if a0 = 13 then (some true) else (if a0 = 14 then (some true) else (some false))))))) = some r := h
  clear h
  by_cases c2 : a0 = 1
  · rw [if_pos c2] at H
    have c2b0 : (a0 == 1) = true := beq_iff_eq.mpr c2
    have c2b1 : (a0 != 1) = false := bne_eq_false_iff_eq.mpr c2
    clear c2
    obtain rfl := Option.some.inj H
    go_enter Tryd.func71, Tryd.ntmps71
    go_wp2
    go_ret
    exact ⟨by first | rfl | (simp; done) | (simp [*]; done), by repeat (first | exact Drawn0.refl _ | apply Drawn0.step)⟩
  · rw [if_neg c2] at H
    have c2b0 : (a0 == 1) = false := beq_eq_false_iff_ne.mpr c2
    have c2b1 : (a0 != 1) = true := bne_iff_ne.mpr c2
    by_cases c3 : a0 = 3
    · rw [if_pos c3] at H
      have c3b0 : (a0 == 3) = true := beq_iff_eq.mpr c3
      have c3b1 : (a0 != 3) = false := bne_eq_false_iff_eq.mpr c3
      clear c3
      obtain rfl := Option.some.inj H
      go_enter Tryd.func71, Tryd.ntmps71
      go_wp2
      go_ret
      exact ⟨by first | rfl | (simp; done) | (simp [*]; done), by repeat (first | exact Drawn0.refl _ | apply Drawn0.step)⟩
    · rw [if_neg c3] at H
      have c3b0 : (a0 == 3) = false := beq_eq_false_iff_ne.mpr c3
      have c3b1 : (a0 != 3) = true := bne_iff_ne.mpr c3
      by_cases c4 : a0 = 9
      · rw [if_pos c4] at H
        have c4b0 : (a0 == 9) = true := beq_iff_eq.mpr c4
        have c4b1 : (a0 != 9) = false := bne_eq_false_iff_eq.mpr c4
        clear c4
        obtain rfl := Option.some.inj H
        go_enter Tryd.func71, Tryd.ntmps71
        go_wp2
        go_ret
        exact ⟨by first | rfl | (simp; done) | (simp [*]; done), by repeat (first | exact Drawn0.refl _ | apply Drawn0.step)⟩
      · rw [if_neg c4] at H
        have c4b0 : (a0 == 9) = false := beq_eq_false_iff_ne.mpr c4
        have c4b1 : (a0 != 9) = true := bne_iff_ne.mpr c4
        by_cases c5 : a0 = 12
        · rw [if_pos c5] at H
          have c5b0 : (a0 == 12) = true := beq_iff_eq.mpr c5
          have c5b1 : (a0 != 12) = false := bne_eq_false_iff_eq.mpr c5
          clear c5
          obtain rfl := Option.some.inj H
          go_enter Tryd.func71, Tryd.ntmps71
          go_wp2
          go_ret
          exact ⟨by first | rfl | (simp; done) | (simp [*]; done), by repeat (first | exact Drawn0.refl _ | apply Drawn0.step)⟩
        · rw [if_neg c5] at H
          have c5b0 : (a0 == 12) = false := beq_eq_false_iff_ne.mpr c5
          have c5b1 : (a0 != 12) = true := bne_iff_ne.mpr c5
          by_cases c6 : a0 = 13
          · rw [if_pos c6] at H
            have c6b0 : (a0 == 13) = true := beq_iff_eq.mpr c6
            have c6b1 : (a0 != 13) = false := bne_eq_false_iff_eq.mpr c6
            clear c6
            obtain rfl := Option.some.inj H
            go_enter Tryd.func71, Tryd.ntmps71
            go_wp2
            go_ret
            exact ⟨by first | rfl | (simp; done) | (simp [*]; done), by repeat (first | exact Drawn0.refl _ | apply Drawn0.step)⟩
          · rw [if_neg c6] at H
            have c6b0 : (a0 == 13) = false := beq_eq_false_iff_ne.mpr c6
            have c6b1 : (a0 != 13) = true := bne_iff_ne.mpr c6
            by_cases c7 : a0 = 14
            · rw [if_pos c7] at H
              have c7b0 : (a0 == 14) = true := beq_iff_eq.mpr c7
              have c7b1 : (a0 != 14) = false := bne_eq_false_iff_eq.mpr c7
              clear c7
              obtain rfl := Option.some.inj H
              go_enter Tryd.func71, Tryd.ntmps71
              go_wp2
              go_ret
              exact ⟨by first | rfl | (simp; done) | (simp [*]; done), by repeat (first | exact Drawn0.refl _ | apply Drawn0.step)⟩
            · rw [if_neg c7] at H
              have c7b0 : (a0 == 14) = false := beq_eq_false_iff_ne.mpr c7
              have c7b1 : (a0 != 14) = true := bne_iff_ne.mpr c7
              obtain rfl := Option.some.inj H
              go_enter Tryd.func71, Tryd.ntmps71
              go_wp2
              go_ret
              exact ⟨by first | rfl | (simp; done) | (simp [*]; done), by repeat (first | exact Drawn0.refl _ | apply Drawn0.step)⟩

/-! ### treat_Deducts: function 72 -/
def treat_Deducts.f (a0 : Int) : Option (Bool) := if a0 ≥ 11 then (some (decide (a0 ≤ 14))) else (some false)
set_option maxHeartbeats 8000000 in
set_option maxRecDepth 100000 in
theorem treat_Deducts.calls (a0 : Int) (r : Bool) (w : World) (h : treat_Deducts.f a0 = some r) :
    Calls Tryd.prog 72 #[.int .i64 a0] w fun e w' => e = .returned (.bool r) ∧ Drawn0 w w' := by
  have H : (if a0 ≥ 11 then (some (decide (a0 ≤ 14))) else (some false)) = some r := h
  clear h
  by_cases c2 : a0 ≥ 11
  · rw [if_pos c2] at H
    have c2b0 : decide (11 ≤ a0) = true := decide_eq_true c2
    clear c2
    obtain rfl := Option.some.inj H
    go_enter Tryd.func72, Tryd.ntmps72
    go_wp2
    go_ret
    exact ⟨by first | rfl | (simp; done) | (simp [*]; done), by repeat (first | exact Drawn0.refl _ | apply Drawn0.step)⟩
  · rw [if_neg c2] at H
    have c2b0 : decide (11 ≤ a0) = false := decide_eq_false c2
    clear c2
    obtain rfl := Option.some.inj H
    go_enter Tryd.func72, Tryd.ntmps72
    go_wp2
    go_ret
    exact ⟨by first | rfl | (simp; done) | (simp [*]; done), by repeat (first | exact Drawn0.refl _ | apply Drawn0.step)⟩

/-! ### entry_Owed: function 33 -/
def entry_Owed.f (a0_0 : Int) (a0_1 : Int) (a0_2 : Int) (a0_3 : Int) (a0_4 : Int) (a0_5 : Int) (a0_6 : ByteArray) (a0_7 : Bool) (a0_8 : Int) (a0_9 : Int) (a0_10 : Int) (a0_11 : ByteArray) (a0_12 : ByteArray) (a0_13 : Int) (a0_14 : Int) (a0_15 : Int) (a0_16 : Bool) : Option (Int) := (treat_Output.f a0_9).bind fun t103 => (if t103 = true then (if a0_7 = true then (some a0_14) else ((treat_Deducts.f a0_9).bind fun t104 => (if t104 = true then (some a0_14) else (some 0)))) else (some 0))
set_option maxHeartbeats 8000000 in
set_option maxRecDepth 100000 in
theorem entry_Owed.calls (a0_0 : Int) (a0_1 : Int) (a0_2 : Int) (a0_3 : Int) (a0_4 : Int) (a0_5 : Int) (a0_6 : ByteArray) (a0_7 : Bool) (a0_8 : Int) (a0_9 : Int) (a0_10 : Int) (a0_11 : ByteArray) (a0_12 : ByteArray) (a0_13 : Int) (a0_14 : Int) (a0_15 : Int) (a0_16 : Bool) (r : Int) (w : World) (h : entry_Owed.f a0_0 a0_1 a0_2 a0_3 a0_4 a0_5 a0_6 a0_7 a0_8 a0_9 a0_10 a0_11 a0_12 a0_13 a0_14 a0_15 a0_16 = some r) :
    Calls Tryd.prog 33 #[.agg #[.int .i64 a0_0, .int .i64 a0_1, .int .i64 a0_2, .int .i64 a0_3, .int .i64 a0_4, .int .i64 a0_5, .string a0_6, .bool a0_7, .int .i64 a0_8, .int .i64 a0_9, .int .i64 a0_10, .string a0_11, .string a0_12, .int .i64 a0_13, .int .i64 a0_14, .int .i64 a0_15, .bool a0_16]] w fun e w' => e = .returned (.int .i64 r) ∧ Below w.heap.size w w' := by
  have hu25 := Tryd.underlying25
  have HB := Aside0.mk (Below.refl w.heap.size w)
  have H : ((treat_Output.f a0_9).bind fun t103 => (if t103 = true then (if a0_7 = true then (some a0_14) else ((treat_Deducts.f a0_9).bind fun t104 => (if t104 = true then (some a0_14) else (some 0)))) else (some 0))) = some r := h
  clear h
  replace H := Option.bind_eq_some_iff.mp H
  obtain ⟨t103, A20, H⟩ := H
  replace H : (if t103 = true then (if a0_7 = true then (some a0_14) else ((treat_Deducts.f a0_9).bind fun t104 => (if t104 = true then (some a0_14) else (some 0)))) else (some 0)) = some r := H
  have A2 := Aside0.mk A20
  clear A20
  by_cases c3 : t103 = true
  · subst c3
    have H1 : (if a0_7 = true then (some a0_14) else ((treat_Deducts.f a0_9).bind fun t104 => (if t104 = true then (some a0_14) else (some 0)))) = some r := by rw [if_pos rfl] at H; exact H
    clear H
    have H := H1
    clear H1
    by_cases c4 : a0_7 = true
    · subst c4
      have H1 : (some a0_14) = some r := by rw [if_pos rfl] at H; exact H
      clear H
      have H := H1
      clear H1
      obtain rfl := Option.some.inj H
      go_enter Tryd.func33, Tryd.ntmps33
      go_wp2_with (first | ((with_reducible refine gate_dst (N := 1) rfl ?_); refine box_event ?hg (N := 1) ?hd (cs := #[.int .i64 a0_0, .int .i64 a0_1, .int .i64 a0_2, .int .i64 a0_3, .int .i64 a0_4, .int .i64 a0_5, .string a0_6, .bool true, .int .i64 a0_8, .int .i64 a0_9, .int .i64 a0_10, .string a0_11, .string a0_12, .int .i64 a0_13, .int .i64 a0_14, .int .i64 a0_15, .bool a0_16]) (t := 25) ?hr ?_; (case hd => rfl); (case hg => rfl); (case hr => first | (go_simp; done) | (go_simp; rfl)); intro gb102 hg w5 hbox hb; have n0_ := Aside0.mk (below_step (by repeat (first | (with_reducible first | exact HB.out | apply below_alloc | apply pw_below_drewN | apply below_drew1) | exact HB.out)) hb); have n1_ := Aside0.mk (hbox); have n2_ := Aside0.mk ((by rw [hg]; exact (below_size (by repeat (first | (with_reducible first | exact HB.out | apply below_alloc | apply pw_below_drewN | apply below_drew1) | exact HB.out))) : w.heap.size ≤ gb102)); have n3_ := Aside0.mk ((by rw [hg]; exact (below_size (by repeat (first | (with_reducible first | exact HB.out | apply below_alloc | apply pw_below_drewN | apply below_drew1) | exact HB.out))) : w.heap.size ≤ gb102)); clear HB; have HB := n0_; have BK102 := n1_; have GW102 := n2_; have GE102 := n3_; clear n0_ n1_ n2_ n3_; clear hb hbox hg; have hcz6_0 : w5.cell? ⟨gb102, 0, none⟩ = some (.int .i64 a0_0) := (blk_cell BK102.out 0).trans rfl; have hcz6_1 : w5.cell? ⟨gb102, 1, none⟩ = some (.int .i64 a0_1) := (blk_cell BK102.out 1).trans rfl; have hcz6_2 : w5.cell? ⟨gb102, 2, none⟩ = some (.int .i64 a0_2) := (blk_cell BK102.out 2).trans rfl; have hcz6_3 : w5.cell? ⟨gb102, 3, none⟩ = some (.int .i64 a0_3) := (blk_cell BK102.out 3).trans rfl; have hcz6_4 : w5.cell? ⟨gb102, 4, none⟩ = some (.int .i64 a0_4) := (blk_cell BK102.out 4).trans rfl; have hcz6_5 : w5.cell? ⟨gb102, 5, none⟩ = some (.int .i64 a0_5) := (blk_cell BK102.out 5).trans rfl; have hcz6_6 : w5.cell? ⟨gb102, 6, none⟩ = some (.string a0_6) := (blk_cell BK102.out 6).trans rfl; have hcz6_7 : w5.cell? ⟨gb102, 7, none⟩ = some (.bool true) := (blk_cell BK102.out 7).trans rfl; have hcz6_8 : w5.cell? ⟨gb102, 8, none⟩ = some (.int .i64 a0_8) := (blk_cell BK102.out 8).trans rfl; have hcz6_9 : w5.cell? ⟨gb102, 9, none⟩ = some (.int .i64 a0_9) := (blk_cell BK102.out 9).trans rfl; have hcz6_10 : w5.cell? ⟨gb102, 10, none⟩ = some (.int .i64 a0_10) := (blk_cell BK102.out 10).trans rfl; have hcz6_11 : w5.cell? ⟨gb102, 11, none⟩ = some (.string a0_11) := (blk_cell BK102.out 11).trans rfl; have hcz6_12 : w5.cell? ⟨gb102, 12, none⟩ = some (.string a0_12) := (blk_cell BK102.out 12).trans rfl; have hcz6_13 : w5.cell? ⟨gb102, 13, none⟩ = some (.int .i64 a0_13) := (blk_cell BK102.out 13).trans rfl; have hcz6_14 : w5.cell? ⟨gb102, 14, none⟩ = some (.int .i64 a0_14) := (blk_cell BK102.out 14).trans rfl; have hcz6_15 : w5.cell? ⟨gb102, 15, none⟩ = some (.int .i64 a0_15) := (blk_cell BK102.out 15).trans rfl; have hcz6_16 : w5.cell? ⟨gb102, 16, none⟩ = some (.bool a0_16) := (blk_cell BK102.out 16).trans rfl; have hfz6_0 := blk_frozen BK102.out 0; have hfz6_1 := blk_frozen BK102.out 1; have hfz6_2 := blk_frozen BK102.out 2; have hfz6_3 := blk_frozen BK102.out 3; have hfz6_4 := blk_frozen BK102.out 4; have hfz6_5 := blk_frozen BK102.out 5; have hfz6_6 := blk_frozen BK102.out 6; have hfz6_7 := blk_frozen BK102.out 7; have hfz6_8 := blk_frozen BK102.out 8; have hfz6_9 := blk_frozen BK102.out 9; have hfz6_10 := blk_frozen BK102.out 10; have hfz6_11 := blk_frozen BK102.out 11; have hfz6_12 := blk_frozen BK102.out 12; have hfz6_13 := blk_frozen BK102.out 13; have hfz6_14 := blk_frozen BK102.out 14; have hfz6_15 := blk_frozen BK102.out 15; have hfz6_16 := blk_frozen BK102.out 16) | ((with_reducible refine gate_callee (f := 71) rfl ?_); refine goesL_ (some 5) rfl rfl Tryd.func71 (by kernel_rfl) rfl #[.int .i64 a0_9] rfl (by (try simp only [List.map_toArray, List.map_cons, List.map_nil]); first | done | rfl | (simp only [List.length_drop, List.length_take]; rfl)) ?_; (with_reducible refine (treat_Output.calls a0_9 true _ A2.out).mono ?_); rintro e w' ⟨rfl, ⟨nd, rfl⟩⟩; refine ⟨_, rfl, ?_⟩))
      go_ret
      exact ⟨by first | rfl | (simp [errW_none, errW_some] <;> rfl) | (simp [*, errW_none, errW_some] <;> rfl), by repeat (first | (with_reducible first | exact HB.out | apply below_alloc | apply pw_below_drewN | apply below_drew1 | refine below_set ?_ GE102.out) | exact HB.out)⟩
    · replace c4 := Bool.eq_false_iff.mpr c4
      subst c4
      have H1 : ((treat_Deducts.f a0_9).bind fun t104 => (if t104 = true then (some a0_14) else (some 0))) = some r := by rw [if_neg (show ¬ (false = true) by decide)] at H; exact H
      clear H
      have H := H1
      clear H1
      replace H := Option.bind_eq_some_iff.mp H
      obtain ⟨t104, A70, H⟩ := H
      replace H : (if t104 = true then (some a0_14) else (some 0)) = some r := H
      have A7 := Aside0.mk A70
      clear A70
      by_cases c8 : t104 = true
      · subst c8
        have H1 : (some a0_14) = some r := by rw [if_pos rfl] at H; exact H
        clear H
        have H := H1
        clear H1
        obtain rfl := Option.some.inj H
        go_enter Tryd.func33, Tryd.ntmps33
        go_wp2_with (first | ((with_reducible refine gate_dst (N := 1) rfl ?_); refine box_event ?hg (N := 1) ?hd (cs := #[.int .i64 a0_0, .int .i64 a0_1, .int .i64 a0_2, .int .i64 a0_3, .int .i64 a0_4, .int .i64 a0_5, .string a0_6, .bool false, .int .i64 a0_8, .int .i64 a0_9, .int .i64 a0_10, .string a0_11, .string a0_12, .int .i64 a0_13, .int .i64 a0_14, .int .i64 a0_15, .bool a0_16]) (t := 25) ?hr ?_; (case hd => rfl); (case hg => rfl); (case hr => first | (go_simp; done) | (go_simp; rfl)); intro gb102 hg w9 hbox hb; have n0_ := Aside0.mk (below_step (by repeat (first | (with_reducible first | exact HB.out | apply below_alloc | apply pw_below_drewN | apply below_drew1) | exact HB.out)) hb); have n1_ := Aside0.mk (hbox); have n2_ := Aside0.mk ((by rw [hg]; exact (below_size (by repeat (first | (with_reducible first | exact HB.out | apply below_alloc | apply pw_below_drewN | apply below_drew1) | exact HB.out))) : w.heap.size ≤ gb102)); have n3_ := Aside0.mk ((by rw [hg]; exact (below_size (by repeat (first | (with_reducible first | exact HB.out | apply below_alloc | apply pw_below_drewN | apply below_drew1) | exact HB.out))) : w.heap.size ≤ gb102)); clear HB; have HB := n0_; have BK102 := n1_; have GW102 := n2_; have GE102 := n3_; clear n0_ n1_ n2_ n3_; clear hb hbox hg; have hcz10_0 : w9.cell? ⟨gb102, 0, none⟩ = some (.int .i64 a0_0) := (blk_cell BK102.out 0).trans rfl; have hcz10_1 : w9.cell? ⟨gb102, 1, none⟩ = some (.int .i64 a0_1) := (blk_cell BK102.out 1).trans rfl; have hcz10_2 : w9.cell? ⟨gb102, 2, none⟩ = some (.int .i64 a0_2) := (blk_cell BK102.out 2).trans rfl; have hcz10_3 : w9.cell? ⟨gb102, 3, none⟩ = some (.int .i64 a0_3) := (blk_cell BK102.out 3).trans rfl; have hcz10_4 : w9.cell? ⟨gb102, 4, none⟩ = some (.int .i64 a0_4) := (blk_cell BK102.out 4).trans rfl; have hcz10_5 : w9.cell? ⟨gb102, 5, none⟩ = some (.int .i64 a0_5) := (blk_cell BK102.out 5).trans rfl; have hcz10_6 : w9.cell? ⟨gb102, 6, none⟩ = some (.string a0_6) := (blk_cell BK102.out 6).trans rfl; have hcz10_7 : w9.cell? ⟨gb102, 7, none⟩ = some (.bool false) := (blk_cell BK102.out 7).trans rfl; have hcz10_8 : w9.cell? ⟨gb102, 8, none⟩ = some (.int .i64 a0_8) := (blk_cell BK102.out 8).trans rfl; have hcz10_9 : w9.cell? ⟨gb102, 9, none⟩ = some (.int .i64 a0_9) := (blk_cell BK102.out 9).trans rfl; have hcz10_10 : w9.cell? ⟨gb102, 10, none⟩ = some (.int .i64 a0_10) := (blk_cell BK102.out 10).trans rfl; have hcz10_11 : w9.cell? ⟨gb102, 11, none⟩ = some (.string a0_11) := (blk_cell BK102.out 11).trans rfl; have hcz10_12 : w9.cell? ⟨gb102, 12, none⟩ = some (.string a0_12) := (blk_cell BK102.out 12).trans rfl; have hcz10_13 : w9.cell? ⟨gb102, 13, none⟩ = some (.int .i64 a0_13) := (blk_cell BK102.out 13).trans rfl; have hcz10_14 : w9.cell? ⟨gb102, 14, none⟩ = some (.int .i64 a0_14) := (blk_cell BK102.out 14).trans rfl; have hcz10_15 : w9.cell? ⟨gb102, 15, none⟩ = some (.int .i64 a0_15) := (blk_cell BK102.out 15).trans rfl; have hcz10_16 : w9.cell? ⟨gb102, 16, none⟩ = some (.bool a0_16) := (blk_cell BK102.out 16).trans rfl; have hfz10_0 := blk_frozen BK102.out 0; have hfz10_1 := blk_frozen BK102.out 1; have hfz10_2 := blk_frozen BK102.out 2; have hfz10_3 := blk_frozen BK102.out 3; have hfz10_4 := blk_frozen BK102.out 4; have hfz10_5 := blk_frozen BK102.out 5; have hfz10_6 := blk_frozen BK102.out 6; have hfz10_7 := blk_frozen BK102.out 7; have hfz10_8 := blk_frozen BK102.out 8; have hfz10_9 := blk_frozen BK102.out 9; have hfz10_10 := blk_frozen BK102.out 10; have hfz10_11 := blk_frozen BK102.out 11; have hfz10_12 := blk_frozen BK102.out 12; have hfz10_13 := blk_frozen BK102.out 13; have hfz10_14 := blk_frozen BK102.out 14; have hfz10_15 := blk_frozen BK102.out 15; have hfz10_16 := blk_frozen BK102.out 16) | ((with_reducible refine gate_callee (f := 71) rfl ?_); refine goesL_ (some 5) rfl rfl Tryd.func71 (by kernel_rfl) rfl #[.int .i64 a0_9] rfl (by (try simp only [List.map_toArray, List.map_cons, List.map_nil]); first | done | rfl | (simp only [List.length_drop, List.length_take]; rfl)) ?_; (with_reducible refine (treat_Output.calls a0_9 true _ A2.out).mono ?_); rintro e w' ⟨rfl, ⟨nd, rfl⟩⟩; refine ⟨_, rfl, ?_⟩) | (go_at_call 72; (with_reducible refine (treat_Deducts.calls a0_9 true _ A7.out).mono ?_); rintro e w' ⟨rfl, ⟨nd, rfl⟩⟩))
        go_ret
        exact ⟨by first | rfl | (simp [errW_none, errW_some] <;> rfl) | (simp [*, errW_none, errW_some] <;> rfl), by repeat (first | (with_reducible first | exact HB.out | apply below_alloc | apply pw_below_drewN | apply below_drew1 | refine below_set ?_ GE102.out) | exact HB.out)⟩
      · replace c8 := Bool.eq_false_iff.mpr c8
        subst c8
        have H1 : (some 0) = some r := by rw [if_neg (show ¬ (false = true) by decide)] at H; exact H
        clear H
        have H := H1
        clear H1
        obtain rfl := Option.some.inj H
        go_enter Tryd.func33, Tryd.ntmps33
        go_wp2_with (first | ((with_reducible refine gate_dst (N := 1) rfl ?_); refine box_event ?hg (N := 1) ?hd (cs := #[.int .i64 a0_0, .int .i64 a0_1, .int .i64 a0_2, .int .i64 a0_3, .int .i64 a0_4, .int .i64 a0_5, .string a0_6, .bool false, .int .i64 a0_8, .int .i64 a0_9, .int .i64 a0_10, .string a0_11, .string a0_12, .int .i64 a0_13, .int .i64 a0_14, .int .i64 a0_15, .bool a0_16]) (t := 25) ?hr ?_; (case hd => rfl); (case hg => rfl); (case hr => first | (go_simp; done) | (go_simp; rfl)); intro gb102 hg w11 hbox hb; have n0_ := Aside0.mk (below_step (by repeat (first | (with_reducible first | exact HB.out | apply below_alloc | apply pw_below_drewN | apply below_drew1) | exact HB.out)) hb); have n1_ := Aside0.mk (hbox); have n2_ := Aside0.mk ((by rw [hg]; exact (below_size (by repeat (first | (with_reducible first | exact HB.out | apply below_alloc | apply pw_below_drewN | apply below_drew1) | exact HB.out))) : w.heap.size ≤ gb102)); have n3_ := Aside0.mk ((by rw [hg]; exact (below_size (by repeat (first | (with_reducible first | exact HB.out | apply below_alloc | apply pw_below_drewN | apply below_drew1) | exact HB.out))) : w.heap.size ≤ gb102)); clear HB; have HB := n0_; have BK102 := n1_; have GW102 := n2_; have GE102 := n3_; clear n0_ n1_ n2_ n3_; clear hb hbox hg; have hcz12_0 : w11.cell? ⟨gb102, 0, none⟩ = some (.int .i64 a0_0) := (blk_cell BK102.out 0).trans rfl; have hcz12_1 : w11.cell? ⟨gb102, 1, none⟩ = some (.int .i64 a0_1) := (blk_cell BK102.out 1).trans rfl; have hcz12_2 : w11.cell? ⟨gb102, 2, none⟩ = some (.int .i64 a0_2) := (blk_cell BK102.out 2).trans rfl; have hcz12_3 : w11.cell? ⟨gb102, 3, none⟩ = some (.int .i64 a0_3) := (blk_cell BK102.out 3).trans rfl; have hcz12_4 : w11.cell? ⟨gb102, 4, none⟩ = some (.int .i64 a0_4) := (blk_cell BK102.out 4).trans rfl; have hcz12_5 : w11.cell? ⟨gb102, 5, none⟩ = some (.int .i64 a0_5) := (blk_cell BK102.out 5).trans rfl; have hcz12_6 : w11.cell? ⟨gb102, 6, none⟩ = some (.string a0_6) := (blk_cell BK102.out 6).trans rfl; have hcz12_7 : w11.cell? ⟨gb102, 7, none⟩ = some (.bool false) := (blk_cell BK102.out 7).trans rfl; have hcz12_8 : w11.cell? ⟨gb102, 8, none⟩ = some (.int .i64 a0_8) := (blk_cell BK102.out 8).trans rfl; have hcz12_9 : w11.cell? ⟨gb102, 9, none⟩ = some (.int .i64 a0_9) := (blk_cell BK102.out 9).trans rfl; have hcz12_10 : w11.cell? ⟨gb102, 10, none⟩ = some (.int .i64 a0_10) := (blk_cell BK102.out 10).trans rfl; have hcz12_11 : w11.cell? ⟨gb102, 11, none⟩ = some (.string a0_11) := (blk_cell BK102.out 11).trans rfl; have hcz12_12 : w11.cell? ⟨gb102, 12, none⟩ = some (.string a0_12) := (blk_cell BK102.out 12).trans rfl; have hcz12_13 : w11.cell? ⟨gb102, 13, none⟩ = some (.int .i64 a0_13) := (blk_cell BK102.out 13).trans rfl; have hcz12_14 : w11.cell? ⟨gb102, 14, none⟩ = some (.int .i64 a0_14) := (blk_cell BK102.out 14).trans rfl; have hcz12_15 : w11.cell? ⟨gb102, 15, none⟩ = some (.int .i64 a0_15) := (blk_cell BK102.out 15).trans rfl; have hcz12_16 : w11.cell? ⟨gb102, 16, none⟩ = some (.bool a0_16) := (blk_cell BK102.out 16).trans rfl; have hfz12_0 := blk_frozen BK102.out 0; have hfz12_1 := blk_frozen BK102.out 1; have hfz12_2 := blk_frozen BK102.out 2; have hfz12_3 := blk_frozen BK102.out 3; have hfz12_4 := blk_frozen BK102.out 4; have hfz12_5 := blk_frozen BK102.out 5; have hfz12_6 := blk_frozen BK102.out 6; have hfz12_7 := blk_frozen BK102.out 7; have hfz12_8 := blk_frozen BK102.out 8; have hfz12_9 := blk_frozen BK102.out 9; have hfz12_10 := blk_frozen BK102.out 10; have hfz12_11 := blk_frozen BK102.out 11; have hfz12_12 := blk_frozen BK102.out 12; have hfz12_13 := blk_frozen BK102.out 13; have hfz12_14 := blk_frozen BK102.out 14; have hfz12_15 := blk_frozen BK102.out 15; have hfz12_16 := blk_frozen BK102.out 16) | ((with_reducible refine gate_callee (f := 71) rfl ?_); refine goesL_ (some 5) rfl rfl Tryd.func71 (by kernel_rfl) rfl #[.int .i64 a0_9] rfl (by (try simp only [List.map_toArray, List.map_cons, List.map_nil]); first | done | rfl | (simp only [List.length_drop, List.length_take]; rfl)) ?_; (with_reducible refine (treat_Output.calls a0_9 true _ A2.out).mono ?_); rintro e w' ⟨rfl, ⟨nd, rfl⟩⟩; refine ⟨_, rfl, ?_⟩) | (go_at_call 72; (with_reducible refine (treat_Deducts.calls a0_9 false _ A7.out).mono ?_); rintro e w' ⟨rfl, ⟨nd, rfl⟩⟩))
        go_ret
        exact ⟨by first | rfl | (simp [errW_none, errW_some] <;> rfl) | (simp [*, errW_none, errW_some] <;> rfl), by repeat (first | (with_reducible first | exact HB.out | apply below_alloc | apply pw_below_drewN | apply below_drew1 | refine below_set ?_ GE102.out) | exact HB.out)⟩
  · replace c3 := Bool.eq_false_iff.mpr c3
    subst c3
    have H1 : (some 0) = some r := by rw [if_neg (show ¬ (false = true) by decide)] at H; exact H
    clear H
    have H := H1
    clear H1
    obtain rfl := Option.some.inj H
    go_enter Tryd.func33, Tryd.ntmps33
    go_wp2_with (first | ((with_reducible refine gate_dst (N := 1) rfl ?_); refine box_event ?hg (N := 1) ?hd (cs := #[.int .i64 a0_0, .int .i64 a0_1, .int .i64 a0_2, .int .i64 a0_3, .int .i64 a0_4, .int .i64 a0_5, .string a0_6, .bool a0_7, .int .i64 a0_8, .int .i64 a0_9, .int .i64 a0_10, .string a0_11, .string a0_12, .int .i64 a0_13, .int .i64 a0_14, .int .i64 a0_15, .bool a0_16]) (t := 25) ?hr ?_; (case hd => rfl); (case hg => rfl); (case hr => first | (go_simp; done) | (go_simp; rfl)); intro gb102 hg w13 hbox hb; have n0_ := Aside0.mk (below_step (by repeat (first | (with_reducible first | exact HB.out | apply below_alloc | apply pw_below_drewN | apply below_drew1) | exact HB.out)) hb); have n1_ := Aside0.mk (hbox); have n2_ := Aside0.mk ((by rw [hg]; exact (below_size (by repeat (first | (with_reducible first | exact HB.out | apply below_alloc | apply pw_below_drewN | apply below_drew1) | exact HB.out))) : w.heap.size ≤ gb102)); have n3_ := Aside0.mk ((by rw [hg]; exact (below_size (by repeat (first | (with_reducible first | exact HB.out | apply below_alloc | apply pw_below_drewN | apply below_drew1) | exact HB.out))) : w.heap.size ≤ gb102)); clear HB; have HB := n0_; have BK102 := n1_; have GW102 := n2_; have GE102 := n3_; clear n0_ n1_ n2_ n3_; clear hb hbox hg; have hcz14_0 : w13.cell? ⟨gb102, 0, none⟩ = some (.int .i64 a0_0) := (blk_cell BK102.out 0).trans rfl; have hcz14_1 : w13.cell? ⟨gb102, 1, none⟩ = some (.int .i64 a0_1) := (blk_cell BK102.out 1).trans rfl; have hcz14_2 : w13.cell? ⟨gb102, 2, none⟩ = some (.int .i64 a0_2) := (blk_cell BK102.out 2).trans rfl; have hcz14_3 : w13.cell? ⟨gb102, 3, none⟩ = some (.int .i64 a0_3) := (blk_cell BK102.out 3).trans rfl; have hcz14_4 : w13.cell? ⟨gb102, 4, none⟩ = some (.int .i64 a0_4) := (blk_cell BK102.out 4).trans rfl; have hcz14_5 : w13.cell? ⟨gb102, 5, none⟩ = some (.int .i64 a0_5) := (blk_cell BK102.out 5).trans rfl; have hcz14_6 : w13.cell? ⟨gb102, 6, none⟩ = some (.string a0_6) := (blk_cell BK102.out 6).trans rfl; have hcz14_7 : w13.cell? ⟨gb102, 7, none⟩ = some (.bool a0_7) := (blk_cell BK102.out 7).trans rfl; have hcz14_8 : w13.cell? ⟨gb102, 8, none⟩ = some (.int .i64 a0_8) := (blk_cell BK102.out 8).trans rfl; have hcz14_9 : w13.cell? ⟨gb102, 9, none⟩ = some (.int .i64 a0_9) := (blk_cell BK102.out 9).trans rfl; have hcz14_10 : w13.cell? ⟨gb102, 10, none⟩ = some (.int .i64 a0_10) := (blk_cell BK102.out 10).trans rfl; have hcz14_11 : w13.cell? ⟨gb102, 11, none⟩ = some (.string a0_11) := (blk_cell BK102.out 11).trans rfl; have hcz14_12 : w13.cell? ⟨gb102, 12, none⟩ = some (.string a0_12) := (blk_cell BK102.out 12).trans rfl; have hcz14_13 : w13.cell? ⟨gb102, 13, none⟩ = some (.int .i64 a0_13) := (blk_cell BK102.out 13).trans rfl; have hcz14_14 : w13.cell? ⟨gb102, 14, none⟩ = some (.int .i64 a0_14) := (blk_cell BK102.out 14).trans rfl; have hcz14_15 : w13.cell? ⟨gb102, 15, none⟩ = some (.int .i64 a0_15) := (blk_cell BK102.out 15).trans rfl; have hcz14_16 : w13.cell? ⟨gb102, 16, none⟩ = some (.bool a0_16) := (blk_cell BK102.out 16).trans rfl; have hfz14_0 := blk_frozen BK102.out 0; have hfz14_1 := blk_frozen BK102.out 1; have hfz14_2 := blk_frozen BK102.out 2; have hfz14_3 := blk_frozen BK102.out 3; have hfz14_4 := blk_frozen BK102.out 4; have hfz14_5 := blk_frozen BK102.out 5; have hfz14_6 := blk_frozen BK102.out 6; have hfz14_7 := blk_frozen BK102.out 7; have hfz14_8 := blk_frozen BK102.out 8; have hfz14_9 := blk_frozen BK102.out 9; have hfz14_10 := blk_frozen BK102.out 10; have hfz14_11 := blk_frozen BK102.out 11; have hfz14_12 := blk_frozen BK102.out 12; have hfz14_13 := blk_frozen BK102.out 13; have hfz14_14 := blk_frozen BK102.out 14; have hfz14_15 := blk_frozen BK102.out 15; have hfz14_16 := blk_frozen BK102.out 16) | ((with_reducible refine gate_callee (f := 71) rfl ?_); refine goesL_ (some 5) rfl rfl Tryd.func71 (by kernel_rfl) rfl #[.int .i64 a0_9] rfl (by (try simp only [List.map_toArray, List.map_cons, List.map_nil]); first | done | rfl | (simp only [List.length_drop, List.length_take]; rfl)) ?_; (with_reducible refine (treat_Output.calls a0_9 false _ A2.out).mono ?_); rintro e w' ⟨rfl, ⟨nd, rfl⟩⟩; refine ⟨_, rfl, ?_⟩))
    go_ret
    exact ⟨by first | rfl | (simp [errW_none, errW_some] <;> rfl) | (simp [*, errW_none, errW_some] <;> rfl), by repeat (first | (with_reducible first | exact HB.out | apply below_alloc | apply pw_below_drewN | apply below_drew1 | refine below_set ?_ GE102.out) | exact HB.out)⟩

-- NOT PRINTED: function 68 (entry_field)

/-! ### entry_Field: function 27 (by hand) -/
open Go.Proofs.YtlciddgncngniaaDoorK Go.Proofs.YtlciddgncngniaaDoor.BX
def entry_Field.f (a0_0 : Int) (a0_1 : Int) (a0_2 : Int) (a0_3 : Int) (a0_4 : Int) (a0_5 : Int) (a0_6 : ByteArray) (a0_7 : Bool) (a0_8 : Int) (a0_9 : Int) (a0_10 : Int) (a0_11 : ByteArray) (a0_12 : ByteArray) (a0_13 : Int) (a0_14 : Int) (a0_15 : Int) (a0_16 : Bool) (a1 : ByteArray) : Option (Int × Bool) := if a1.toList = ([98, 97, 115, 101] : List UInt8) then some (a0_13, true) else if a1.toList = ([116, 97, 120] : List UInt8) then some (a0_14, true) else if a1.toList = ([111, 117, 116] : List UInt8) then (entry_Owed.f a0_0 a0_1 a0_2 a0_3 a0_4 a0_5 a0_6 a0_7 a0_8 a0_9 a0_10 a0_11 a0_12 a0_13 a0_14 a0_15 a0_16).bind fun t => some (t, true) else if a1.toList = ([105, 110] : List UInt8) then some (a0_15, true) else some (0, false)
set_option maxHeartbeats 4000000 in
set_option maxRecDepth 100000 in
theorem entry_Field.calls (a0_0 : Int) (a0_1 : Int) (a0_2 : Int) (a0_3 : Int) (a0_4 : Int) (a0_5 : Int) (a0_6 : ByteArray) (a0_7 : Bool) (a0_8 : Int) (a0_9 : Int) (a0_10 : Int) (a0_11 : ByteArray) (a0_12 : ByteArray) (a0_13 : Int) (a0_14 : Int) (a0_15 : Int) (a0_16 : Bool) (a1 : ByteArray) (r1 : Int) (r2 : Bool) (w : World) (h : entry_Field.f a0_0 a0_1 a0_2 a0_3 a0_4 a0_5 a0_6 a0_7 a0_8 a0_9 a0_10 a0_11 a0_12 a0_13 a0_14 a0_15 a0_16 a1 = some (r1, r2)) :
    Calls Tryd.prog 27 #[.agg #[.int .i64 a0_0, .int .i64 a0_1, .int .i64 a0_2, .int .i64 a0_3, .int .i64 a0_4, .int .i64 a0_5, .string a0_6, .bool a0_7, .int .i64 a0_8, .int .i64 a0_9, .int .i64 a0_10, .string a0_11, .string a0_12, .int .i64 a0_13, .int .i64 a0_14, .int .i64 a0_15, .bool a0_16], .string a1] w fun e w' => e = .returned (.tuple #[.int .i64 r1, .bool r2]) ∧ Below w.heap.size w w' := by
  have hmf : ∀ (fn : Fn) (first cap : Array Value) (w : World), (Instr.makeFunc fn first cap).run Tryd.prog w = .ok (.func fn first cap) w := fun _ _ _ _ => rfl
  unfold entry_Field.f at h
  by_cases c0 : a1.toList = ([98, 97, 115, 101] : List UInt8)
  · rw [if_pos c0] at h
    obtain ⟨rfl, rfl⟩ := Prod.mk.inj (Option.some.inj h)
    have HC := Lib.hid (fun wx : World => EN.field_base a1 wx c0)
    clear c0
    go_enter Tryd.func27, Tryd.ntmps27
    go_upto_region 4 with (go_at_call 68; refine (HC.out _).mono ?_; rintro e w1 ⟨rfl, hb⟩; have HB := Lib.hid hb; have hc1 := s_cell hb; have hz := s_lt hb; clear hb)
    generalize hW : w1.alloc (Obj.cells #[Value.func (Fn.func 98) #[] #[]] 106) = W4
    have hr0 : (w.alloc (Obj.cells #[Value.int IntKind.i64 a0_0, Value.int IntKind.i64 a0_1, Value.int IntKind.i64 a0_2, Value.int IntKind.i64 a0_3, Value.int IntKind.i64 a0_4, Value.int IntKind.i64 a0_5, Value.string a0_6, Value.bool a0_7, Value.int IntKind.i64 a0_8, Value.int IntKind.i64 a0_9, Value.int IntKind.i64 a0_10, Value.string a0_11, Value.string a0_12, Value.int IntKind.i64 a0_13, Value.int IntKind.i64 a0_14, Value.int IntKind.i64 a0_15, Value.bool a0_16] 25)).heap[w.heap.size]? = some (.cells #[.int .i64 a0_0, .int .i64 a0_1, .int .i64 a0_2, .int .i64 a0_3, .int .i64 a0_4, .int .i64 a0_5, .string a0_6, .bool a0_7, .int .i64 a0_8, .int .i64 a0_9, .int .i64 a0_10, .string a0_11, .string a0_12, .int .i64 a0_13, .int .i64 a0_14, .int .i64 a0_15, .bool a0_16] 25 (0, 0)) := Array.getElem?_push_size
    have hr : W4.heap[w.heap.size]? = some (.cells #[.int .i64 a0_0, .int .i64 a0_1, .int .i64 a0_2, .int .i64 a0_3, .int .i64 a0_4, .int .i64 a0_5, .string a0_6, .bool a0_7, .int .i64 a0_8, .int .i64 a0_9, .int .i64 a0_10, .string a0_11, .string a0_12, .int .i64 a0_13, .int .i64 a0_14, .int .i64 a0_15, .bool a0_16] 25 (0, 0)) := by
      rw [← hW]
      exact block_alloc (block_on HB.out hr0) _
    have HROW := Lib.hid hr
    have hv4 : W4.cell? ⟨w1.heap.size, 0, none⟩ = some (Value.func (Fn.func 98) #[] #[]) := by
      rw [← hW]
      exact cells1 Array.getElem?_push_size
    have HB4 : Hid (Below w.heap.size w W4) := Lib.hid (by rw [← hW]; exact s_alloc (s_trans (s_alloc (Below.refl _ _) _) HB.out) _)
    have HLE := Lib.hid HB4.out.size
    clear hW hr hr0 hc1 hz HB HC
    go_wp2_with (first | (refine wpList_load_row rfl 25 _ rfl _ rfl 25 _ (0, 0) _ HROW.out Tryd.underlying25 rfl (by kernel_rfl) ?_) | go_at_call 98; refine (EN.field_1_walk a0_0 a0_1 a0_2 a0_3 a0_4 a0_5 a0_6 a0_7 a0_8 a0_9 a0_10 a0_11 a0_12 a0_13 a0_14 a0_15 a0_16 _).mono ?_; rintro e w2 ⟨rfl, hb2⟩; have HB2 := Lib.hid hb2; clear hb2)
    all_goals
      go_ret2
      exact ⟨rfl, HB4.out.trans (HB2.out.mono HLE.out)⟩
  · skip
    by_cases c1 : a1.toList = ([116, 97, 120] : List UInt8)
    · rw [if_neg c0, if_pos c1] at h
      obtain ⟨rfl, rfl⟩ := Prod.mk.inj (Option.some.inj h)
      have HC := Lib.hid (fun wx : World => EN.field_tax a1 wx c1)
      clear c0 c1
      go_enter Tryd.func27, Tryd.ntmps27
      go_upto_region 4 with (go_at_call 68; refine (HC.out _).mono ?_; rintro e w1 ⟨rfl, hb⟩; have HB := Lib.hid hb; have hc1 := s_cell hb; have hz := s_lt hb; clear hb)
      generalize hW : w1.alloc (Obj.cells #[Value.func (Fn.func 99) #[] #[]] 106) = W4
      have hr0 : (w.alloc (Obj.cells #[Value.int IntKind.i64 a0_0, Value.int IntKind.i64 a0_1, Value.int IntKind.i64 a0_2, Value.int IntKind.i64 a0_3, Value.int IntKind.i64 a0_4, Value.int IntKind.i64 a0_5, Value.string a0_6, Value.bool a0_7, Value.int IntKind.i64 a0_8, Value.int IntKind.i64 a0_9, Value.int IntKind.i64 a0_10, Value.string a0_11, Value.string a0_12, Value.int IntKind.i64 a0_13, Value.int IntKind.i64 a0_14, Value.int IntKind.i64 a0_15, Value.bool a0_16] 25)).heap[w.heap.size]? = some (.cells #[.int .i64 a0_0, .int .i64 a0_1, .int .i64 a0_2, .int .i64 a0_3, .int .i64 a0_4, .int .i64 a0_5, .string a0_6, .bool a0_7, .int .i64 a0_8, .int .i64 a0_9, .int .i64 a0_10, .string a0_11, .string a0_12, .int .i64 a0_13, .int .i64 a0_14, .int .i64 a0_15, .bool a0_16] 25 (0, 0)) := Array.getElem?_push_size
      have hr : W4.heap[w.heap.size]? = some (.cells #[.int .i64 a0_0, .int .i64 a0_1, .int .i64 a0_2, .int .i64 a0_3, .int .i64 a0_4, .int .i64 a0_5, .string a0_6, .bool a0_7, .int .i64 a0_8, .int .i64 a0_9, .int .i64 a0_10, .string a0_11, .string a0_12, .int .i64 a0_13, .int .i64 a0_14, .int .i64 a0_15, .bool a0_16] 25 (0, 0)) := by
        rw [← hW]
        exact block_alloc (block_on HB.out hr0) _
      have HROW := Lib.hid hr
      have hv4 : W4.cell? ⟨w1.heap.size, 0, none⟩ = some (Value.func (Fn.func 99) #[] #[]) := by
        rw [← hW]
        exact cells1 Array.getElem?_push_size
      have HB4 : Hid (Below w.heap.size w W4) := Lib.hid (by rw [← hW]; exact s_alloc (s_trans (s_alloc (Below.refl _ _) _) HB.out) _)
      have HLE := Lib.hid HB4.out.size
      clear hW hr hr0 hc1 hz HB HC
      go_wp2_with (first | (refine wpList_load_row rfl 25 _ rfl _ rfl 25 _ (0, 0) _ HROW.out Tryd.underlying25 rfl (by kernel_rfl) ?_) | go_at_call 99; refine (EN.field_2_walk a0_0 a0_1 a0_2 a0_3 a0_4 a0_5 a0_6 a0_7 a0_8 a0_9 a0_10 a0_11 a0_12 a0_13 a0_14 a0_15 a0_16 _).mono ?_; rintro e w2 ⟨rfl, hb2⟩; have HB2 := Lib.hid hb2; clear hb2)
      all_goals
        go_ret2
        exact ⟨rfl, HB4.out.trans (HB2.out.mono HLE.out)⟩
    · skip
      by_cases c2 : a1.toList = ([111, 117, 116] : List UInt8)
      · rw [if_neg c0, if_neg c1, if_pos c2] at h
        obtain ⟨t, hO, h⟩ := Option.bind_eq_some_iff.1 h
        obtain ⟨rfl, rfl⟩ := Prod.mk.inj (Option.some.inj h)
        have HO := Lib.hid hO
        clear hO
        have HC := Lib.hid (fun wx : World => EN.field_out a1 wx c2)
        clear c0 c1 c2
        go_enter Tryd.func27, Tryd.ntmps27
        go_upto_region 4 with (go_at_call 68; refine (HC.out _).mono ?_; rintro e w1 ⟨rfl, hb⟩; have HB := Lib.hid hb; have hc1 := s_cell hb; have hz := s_lt hb; clear hb)
        generalize hW : w1.alloc (Obj.cells #[Value.func (Fn.func 33) #[] #[]] 106) = W4
        have hr0 : (w.alloc (Obj.cells #[Value.int IntKind.i64 a0_0, Value.int IntKind.i64 a0_1, Value.int IntKind.i64 a0_2, Value.int IntKind.i64 a0_3, Value.int IntKind.i64 a0_4, Value.int IntKind.i64 a0_5, Value.string a0_6, Value.bool a0_7, Value.int IntKind.i64 a0_8, Value.int IntKind.i64 a0_9, Value.int IntKind.i64 a0_10, Value.string a0_11, Value.string a0_12, Value.int IntKind.i64 a0_13, Value.int IntKind.i64 a0_14, Value.int IntKind.i64 a0_15, Value.bool a0_16] 25)).heap[w.heap.size]? = some (.cells #[.int .i64 a0_0, .int .i64 a0_1, .int .i64 a0_2, .int .i64 a0_3, .int .i64 a0_4, .int .i64 a0_5, .string a0_6, .bool a0_7, .int .i64 a0_8, .int .i64 a0_9, .int .i64 a0_10, .string a0_11, .string a0_12, .int .i64 a0_13, .int .i64 a0_14, .int .i64 a0_15, .bool a0_16] 25 (0, 0)) := Array.getElem?_push_size
        have hr : W4.heap[w.heap.size]? = some (.cells #[.int .i64 a0_0, .int .i64 a0_1, .int .i64 a0_2, .int .i64 a0_3, .int .i64 a0_4, .int .i64 a0_5, .string a0_6, .bool a0_7, .int .i64 a0_8, .int .i64 a0_9, .int .i64 a0_10, .string a0_11, .string a0_12, .int .i64 a0_13, .int .i64 a0_14, .int .i64 a0_15, .bool a0_16] 25 (0, 0)) := by
          rw [← hW]
          exact block_alloc (block_on HB.out hr0) _
        have HROW := Lib.hid hr
        have hv4 : W4.cell? ⟨w1.heap.size, 0, none⟩ = some (Value.func (Fn.func 33) #[] #[]) := by
          rw [← hW]
          exact cells1 Array.getElem?_push_size
        have HB4 : Hid (Below w.heap.size w W4) := Lib.hid (by rw [← hW]; exact s_alloc (s_trans (s_alloc (Below.refl _ _) _) HB.out) _)
        have HLE := Lib.hid HB4.out.size
        clear hW hr hr0 hc1 hz HB HC
        go_wp2_with (first | (refine wpList_load_row rfl 25 _ rfl _ rfl 25 _ (0, 0) _ HROW.out Tryd.underlying25 rfl (by kernel_rfl) ?_) | go_at_call 33; refine (entry_Owed.calls a0_0 a0_1 a0_2 a0_3 a0_4 a0_5 a0_6 a0_7 a0_8 a0_9 a0_10 a0_11 a0_12 a0_13 a0_14 a0_15 a0_16 _ _ HO.out).mono ?_; rintro e w2 ⟨rfl, hb2⟩; have HB2 := Lib.hid hb2; clear hb2)
        all_goals
          go_ret2
          exact ⟨rfl, HB4.out.trans (HB2.out.mono HLE.out)⟩
      · skip
        by_cases c3 : a1.toList = ([105, 110] : List UInt8)
        · rw [if_neg c0, if_neg c1, if_neg c2, if_pos c3] at h
          obtain ⟨rfl, rfl⟩ := Prod.mk.inj (Option.some.inj h)
          have HC := Lib.hid (fun wx : World => EN.field_in a1 wx c3)
          clear c0 c1 c2 c3
          go_enter Tryd.func27, Tryd.ntmps27
          go_upto_region 4 with (go_at_call 68; refine (HC.out _).mono ?_; rintro e w1 ⟨rfl, hb⟩; have HB := Lib.hid hb; have hc1 := s_cell hb; have hz := s_lt hb; clear hb)
          generalize hW : w1.alloc (Obj.cells #[Value.func (Fn.func 100) #[] #[]] 106) = W4
          have hr0 : (w.alloc (Obj.cells #[Value.int IntKind.i64 a0_0, Value.int IntKind.i64 a0_1, Value.int IntKind.i64 a0_2, Value.int IntKind.i64 a0_3, Value.int IntKind.i64 a0_4, Value.int IntKind.i64 a0_5, Value.string a0_6, Value.bool a0_7, Value.int IntKind.i64 a0_8, Value.int IntKind.i64 a0_9, Value.int IntKind.i64 a0_10, Value.string a0_11, Value.string a0_12, Value.int IntKind.i64 a0_13, Value.int IntKind.i64 a0_14, Value.int IntKind.i64 a0_15, Value.bool a0_16] 25)).heap[w.heap.size]? = some (.cells #[.int .i64 a0_0, .int .i64 a0_1, .int .i64 a0_2, .int .i64 a0_3, .int .i64 a0_4, .int .i64 a0_5, .string a0_6, .bool a0_7, .int .i64 a0_8, .int .i64 a0_9, .int .i64 a0_10, .string a0_11, .string a0_12, .int .i64 a0_13, .int .i64 a0_14, .int .i64 a0_15, .bool a0_16] 25 (0, 0)) := Array.getElem?_push_size
          have hr : W4.heap[w.heap.size]? = some (.cells #[.int .i64 a0_0, .int .i64 a0_1, .int .i64 a0_2, .int .i64 a0_3, .int .i64 a0_4, .int .i64 a0_5, .string a0_6, .bool a0_7, .int .i64 a0_8, .int .i64 a0_9, .int .i64 a0_10, .string a0_11, .string a0_12, .int .i64 a0_13, .int .i64 a0_14, .int .i64 a0_15, .bool a0_16] 25 (0, 0)) := by
            rw [← hW]
            exact block_alloc (block_on HB.out hr0) _
          have HROW := Lib.hid hr
          have hv4 : W4.cell? ⟨w1.heap.size, 0, none⟩ = some (Value.func (Fn.func 100) #[] #[]) := by
            rw [← hW]
            exact cells1 Array.getElem?_push_size
          have HB4 : Hid (Below w.heap.size w W4) := Lib.hid (by rw [← hW]; exact s_alloc (s_trans (s_alloc (Below.refl _ _) _) HB.out) _)
          have HLE := Lib.hid HB4.out.size
          clear hW hr hr0 hc1 hz HB HC
          go_wp2_with (first | (refine wpList_load_row rfl 25 _ rfl _ rfl 25 _ (0, 0) _ HROW.out Tryd.underlying25 rfl (by kernel_rfl) ?_) | go_at_call 100; refine (EN.field_3_walk a0_0 a0_1 a0_2 a0_3 a0_4 a0_5 a0_6 a0_7 a0_8 a0_9 a0_10 a0_11 a0_12 a0_13 a0_14 a0_15 a0_16 _).mono ?_; rintro e w2 ⟨rfl, hb2⟩; have HB2 := Lib.hid hb2; clear hb2)
          all_goals
            go_ret2
            exact ⟨rfl, HB4.out.trans (HB2.out.mono HLE.out)⟩
        · skip
          rw [if_neg c0, if_neg c1, if_neg c2, if_neg c3] at h
          obtain ⟨rfl, rfl⟩ := Prod.mk.inj (Option.some.inj h)
          have HC := Lib.hid (fun wx : World => EN.field_none a1 wx c0 c1 c2 c3)
          clear c0 c1 c2 c3
          go_enter Tryd.func27, Tryd.ntmps27
          go_wp2_with (go_at_call 68; refine (HC.out _).mono ?_; rintro e w1 ⟨rfl, hb⟩; have HB := Lib.hid hb; have hc1 := s_cell hb; have hz := s_lt hb; clear hb)
          go_ret2
          exact ⟨rfl, s_alloc (s_trans (s_alloc (Below.refl _ _) _) HB.out) _⟩

/-! ### entry_Late: function 31 -/
def entry_Late.f (a0_0 : Int) (a0_1 : Int) (a0_2 : Int) (a0_3 : Int) (a0_4 : Int) (a0_5 : Int) (a0_6 : ByteArray) (a0_7 : Bool) (a0_8 : Int) (a0_9 : Int) (a0_10 : Int) (a0_11 : ByteArray) (a0_12 : ByteArray) (a0_13 : Int) (a0_14 : Int) (a0_15 : Int) (a0_16 : Bool) : Option (Bool) := some (!(a0_0 == a0_3) || (!(a0_1 == a0_4) || (!(a0_2 == a0_5))))
set_option maxHeartbeats 8000000 in
set_option maxRecDepth 100000 in
theorem entry_Late.calls (a0_0 : Int) (a0_1 : Int) (a0_2 : Int) (a0_3 : Int) (a0_4 : Int) (a0_5 : Int) (a0_6 : ByteArray) (a0_7 : Bool) (a0_8 : Int) (a0_9 : Int) (a0_10 : Int) (a0_11 : ByteArray) (a0_12 : ByteArray) (a0_13 : Int) (a0_14 : Int) (a0_15 : Int) (a0_16 : Bool) (r : Bool) (w : World) (h : entry_Late.f a0_0 a0_1 a0_2 a0_3 a0_4 a0_5 a0_6 a0_7 a0_8 a0_9 a0_10 a0_11 a0_12 a0_13 a0_14 a0_15 a0_16 = some r) :
    Calls Tryd.prog 31 #[.agg #[.int .i64 a0_0, .int .i64 a0_1, .int .i64 a0_2, .int .i64 a0_3, .int .i64 a0_4, .int .i64 a0_5, .string a0_6, .bool a0_7, .int .i64 a0_8, .int .i64 a0_9, .int .i64 a0_10, .string a0_11, .string a0_12, .int .i64 a0_13, .int .i64 a0_14, .int .i64 a0_15, .bool a0_16]] w fun e w' => e = .returned (.bool r) ∧ Below w.heap.size w w' := by
  have hu25 := Tryd.underlying25
  have hu23 := Tryd.underlying23
  have HB := Aside0.mk (Below.refl w.heap.size w)
  have H : (some (!(a0_0 == a0_3) || (!(a0_1 == a0_4) || (!(a0_2 == a0_5))))) = some r := h
  clear h
  obtain rfl := Option.some.inj H
  go_enter Tryd.func31, Tryd.ntmps31
  go_wp2_with (first | ((with_reducible refine gate_dst (N := 1) rfl ?_); refine box_event ?hg (N := 1) ?hd (cs := #[.int .i64 a0_0, .int .i64 a0_1, .int .i64 a0_2, .int .i64 a0_3, .int .i64 a0_4, .int .i64 a0_5, .string a0_6, .bool a0_7, .int .i64 a0_8, .int .i64 a0_9, .int .i64 a0_10, .string a0_11, .string a0_12, .int .i64 a0_13, .int .i64 a0_14, .int .i64 a0_15, .bool a0_16]) (t := 25) ?hr ?_; (case hd => rfl); (case hg => rfl); (case hr => first | (go_simp; done) | (go_simp; rfl)); intro gb105 hg w2 hbox hb; have n0_ := Aside0.mk (below_step (by repeat (first | (with_reducible first | exact HB.out | apply below_alloc | apply pw_below_drewN | apply below_drew1) | exact HB.out)) hb); have n1_ := Aside0.mk (hbox); have n2_ := Aside0.mk ((by rw [hg]; exact (below_size (by repeat (first | (with_reducible first | exact HB.out | apply below_alloc | apply pw_below_drewN | apply below_drew1) | exact HB.out))) : w.heap.size ≤ gb105)); have n3_ := Aside0.mk ((by rw [hg]; exact (below_size (by repeat (first | (with_reducible first | exact HB.out | apply below_alloc | apply pw_below_drewN | apply below_drew1) | exact HB.out))) : w.heap.size ≤ gb105)); clear HB; have HB := n0_; have BK105 := n1_; have GW105 := n2_; have GE105 := n3_; clear n0_ n1_ n2_ n3_; clear hb hbox hg; have hcz3_0 : w2.cell? ⟨gb105, 0, none⟩ = some (.int .i64 a0_0) := (blk_cell BK105.out 0).trans rfl; have hcz3_1 : w2.cell? ⟨gb105, 1, none⟩ = some (.int .i64 a0_1) := (blk_cell BK105.out 1).trans rfl; have hcz3_2 : w2.cell? ⟨gb105, 2, none⟩ = some (.int .i64 a0_2) := (blk_cell BK105.out 2).trans rfl; have hcz3_3 : w2.cell? ⟨gb105, 3, none⟩ = some (.int .i64 a0_3) := (blk_cell BK105.out 3).trans rfl; have hcz3_4 : w2.cell? ⟨gb105, 4, none⟩ = some (.int .i64 a0_4) := (blk_cell BK105.out 4).trans rfl; have hcz3_5 : w2.cell? ⟨gb105, 5, none⟩ = some (.int .i64 a0_5) := (blk_cell BK105.out 5).trans rfl; have hcz3_6 : w2.cell? ⟨gb105, 6, none⟩ = some (.string a0_6) := (blk_cell BK105.out 6).trans rfl; have hcz3_7 : w2.cell? ⟨gb105, 7, none⟩ = some (.bool a0_7) := (blk_cell BK105.out 7).trans rfl; have hcz3_8 : w2.cell? ⟨gb105, 8, none⟩ = some (.int .i64 a0_8) := (blk_cell BK105.out 8).trans rfl; have hcz3_9 : w2.cell? ⟨gb105, 9, none⟩ = some (.int .i64 a0_9) := (blk_cell BK105.out 9).trans rfl; have hcz3_10 : w2.cell? ⟨gb105, 10, none⟩ = some (.int .i64 a0_10) := (blk_cell BK105.out 10).trans rfl; have hcz3_11 : w2.cell? ⟨gb105, 11, none⟩ = some (.string a0_11) := (blk_cell BK105.out 11).trans rfl; have hcz3_12 : w2.cell? ⟨gb105, 12, none⟩ = some (.string a0_12) := (blk_cell BK105.out 12).trans rfl; have hcz3_13 : w2.cell? ⟨gb105, 13, none⟩ = some (.int .i64 a0_13) := (blk_cell BK105.out 13).trans rfl; have hcz3_14 : w2.cell? ⟨gb105, 14, none⟩ = some (.int .i64 a0_14) := (blk_cell BK105.out 14).trans rfl; have hcz3_15 : w2.cell? ⟨gb105, 15, none⟩ = some (.int .i64 a0_15) := (blk_cell BK105.out 15).trans rfl; have hcz3_16 : w2.cell? ⟨gb105, 16, none⟩ = some (.bool a0_16) := (blk_cell BK105.out 16).trans rfl; have hfz3_0 := blk_frozen BK105.out 0; have hfz3_1 := blk_frozen BK105.out 1; have hfz3_2 := blk_frozen BK105.out 2; have hfz3_3 := blk_frozen BK105.out 3; have hfz3_4 := blk_frozen BK105.out 4; have hfz3_5 := blk_frozen BK105.out 5; have hfz3_6 := blk_frozen BK105.out 6; have hfz3_7 := blk_frozen BK105.out 7; have hfz3_8 := blk_frozen BK105.out 8; have hfz3_9 := blk_frozen BK105.out 9; have hfz3_10 := blk_frozen BK105.out 10; have hfz3_11 := blk_frozen BK105.out 11; have hfz3_12 := blk_frozen BK105.out 12; have hfz3_13 := blk_frozen BK105.out 13; have hfz3_14 := blk_frozen BK105.out 14; have hfz3_15 := blk_frozen BK105.out 15; have hfz3_16 := blk_frozen BK105.out 16))
  go_ret
  exact ⟨by first | rfl | (simp [errW_none, errW_some] <;> rfl) | (simp [*, errW_none, errW_some] <;> rfl), by repeat (first | (with_reducible first | exact HB.out | apply below_alloc | apply pw_below_drewN | apply below_drew1 | refine below_set ?_ GE105.out) | exact HB.out)⟩

/-! ### entry_Fields: function 36 -/
def entry_Fields.f  : Option (List ByteArray) := some (([(⟨#[98, 97, 115, 101]⟩ : ByteArray), (⟨#[116, 97, 120]⟩ : ByteArray), (⟨#[111, 117, 116]⟩ : ByteArray), (⟨#[105, 110]⟩ : ByteArray)] : List ByteArray))
set_option maxHeartbeats 8000000 in
set_option maxRecDepth 100000 in
theorem entry_Fields.calls  (r : List ByteArray) (w : World) (h : entry_Fields.f  = some r) :
    Calls Tryd.prog 36 #[] w fun e w' => ∃ v0_ : Value, e = .returned (v0_) ∧ Kd.R Kd.string 9 w' w.heap.size (fun _ => True) v0_ r ∧ Below w.heap.size w w' := by
  have HB := Aside0.mk (Below.refl w.heap.size w)
  have H : (some (([(⟨#[98, 97, 115, 101]⟩ : ByteArray), (⟨#[116, 97, 120]⟩ : ByteArray), (⟨#[111, 117, 116]⟩ : ByteArray), (⟨#[105, 110]⟩ : ByteArray)] : List ByteArray))) = some r := h
  clear h
  obtain ⟨y106, hy106⟩ : ∃ y_ : List ByteArray, y_ = (([(⟨#[98, 97, 115, 101]⟩ : ByteArray), (⟨#[116, 97, 120]⟩ : ByteArray), (⟨#[111, 117, 116]⟩ : ByteArray), (⟨#[105, 110]⟩ : ByteArray)] : List ByteArray)) := ⟨_, rfl⟩
  replace H : (some y106) = some r := by first | (rw [hy106]; with_reducible exact H) | (have H2_ := (Option.bind_some _ _).symm.trans H; rw [hy106]; with_reducible exact H2_) | (have H2_ := (Option.bind_some _ _).symm.trans H; with_reducible exact H2_) | with_reducible exact H | (rw [hy106]; exact H) | exact H
  have Ny106 := Aside0.mk hy106
  clear hy106
  obtain rfl := Option.some.inj H
  go_enter Tryd.func36, Tryd.ntmps36
  go_wp2_with (first | ((with_reducible refine gate_dst (N := 1) rfl ?_); refine Kd.R_lit Kd.string _ 9 ?hg (N := 1) ?hd (xs := ([(⟨#[98, 97, 115, 101]⟩ : ByteArray), (⟨#[116, 97, 120]⟩ : ByteArray), (⟨#[111, 117, 116]⟩ : ByteArray), (⟨#[105, 110]⟩ : ByteArray)] : List ByteArray)) (inner := [.string (⟨#[98, 97, 115, 101]⟩ : ByteArray), .string (⟨#[116, 97, 120]⟩ : ByteArray), .string (⟨#[111, 117, 116]⟩ : ByteArray), .string (⟨#[105, 110]⟩ : ByteArray)]) (ok := fun _ => True) (okp := fun _ => True) ?hr ?hp (fun _ hk => hk) trivial (Below.refl _ _) (Nat.le_refl _) (by simp) ?_; (case hd => rfl); (case hg => rfl); (case hr => first | (go_simp; done) | (go_simp; rfl)); (case hp => exact (Reps.one (show Kd.M Kd.string _ _ _ (⟨#[98, 97, 115, 101]⟩ : ByteArray) [.string (⟨#[98, 97, 115, 101]⟩ : ByteArray)] from rfl) (Reps.one (show Kd.M Kd.string _ _ _ (⟨#[116, 97, 120]⟩ : ByteArray) [.string (⟨#[116, 97, 120]⟩ : ByteArray)] from rfl) (Reps.one (show Kd.M Kd.string _ _ _ (⟨#[111, 117, 116]⟩ : ByteArray) [.string (⟨#[111, 117, 116]⟩ : ByteArray)] from rfl) (Reps.one (show Kd.M Kd.string _ _ _ (⟨#[105, 110]⟩ : ByteArray) [.string (⟨#[105, 110]⟩ : ByteArray)] from rfl) (Reps.none _ _)))))); intro v107 w1 ho2 hb hg_ hnew_; clear hg_ hnew_; (first | rw [← Ny106.out] at ho2 | (simp only [Int.reduceToNat] at ho2; rw [← Ny106.out] at ho2)); have n0_ := Aside0.mk (Kd.R_lower ho2 (below_size (by repeat (first | (with_reducible first | exact HB.out | apply below_alloc | apply pw_below_drewN | apply below_drew1) | exact HB.out)))); have n1_ := Aside0.mk (below_step (by repeat (first | (with_reducible first | exact HB.out | apply below_alloc | apply pw_below_drewN | apply below_drew1) | exact HB.out)) hb); clear HB; have HO108 := n0_; have HB := n1_; clear n0_ n1_; clear hb ho2))
  go_ret
  exact ⟨_, by first | rfl | (simp [errW_none, errW_some] <;> rfl) | (simp [*, errW_none, errW_some] <;> rfl), by (with_reducible repeat (first | apply Kd.R_alloc | apply Kd.R_drewN | apply Kd.R_drew)); exact HO108.out, by repeat (first | (with_reducible first | exact HB.out | apply below_alloc | apply pw_below_drewN | apply below_drew1) | exact HB.out)⟩

-- NOT PRINTED: function 119 (abi_NoEscape)

-- NOT PRINTED: function 91 (strings_Builder_copyCheck)

-- NOT PRINTED: function 51 (strings_Builder_WriteString)

-- NOT PRINTED: function 93 (treat_names)

/-! ### treat_Name: function 53 (by hand) -/
def treat_Name.f (a0 : Int) : Option (ByteArray) := some (EN.nameS a0)
theorem treat_Name.calls (a0 : Int) (r : ByteArray) (w : World) (h : treat_Name.f a0 = some r) :
    Calls Tryd.prog 53 #[.int .i64 a0] w fun e w' => e = .returned (.string r) ∧ Below w.heap.size w w' := by
  obtain rfl := Option.some.inj h
  by_cases h1 : 0 ≤ a0 ∧ a0 < 16
  · exact EN.name_in a0 h1.1 h1.2 w
  · exact EN.name_out a0 h1 w

-- NOT PRINTED: function 54 (strings_Builder_String)

/-! ### entry_Line: function 13 (by hand) -/
open Go.Proofs.YtlciddgncngniaaDoorK Go.Proofs.YtlciddgncngniaaDoor.BX
def in64 (n : Int) : Bool := decide (-9223372036854775808 ≤ n ∧ n ≤ 9223372036854775807)
/-- A row's line. -/
def lineL (nm : ByteArray) (sale late : Bool) (rat bas tax owed ded : Int) : List UInt8 :=
  nm.data.toList ++ (if sale = true then [32, 83] else [32, 80]) ++ (32 :: Lib.itoa rat) ++ EN.numsL [bas, tax, owed, ded] ++ (if late = true then [32, 76] else [])
def entry_Line.f (a0_0 : Int) (a0_1 : Int) (a0_2 : Int) (a0_3 : Int) (a0_4 : Int) (a0_5 : Int) (a0_6 : ByteArray) (a0_7 : Bool) (a0_8 : Int) (a0_9 : Int) (a0_10 : Int) (a0_11 : ByteArray) (a0_12 : ByteArray) (a0_13 : Int) (a0_14 : Int) (a0_15 : Int) (a0_16 : Bool) : Option (ByteArray) :=
  (treat_Name.f a0_9).bind fun nm => (entry_Owed.f a0_0 a0_1 a0_2 a0_3 a0_4 a0_5 a0_6 a0_7 a0_8 a0_9 a0_10 a0_11 a0_12 a0_13 a0_14 a0_15 a0_16).bind fun ow => (entry_Late.f a0_0 a0_1 a0_2 a0_3 a0_4 a0_5 a0_6 a0_7 a0_8 a0_9 a0_10 a0_11 a0_12 a0_13 a0_14 a0_15 a0_16).bind fun late =>
    if nm.size ≤ 1000 ∧ in64 a0_10 = true ∧ in64 a0_13 = true ∧ in64 a0_14 = true ∧ in64 ow = true ∧ in64 a0_15 = true then some ⟨(lineL nm a0_7 late a0_10 a0_13 a0_14 ow a0_15).toArray⟩ else none
def vsL (bas tax ow ded : Int) (k : Nat) : Int := if k = 0 then bas else if k = 1 then tax else if k = 2 then ow else ded
theorem vsL_take (bas tax ow ded : Int) (k : Nat) (hk : k < 4) : [bas, tax, ow, ded].take (k + 1) = [bas, tax, ow, ded].take k ++ [vsL bas tax ow ded k] := by
  have : k = 0 ∨ k = 1 ∨ k = 2 ∨ k = 3 := by omega
  rcases this with rfl | rfl | rfl | rfl <;> rfl
theorem numsL_len : ∀ l : List Int, (∀ n ∈ l, in64 n = true) → (EN.numsL l).length ≤ 22 * l.length
  | [], _ => Nat.le_refl _
  | n :: l, h => by
    have h1 := numsL_len l (fun m hm => h m (List.mem_cons_of_mem _ hm))
    have h2 := h n (List.mem_cons_self ..)
    unfold in64 at h2
    have h3 := of_decide_eq_true h2
    have h4 := Lib.itoa_length_le n h3.1 h3.2
    rw [EN.numsL, List.length_append, List.length_cons, List.length_cons]
    omega
theorem entry_fieldK (a0_0 : Int) (a0_1 : Int) (a0_2 : Int) (a0_3 : Int) (a0_4 : Int) (a0_5 : Int) (a0_6 : ByteArray) (a0_7 : Bool) (a0_8 : Int) (a0_9 : Int) (a0_10 : Int) (a0_11 : ByteArray) (a0_12 : ByteArray) (a0_13 : Int) (a0_14 : Int) (a0_15 : Int) (a0_16 : Bool) (ow : Int) (hO : entry_Owed.f a0_0 a0_1 a0_2 a0_3 a0_4 a0_5 a0_6 a0_7 a0_8 a0_9 a0_10 a0_11 a0_12 a0_13 a0_14 a0_15 a0_16 = some ow) (k : Nat) (hk : k < 4) : entry_Field.f a0_0 a0_1 a0_2 a0_3 a0_4 a0_5 a0_6 a0_7 a0_8 a0_9 a0_10 a0_11 a0_12 a0_13 a0_14 a0_15 a0_16 (EN.nmF k) = some (vsL a0_13 a0_14 ow a0_15 k, true) := by
  have : k = 0 ∨ k = 1 ∨ k = 2 ∨ k = 3 := by omega
  have e0 : (EN.nmF 0).toList = [98, 97, 115, 101] := by rw [ByteArray.toList_eq]; rfl
  have e1 : (EN.nmF 1).toList = [116, 97, 120] := by rw [ByteArray.toList_eq]; rfl
  have e2 : (EN.nmF 2).toList = [111, 117, 116] := by rw [ByteArray.toList_eq]; rfl
  have e3 : (EN.nmF 3).toList = [105, 110] := by rw [ByteArray.toList_eq]; rfl
  rcases this with rfl | rfl | rfl | rfl
  · unfold entry_Field.f; rw [e0]; rfl
  · unfold entry_Field.f; rw [e1]; rfl
  · unfold entry_Field.f; rw [e2, hO]; rfl
  · unfold entry_Field.f; rw [e3]; rfl
theorem len_a (nm : ByteArray) (h : nm.size ≤ 1000) : ([] : List UInt8).length + nm.size ≤ 140737488355328 := by
  simp only [List.length_nil]
  omega
theorem len_b (nm s : ByteArray) (h : nm.size ≤ 1000) (h2 : s.size ≤ 2) : ([] ++ nm.data.toList).length + s.size ≤ 140737488355328 := by
  have q : nm.data.toList.length = nm.size := Array.length_toList
  rw [List.nil_append, q]
  omega
theorem len_c (nm : ByteArray) (s : List UInt8) (h : nm.size ≤ 1000) (h2 : s.length ≤ 2) : (([] ++ nm.data.toList) ++ s).length + 22 ≤ 140737488355328 := by
  have q : nm.data.toList.length = nm.size := Array.length_toList
  rw [List.nil_append, List.length_append, q]
  omega
theorem len_d (nm : ByteArray) (s : List UInt8) (n : Int) (h : nm.size ≤ 1000) (h2 : s.length ≤ 2) (hn : -9223372036854775808 ≤ n ∧ n ≤ 9223372036854775807) : ((([] ++ nm.data.toList) ++ s) ++ 32 :: Lib.itoa n).length ≤ 1100 := by
  have q : nm.data.toList.length = nm.size := Array.length_toList
  have q3 := Lib.itoa_length_le n hn.1 hn.2
  rw [List.nil_append, List.length_append, List.length_append, List.length_cons, q]
  omega
theorem len_e (l : List UInt8) (vl : List Int) (h : l.length ≤ 1100) (hv : ∀ n ∈ vl, in64 n = true) (k : Nat) (hk : k ≤ 4) : (l ++ EN.numsL (vl.take k)).length + 22 ≤ 140737488355328 := by
  have q := numsL_len (vl.take k) (fun n hn => hv n (List.mem_of_mem_take hn))
  have q2 : (vl.take k).length ≤ 4 := Nat.le_trans (List.length_take_le _ _) hk
  rw [List.length_append]
  omega
set_option maxHeartbeats 2000000 in
set_option maxRecDepth 100000 in
theorem entry_Line.calls (a0_0 : Int) (a0_1 : Int) (a0_2 : Int) (a0_3 : Int) (a0_4 : Int) (a0_5 : Int) (a0_6 : ByteArray) (a0_7 : Bool) (a0_8 : Int) (a0_9 : Int) (a0_10 : Int) (a0_11 : ByteArray) (a0_12 : ByteArray) (a0_13 : Int) (a0_14 : Int) (a0_15 : Int) (a0_16 : Bool) (r : ByteArray) (w : World) (hT_ : BX.Tab w) (h : entry_Line.f a0_0 a0_1 a0_2 a0_3 a0_4 a0_5 a0_6 a0_7 a0_8 a0_9 a0_10 a0_11 a0_12 a0_13 a0_14 a0_15 a0_16 = some r) :
    Calls Tryd.prog 13 #[.agg #[.int .i64 a0_0, .int .i64 a0_1, .int .i64 a0_2, .int .i64 a0_3, .int .i64 a0_4, .int .i64 a0_5, .string a0_6, .bool a0_7, .int .i64 a0_8, .int .i64 a0_9, .int .i64 a0_10, .string a0_11, .string a0_12, .int .i64 a0_13, .int .i64 a0_14, .int .i64 a0_15, .bool a0_16]] w fun e w' => e = .returned (.string r) ∧ Below w.heap.size w w' := by
  unfold entry_Line.f at h
  obtain ⟨nm, hN, h⟩ := Option.bind_eq_some_iff.1 h
  obtain ⟨ow, hO, h⟩ := Option.bind_eq_some_iff.1 h
  obtain ⟨late, hLt, h⟩ := Option.bind_eq_some_iff.1 h
  split at h
  case isFalse => exact absurd h (by simp)
  rename_i hb
  obtain ⟨hb0, hb1, hb2, hb3, hb4, hb5⟩ := hb
  obtain rfl := Option.some.inj h
  clear h
  have hmf : ∀ (fn : Fn) (first cap : Array Value) (w : World), (Instr.makeFunc fn first cap).run Tryd.prog w = .ok (.func fn first cap) w := fun _ _ _ _ => rfl
  have HRT := Lib.hid (of_decide_eq_true (show decide (-9223372036854775808 ≤ a0_10 ∧ a0_10 ≤ 9223372036854775807) = true from hb1))
  have hall : ∀ n ∈ [a0_13, a0_14, ow, a0_15], in64 n = true := by
    intro n hn
    simp only [List.mem_cons, List.not_mem_nil, or_false] at hn
    rcases hn with rfl | rfl | rfl | rfl <;> assumption
  have hvs : ∀ k, k < 4 → in64 (vsL a0_13 a0_14 ow a0_15 k) = true := by
    intro k hk
    have : k = 0 ∨ k = 1 ∨ k = 2 ∨ k = 3 := by omega
    rcases this with rfl | rfl | rfl | rfl <;> assumption
  have HVS := Lib.hid hvs
  have HALL := Lib.hid hall
  have HFK := Lib.hid (entry_fieldK a0_0 a0_1 a0_2 a0_3 a0_4 a0_5 a0_6 a0_7 a0_8 a0_9 a0_10 a0_11 a0_12 a0_13 a0_14 a0_15 a0_16 ow hO)
  have HN := Lib.hid hN
  have HLT := Lib.hid hLt
  have HNZ := Lib.hid hb0
  clear hN hO hLt hb0 hb1 hb2 hb3 hb4 hb5 hall hvs
  generalize hv : vsL a0_13 a0_14 ow a0_15 = vs at HVS HFK
  have HV := Lib.hid hv
  clear hv
  generalize hll : lineL nm a0_7 late a0_10 a0_13 a0_14 ow a0_15 = LL
  have HLL := Lib.hid hll
  clear hll
  go_enter Tryd.func13, Tryd.ntmps13
  go_upto_region 3 with (fail)
  generalize hW0 : w.alloc (Obj.cells #[Value.int IntKind.i64 a0_0, Value.int IntKind.i64 a0_1, Value.int IntKind.i64 a0_2, Value.int IntKind.i64 a0_3, Value.int IntKind.i64 a0_4, Value.int IntKind.i64 a0_5, Value.string a0_6, Value.bool a0_7, Value.int IntKind.i64 a0_8, Value.int IntKind.i64 a0_9, Value.int IntKind.i64 a0_10, Value.string a0_11, Value.string a0_12, Value.int IntKind.i64 a0_13, Value.int IntKind.i64 a0_14, Value.int IntKind.i64 a0_15, Value.bool a0_16] 25) = W0
  have hr0 : W0.heap[w.heap.size]? = some (.cells #[.int .i64 a0_0, .int .i64 a0_1, .int .i64 a0_2, .int .i64 a0_3, .int .i64 a0_4, .int .i64 a0_5, .string a0_6, .bool a0_7, .int .i64 a0_8, .int .i64 a0_9, .int .i64 a0_10, .string a0_11, .string a0_12, .int .i64 a0_13, .int .i64 a0_14, .int .i64 a0_15, .bool a0_16] 25 (0, 0)) := by
    rw [← hW0]
    exact Array.getElem?_push_size
  have hB0 : W0.heap.size = w.heap.size + 1 := by rw [← hW0]; simp
  have hbw : Below w.heap.size w W0 := by
    rw [← hW0]
    exact s_alloc (Below.refl _ _) _
  have HBW := Lib.hid hbw
  have HTT : Hid (∀ w', Below W0.heap.size W0 w' → BX.Tab w') := Lib.hid (fun w' hb => (hT_.below hbw).below hb)
  clear hT_ hbw hW0
  generalize hg : w.heap.size = g at hr0 hB0 HBW
  have HG := Lib.hid hg
  clear hg
  have hbl := Lib.fresh_isBuilder 83 5 W0
  have hX : BX.Txt W0.heap.size W0.heap.size [] W0 (W0.alloc (.cells #[.pointer none, .slice none 0 0] 83)) := ⟨hbl, (Below.refl _ _).alloc (Nat.le_refl _) _, (Lib.OthersKept.refl _ _ _).alloc _⟩
  have hBle : W0.heap.size ≤ (W0.alloc (.cells #[.pointer none, .slice none 0 0] 83)).heap.size := by simp
  rw [hB0] at hX hBle
  have HX := Lib.hid hX
  have HBLE := Lib.hid hBle
  have htt := HTT.out
  rw [hB0] at htt
  have HTG : Hid (∀ w', Below (g + 1) W0 w' → BX.Tab w') := Lib.hid htt
  have HR : Hid ((W0.alloc (.cells #[.pointer none, .slice none 0 0] 83)).heap[g]? = some (.cells #[.int .i64 a0_0, .int .i64 a0_1, .int .i64 a0_2, .int .i64 a0_3, .int .i64 a0_4, .int .i64 a0_5, .string a0_6, .bool a0_7, .int .i64 a0_8, .int .i64 a0_9, .int .i64 a0_10, .string a0_11, .string a0_12, .int .i64 a0_13, .int .i64 a0_14, .int .i64 a0_15, .bool a0_16] 25 (0, 0))) := Lib.hid (block_alloc hr0 _)
  generalize hWA : W0.alloc (.cells #[.pointer none, .slice none 0 0] 83) = WA at HX HBLE HR
  have HGB : Hid (g < g + 1) := Lib.hid (Nat.lt_succ_self g)
  clear hX hBle hr0 hbl hB0 hWA HTT htt
  have hc9 := blk_cell HR.out 9
  have hc7 := blk_cell HR.out 7
  have hc10 := blk_cell HR.out 10

  cases a0_7
  all_goals
    go_upto_region 4 with (first
      | (go_at_call 53; refine (treat_Name.calls a0_9 nm _ HN.out).mono ?_; rintro e w1 ⟨rfl, hb1⟩; have HX1 := Lib.hid (HX.out.made hb1 HBLE.out); have HR1 := Lib.hid (block_on hb1 HR.out); have HLE1 := Lib.hid (Nat.le_trans HBLE.out hb1.size); clear hb1)
      | (go_at_call 51; refine (BX.writeString_txt (g + 1) (g + 1) [] nm W0 _ HX1.out (len_a nm HNZ.out) HLE1.out).mono ?_; rintro e w2 ⟨rfl, h2, hb2⟩; have HX2 := Lib.hid h2; have HR2 := Lib.hid ((hb2.block g HGB.out).trans HR1.out); have HLE2 := Lib.hid (Nat.le_trans HLE1.out hb2.size); have hd7 := blk_cell HR2.out 7; clear h2 hb2))
    go_upto_region 7 with ((go_at_call 51; refine (BX.writeString_txt (g + 1) (g + 1) _ _ W0 _ HX2.out (len_b nm _ HNZ.out (by decide)) HLE2.out).mono ?_; rintro e w3 ⟨rfl, h3, hb3⟩; have HX3 := Lib.hid h3; have HR3 := Lib.hid ((hb3.block g HGB.out).trans HR2.out); have HLE3 := Lib.hid (Nat.le_trans HLE2.out hb3.size); clear h3 hb3))
    have he10 := blk_cell HR3.out 10
    clear hd7 hc9 hc7 hc10
    go_upto_region 8 with (go_at_call 49; refine (EN.put_walk (g + 1) (g + 1) _ a0_10 W0 _ HX3.out HLE3.out (len_c nm _ HNZ.out (by decide)) HRT.out.1 HRT.out.2 HTG.out).mono ?_; rintro e w4 ⟨rfl, h4, hb4⟩; have HX4 := Lib.hid h4; have HR4 := Lib.hid ((hb4.block g HGB.out).trans HR3.out); have HLE4 := Lib.hid (Nat.le_trans HLE3.out hb4.size); clear h4 hb4)
    obtain ⟨l4, hlen4, hLL4, hX4⟩ : ∃ l4 : List UInt8, l4.length ≤ 1100 ∧ LL = l4 ++ EN.numsL [a0_13, a0_14, ow, a0_15] ++ (if late = true then [32, 76] else []) ∧ BX.Txt (g + 1) (g + 1) l4 W0 w4 :=
      ⟨_, len_d nm _ a0_10 HNZ.out (by decide) HRT.out, by rw [← HLL.out]; unfold lineL; simp, HX4.out⟩
    have HX5 := Lib.hid hX4
    have HLEN := Lib.hid hlen4
    have HLL4 := Lib.hid hLL4
    clear hlen4 hLL4 hX4 HX4 HX3 HR3 HLE3 HX2 HR2 HLE2 HX1 HR1 HLE1 HX HR HBLE he10
    go_upto_region 9 with (go_at_call 36; refine (EN.fields_walk _).mono ?_; rintro e w5 ⟨rfl, hf5, hb5⟩; have HF5 := Lib.hid hf5; have HX6 := Lib.hid (HX5.out.made hb5 HLE4.out); have HR5 := Lib.hid (block_on hb5 HR4.out); have HLE5 := Lib.hid (Nat.le_trans HLE4.out hb5.size); have hgf := HLE4.out; clear hb5 hf5)
    have HGF : Hid (w4.heap.size ≠ g + 1) := Lib.hid (fun e => by have := BX.IsBuilder_lt HX5.out.is; omega)
    generalize w4.heap.size = gf at *
    have hTB : ∀ w', Below (g + 1) w5 w' → BX.Tab w' := fun w' hb => HTG.out w' (HX6.out.below.trans hb)
    have HTB := Lib.hid hTB
    have hX7 : BX.Txt (g + 1) (g + 1) (l4 ++ EN.numsL ([a0_13, a0_14, ow, a0_15].take 0)) w5 w5 := ⟨by have q := HX6.out.is; simpa [EN.numsL] using q, Below.refl _ _, Lib.OthersKept.refl _ _ _⟩
    have HX7 := Lib.hid hX7
    have HB5 := Lib.hid HX6.out.below
    clear hX7 hTB hgf HX6 HX5 HR4 HLE4
    go_loopw [24] (fun v wr => ∃ k : Nat, v = .int .i64 k ∧ Hid (k ≤ 4) ∧ Hid (BX.Txt (g + 1) (g + 1) (l4 ++ EN.numsL ([a0_13, a0_14, ow, a0_15].take k)) w5 wr) ∧ Hid (g + 1 ≤ wr.heap.size)) (fun v _ => (4 - (intOf v).toNat))
    case atStart => exact ⟨0, rfl, Lib.hid (by omega), HX7, HLE5⟩
    case round =>
      obtain ⟨k, rfl, hk4, HXk, HLk⟩ := hrel
      have HRk := Lib.hid ((HXk.out.below.block g HGB.out).trans HR5.out)
      by_cases hlt : k < 4
      · have hcell := EN.nmF_cell (HXk.out.others _ _ HF5.out (fun e => HGF.out (Option.some.inj e)) (by intro c fz hc; injection hc with _ h2 _; exact absurd h2 (by decide))) k hlt
        have hfk := HFK.out k hlt
        have hvk := of_decide_eq_true (show decide (-9223372036854775808 ≤ vs k ∧ vs k ≤ 9223372036854775807) = true from HVS.out k hlt)
        have htk := vsL_take a0_13 a0_14 ow a0_15 k hlt
        rw [HV.out] at htk
        have HTK := Lib.hid htk
        have HFKk := Lib.hid hfk
        obtain ⟨hv0, hv1⟩ := hvk
        have hlk := len_e l4 _ HLEN.out HALL.out k hk4.out
        have HLK := Lib.hid hlk
        clear htk hfk hlk
        generalize EN.nmF k = nmk at hcell HFKk
        generalize vs k = vk at HFKk HTK hv0 hv1
        go_wp2_with (first
          | (refine wpList_load_row rfl 25 _ rfl _ rfl 25 _ (0, 0) _ HRk.out Tryd.underlying25 rfl (by kernel_rfl) ?_)
          | (go_at_call 27; refine (entry_Field.calls _ _ _ _ _ _ _ _ _ _ _ _ _ _ _ _ _ nmk vk true _ HFKk.out).mono ?_; rintro e w6 ⟨rfl, hb6⟩; have HX8 := Lib.hid (HXk.out.made hb6 HLk.out); have HL6 := Lib.hid (Nat.le_trans HLk.out hb6.size); clear hb6)
          | (go_at_call 49; refine (EN.put_walk (g + 1) (g + 1) _ vk w5 _ HX8.out HL6.out HLK.out hv0 hv1 HTB.out).mono ?_; rintro e w7 ⟨rfl, h7, hb7⟩; have HX9 := Lib.hid h7; have HL7 := Lib.hid (Nat.le_trans HL6.out hb7.size); clear h7 hb7))
        go_roundw
        case rel => exact ⟨k + 1, by simp, Lib.hid (by omega), Lib.hid (by rw [HTK.out, EN.numsL_snoc, ← List.append_assoc]; exact HX9.out), HL7⟩
        case measure => simp [intOf]; omega
      · obtain rfl : k = 4 := by have := hk4.out; omega
        have hXe : BX.Txt (g + 1) (g + 1) (l4 ++ EN.numsL [a0_13, a0_14, ow, a0_15]) w5 wr := HXk.out
        have HXe := Lib.hid hXe
        have hle := len_e l4 [a0_13, a0_14, ow, a0_15] HLEN.out HALL.out 4 (Nat.le_refl _)
        have HLEe : Hid ((l4 ++ EN.numsL [a0_13, a0_14, ow, a0_15]).length + 22 ≤ 140737488355328) := Lib.hid hle
        clear hXe hle
        have hlt2 := fun wx => entry_Late.calls _ _ _ _ _ _ _ _ _ _ _ _ _ _ _ _ _ late wx HLT.out
        have HLTC := Lib.hid hlt2
        clear hlt2
        cases late
        all_goals
          go_wp2_with (first
            | (refine wpList_load_row rfl 25 _ rfl _ rfl 25 _ (0, 0) _ HRk.out Tryd.underlying25 rfl (by kernel_rfl) ?_)
            | (go_at_call 31; refine (HLTC.out _).mono ?_; rintro e w6 ⟨rfl, hb6⟩; have HX8 := Lib.hid (HXe.out.made hb6 HLk.out); have HL6 := Lib.hid (Nat.le_trans HLk.out hb6.size); clear hb6)
            | (go_at_call 51; refine (BX.writeString_txt (g + 1) (g + 1) _ _ w5 _ HX8.out (by have q := HLEe.out; exact Nat.le_trans (Nat.add_le_add_left (by decide) _) q) HL6.out).mono ?_; rintro e w7 ⟨rfl, h7, hb7⟩; have HX9 := Lib.hid h7; have HL7 := Lib.hid (Nat.le_trans HL6.out hb7.size); clear h7 hb7)
            | (go_at_call 54; refine (BX.string_any (g + 1) (g + 1) _ _ (by first | exact HX9.out.is | exact HX8.out.is) (by first | exact HL7.out | exact HL6.out)).mono ?_; rintro e w8 ⟨rfl, hb8⟩; have HB8 := Lib.hid hb8; clear hb8))
          go_ret
          refine ⟨?_, ?_⟩
          · have q := HLL4.out
            simp at q
            subst q
            simp
          · rw [HG.out]
            first
              | exact HBW.out.trans ((HB5.out.trans (HX9.out.below.trans HB8.out)).mono (Nat.le_succ g))
              | exact HBW.out.trans ((HB5.out.trans (HX8.out.below.trans HB8.out)).mono (Nat.le_succ g))

/-! ### octroilaw24_Sold: function 48 -/
def octroilaw24_Sold.f  : Option (Int × Int × Int × Int × Int × Int × ByteArray × Bool × Int × Int × Int × ByteArray × ByteArray × Int × Int × Int × Bool) := some (0, 0, 0, 0, 0, 0, (⟨#[97]⟩ : ByteArray), true, 1, 1, 1900, (⟨#[68, 69]⟩ : ByteArray), (⟨#[]⟩ : ByteArray), 1000, 190, 0, false)
set_option maxHeartbeats 8000000 in
set_option maxRecDepth 100000 in
theorem octroilaw24_Sold.calls  (r1 : Int) (r2 : Int) (r3 : Int) (r4 : Int) (r5 : Int) (r6 : Int) (r7 : ByteArray) (r8 : Bool) (r9 : Int) (r10 : Int) (r11 : Int) (r12 : ByteArray) (r13 : ByteArray) (r14 : Int) (r15 : Int) (r16 : Int) (r17 : Bool) (w : World) (h : octroilaw24_Sold.f  = some (r1, r2, r3, r4, r5, r6, r7, r8, r9, r10, r11, r12, r13, r14, r15, r16, r17)) :
    Calls Tryd.prog 48 #[] w fun e w' => e = .returned (.agg #[.int .i64 r1, .int .i64 r2, .int .i64 r3, .int .i64 r4, .int .i64 r5, .int .i64 r6, .string r7, .bool r8, .int .i64 r9, .int .i64 r10, .int .i64 r11, .string r12, .string r13, .int .i64 r14, .int .i64 r15, .int .i64 r16, .bool r17]) ∧ Below w.heap.size w w' := by
  have hu25 := Tryd.underlying25
  have HB := Aside0.mk (Below.refl w.heap.size w)
  have H : (some (0, 0, 0, 0, 0, 0, (⟨#[97]⟩ : ByteArray), true, 1, 1, 1900, (⟨#[68, 69]⟩ : ByteArray), (⟨#[]⟩ : ByteArray), 1000, 190, 0, false)) = some (r1, r2, r3, r4, r5, r6, r7, r8, r9, r10, r11, r12, r13, r14, r15, r16, r17) := h
  clear h
  simp only [Option.some.injEq, Prod.mk.injEq] at H
  obtain ⟨rfl, rfl, rfl, rfl, rfl, rfl, rfl, rfl, rfl, rfl, rfl, rfl, rfl, rfl, rfl, rfl, rfl⟩ := H
  go_enter Tryd.func48, Tryd.ntmps48
  go_wp2_with (first | ((with_reducible refine gate_dst (N := 0) rfl ?_); refine box_event ?hg (N := 0) ?hd (cs := #[.int .i64 0, .int .i64 0, .int .i64 0, .int .i64 0, .int .i64 0, .int .i64 0, .string (⟨#[]⟩ : ByteArray), .bool false, .int .i64 0, .int .i64 0, .int .i64 0, .string (⟨#[]⟩ : ByteArray), .string (⟨#[]⟩ : ByteArray), .int .i64 0, .int .i64 0, .int .i64 0, .bool false]) (t := 25) ?hr ?_; (case hd => rfl); (case hg => rfl); (case hr => first | (go_simp; done) | (go_simp; rfl)); intro gb109 hg w1 hbox hb; have n0_ := Aside0.mk (below_step (by repeat (first | (with_reducible first | exact HB.out | apply below_alloc | apply pw_below_drewN | apply below_drew1) | exact HB.out)) hb); have n1_ := Aside0.mk (hbox); have n2_ := Aside0.mk ((by rw [hg]; exact (below_size (by repeat (first | (with_reducible first | exact HB.out | apply below_alloc | apply pw_below_drewN | apply below_drew1) | exact HB.out))) : w.heap.size ≤ gb109)); have n3_ := Aside0.mk ((by rw [hg]; exact (below_size (by repeat (first | (with_reducible first | exact HB.out | apply below_alloc | apply pw_below_drewN | apply below_drew1) | exact HB.out))) : w.heap.size ≤ gb109)); clear HB; have HB := n0_; have BK109 := n1_; have GW109 := n2_; have GE109 := n3_; clear n0_ n1_ n2_ n3_; clear hb hbox hg; have hcz2_0 : w1.cell? ⟨gb109, 0, none⟩ = some (.int .i64 0) := (blk_cell BK109.out 0).trans rfl; have hcz2_1 : w1.cell? ⟨gb109, 1, none⟩ = some (.int .i64 0) := (blk_cell BK109.out 1).trans rfl; have hcz2_2 : w1.cell? ⟨gb109, 2, none⟩ = some (.int .i64 0) := (blk_cell BK109.out 2).trans rfl; have hcz2_3 : w1.cell? ⟨gb109, 3, none⟩ = some (.int .i64 0) := (blk_cell BK109.out 3).trans rfl; have hcz2_4 : w1.cell? ⟨gb109, 4, none⟩ = some (.int .i64 0) := (blk_cell BK109.out 4).trans rfl; have hcz2_5 : w1.cell? ⟨gb109, 5, none⟩ = some (.int .i64 0) := (blk_cell BK109.out 5).trans rfl; have hcz2_6 : w1.cell? ⟨gb109, 6, none⟩ = some (.string (⟨#[]⟩ : ByteArray)) := (blk_cell BK109.out 6).trans rfl; have hcz2_7 : w1.cell? ⟨gb109, 7, none⟩ = some (.bool false) := (blk_cell BK109.out 7).trans rfl; have hcz2_8 : w1.cell? ⟨gb109, 8, none⟩ = some (.int .i64 0) := (blk_cell BK109.out 8).trans rfl; have hcz2_9 : w1.cell? ⟨gb109, 9, none⟩ = some (.int .i64 0) := (blk_cell BK109.out 9).trans rfl; have hcz2_10 : w1.cell? ⟨gb109, 10, none⟩ = some (.int .i64 0) := (blk_cell BK109.out 10).trans rfl; have hcz2_11 : w1.cell? ⟨gb109, 11, none⟩ = some (.string (⟨#[]⟩ : ByteArray)) := (blk_cell BK109.out 11).trans rfl; have hcz2_12 : w1.cell? ⟨gb109, 12, none⟩ = some (.string (⟨#[]⟩ : ByteArray)) := (blk_cell BK109.out 12).trans rfl; have hcz2_13 : w1.cell? ⟨gb109, 13, none⟩ = some (.int .i64 0) := (blk_cell BK109.out 13).trans rfl; have hcz2_14 : w1.cell? ⟨gb109, 14, none⟩ = some (.int .i64 0) := (blk_cell BK109.out 14).trans rfl; have hcz2_15 : w1.cell? ⟨gb109, 15, none⟩ = some (.int .i64 0) := (blk_cell BK109.out 15).trans rfl; have hcz2_16 : w1.cell? ⟨gb109, 16, none⟩ = some (.bool false) := (blk_cell BK109.out 16).trans rfl; have hfz2_0 := blk_frozen BK109.out 0; have hfz2_1 := blk_frozen BK109.out 1; have hfz2_2 := blk_frozen BK109.out 2; have hfz2_3 := blk_frozen BK109.out 3; have hfz2_4 := blk_frozen BK109.out 4; have hfz2_5 := blk_frozen BK109.out 5; have hfz2_6 := blk_frozen BK109.out 6; have hfz2_7 := blk_frozen BK109.out 7; have hfz2_8 := blk_frozen BK109.out 8; have hfz2_9 := blk_frozen BK109.out 9; have hfz2_10 := blk_frozen BK109.out 10; have hfz2_11 := blk_frozen BK109.out 11; have hfz2_12 := blk_frozen BK109.out 12; have hfz2_13 := blk_frozen BK109.out 13; have hfz2_14 := blk_frozen BK109.out 14; have hfz2_15 := blk_frozen BK109.out 15; have hfz2_16 := blk_frozen BK109.out 16))
  refine bodyPost_ret (results_cell_row rfl _ _ gb109 25 #[.int .i64 0, .int .i64 0, .int .i64 0, .int .i64 0, .int .i64 0, .int .i64 0, .string (⟨#[97]⟩ : ByteArray), .bool true, .int .i64 1, .int .i64 1, .int .i64 1900, .string (⟨#[68, 69]⟩ : ByteArray), .string (⟨#[]⟩ : ByteArray), .int .i64 1000, .int .i64 190, .int .i64 0, .bool false] (0, 0) _ rfl (by (with_reducible repeat (first | refine blk_drewN ?_ _ | refine blk_drew ?_ | refine blk_alloc ?_ _)); refine blk_put (cs := #[.int .i64 0, .int .i64 0, .int .i64 0, .int .i64 0, .int .i64 0, .int .i64 0, .string (⟨#[97]⟩ : ByteArray), .bool true, .int .i64 1, .int .i64 1, .int .i64 1900, .string (⟨#[68, 69]⟩ : ByteArray), .string (⟨#[]⟩ : ByteArray), .int .i64 1000, .int .i64 190, .int .i64 0, .bool false]) ?_ 16 _ rfl; (with_reducible repeat (first | refine blk_drewN ?_ _ | refine blk_drew ?_ | refine blk_alloc ?_ _)); refine blk_put (cs := #[.int .i64 0, .int .i64 0, .int .i64 0, .int .i64 0, .int .i64 0, .int .i64 0, .string (⟨#[97]⟩ : ByteArray), .bool true, .int .i64 1, .int .i64 1, .int .i64 1900, .string (⟨#[68, 69]⟩ : ByteArray), .string (⟨#[]⟩ : ByteArray), .int .i64 1000, .int .i64 190, .int .i64 0, .bool false]) ?_ 15 _ rfl; (with_reducible repeat (first | refine blk_drewN ?_ _ | refine blk_drew ?_ | refine blk_alloc ?_ _)); refine blk_put (cs := #[.int .i64 0, .int .i64 0, .int .i64 0, .int .i64 0, .int .i64 0, .int .i64 0, .string (⟨#[97]⟩ : ByteArray), .bool true, .int .i64 1, .int .i64 1, .int .i64 1900, .string (⟨#[68, 69]⟩ : ByteArray), .string (⟨#[]⟩ : ByteArray), .int .i64 1000, .int .i64 0, .int .i64 0, .bool false]) ?_ 14 _ rfl; (with_reducible repeat (first | refine blk_drewN ?_ _ | refine blk_drew ?_ | refine blk_alloc ?_ _)); refine blk_put (cs := #[.int .i64 0, .int .i64 0, .int .i64 0, .int .i64 0, .int .i64 0, .int .i64 0, .string (⟨#[97]⟩ : ByteArray), .bool true, .int .i64 1, .int .i64 1, .int .i64 1900, .string (⟨#[68, 69]⟩ : ByteArray), .string (⟨#[]⟩ : ByteArray), .int .i64 0, .int .i64 0, .int .i64 0, .bool false]) ?_ 13 _ rfl; (with_reducible repeat (first | refine blk_drewN ?_ _ | refine blk_drew ?_ | refine blk_alloc ?_ _)); refine blk_put (cs := #[.int .i64 0, .int .i64 0, .int .i64 0, .int .i64 0, .int .i64 0, .int .i64 0, .string (⟨#[97]⟩ : ByteArray), .bool true, .int .i64 1, .int .i64 1, .int .i64 1900, .string (⟨#[68, 69]⟩ : ByteArray), .string (⟨#[]⟩ : ByteArray), .int .i64 0, .int .i64 0, .int .i64 0, .bool false]) ?_ 12 _ rfl; (with_reducible repeat (first | refine blk_drewN ?_ _ | refine blk_drew ?_ | refine blk_alloc ?_ _)); refine blk_put (cs := #[.int .i64 0, .int .i64 0, .int .i64 0, .int .i64 0, .int .i64 0, .int .i64 0, .string (⟨#[97]⟩ : ByteArray), .bool true, .int .i64 1, .int .i64 1, .int .i64 1900, .string (⟨#[]⟩ : ByteArray), .string (⟨#[]⟩ : ByteArray), .int .i64 0, .int .i64 0, .int .i64 0, .bool false]) ?_ 11 _ rfl; (with_reducible repeat (first | refine blk_drewN ?_ _ | refine blk_drew ?_ | refine blk_alloc ?_ _)); refine blk_put (cs := #[.int .i64 0, .int .i64 0, .int .i64 0, .int .i64 0, .int .i64 0, .int .i64 0, .string (⟨#[97]⟩ : ByteArray), .bool true, .int .i64 1, .int .i64 1, .int .i64 0, .string (⟨#[]⟩ : ByteArray), .string (⟨#[]⟩ : ByteArray), .int .i64 0, .int .i64 0, .int .i64 0, .bool false]) ?_ 10 _ rfl; (with_reducible repeat (first | refine blk_drewN ?_ _ | refine blk_drew ?_ | refine blk_alloc ?_ _)); refine blk_put (cs := #[.int .i64 0, .int .i64 0, .int .i64 0, .int .i64 0, .int .i64 0, .int .i64 0, .string (⟨#[97]⟩ : ByteArray), .bool true, .int .i64 1, .int .i64 0, .int .i64 0, .string (⟨#[]⟩ : ByteArray), .string (⟨#[]⟩ : ByteArray), .int .i64 0, .int .i64 0, .int .i64 0, .bool false]) ?_ 9 _ rfl; (with_reducible repeat (first | refine blk_drewN ?_ _ | refine blk_drew ?_ | refine blk_alloc ?_ _)); refine blk_put (cs := #[.int .i64 0, .int .i64 0, .int .i64 0, .int .i64 0, .int .i64 0, .int .i64 0, .string (⟨#[97]⟩ : ByteArray), .bool true, .int .i64 0, .int .i64 0, .int .i64 0, .string (⟨#[]⟩ : ByteArray), .string (⟨#[]⟩ : ByteArray), .int .i64 0, .int .i64 0, .int .i64 0, .bool false]) ?_ 8 _ rfl; (with_reducible repeat (first | refine blk_drewN ?_ _ | refine blk_drew ?_ | refine blk_alloc ?_ _)); refine blk_put (cs := #[.int .i64 0, .int .i64 0, .int .i64 0, .int .i64 0, .int .i64 0, .int .i64 0, .string (⟨#[97]⟩ : ByteArray), .bool false, .int .i64 0, .int .i64 0, .int .i64 0, .string (⟨#[]⟩ : ByteArray), .string (⟨#[]⟩ : ByteArray), .int .i64 0, .int .i64 0, .int .i64 0, .bool false]) ?_ 7 _ rfl; (with_reducible repeat (first | refine blk_drewN ?_ _ | refine blk_drew ?_ | refine blk_alloc ?_ _)); refine blk_put (cs := #[.int .i64 0, .int .i64 0, .int .i64 0, .int .i64 0, .int .i64 0, .int .i64 0, .string (⟨#[]⟩ : ByteArray), .bool false, .int .i64 0, .int .i64 0, .int .i64 0, .string (⟨#[]⟩ : ByteArray), .string (⟨#[]⟩ : ByteArray), .int .i64 0, .int .i64 0, .int .i64 0, .bool false]) ?_ 6 _ rfl; (with_reducible repeat (first | refine blk_drewN ?_ _ | refine blk_drew ?_ | refine blk_alloc ?_ _)); refine blk_put (cs := #[.int .i64 0, .int .i64 0, .int .i64 0, .int .i64 0, .int .i64 0, .int .i64 0, .string (⟨#[]⟩ : ByteArray), .bool false, .int .i64 0, .int .i64 0, .int .i64 0, .string (⟨#[]⟩ : ByteArray), .string (⟨#[]⟩ : ByteArray), .int .i64 0, .int .i64 0, .int .i64 0, .bool false]) ?_ 5 _ rfl; (with_reducible repeat (first | refine blk_drewN ?_ _ | refine blk_drew ?_ | refine blk_alloc ?_ _)); refine blk_put (cs := #[.int .i64 0, .int .i64 0, .int .i64 0, .int .i64 0, .int .i64 0, .int .i64 0, .string (⟨#[]⟩ : ByteArray), .bool false, .int .i64 0, .int .i64 0, .int .i64 0, .string (⟨#[]⟩ : ByteArray), .string (⟨#[]⟩ : ByteArray), .int .i64 0, .int .i64 0, .int .i64 0, .bool false]) ?_ 4 _ rfl; (with_reducible repeat (first | refine blk_drewN ?_ _ | refine blk_drew ?_ | refine blk_alloc ?_ _)); refine blk_put (cs := #[.int .i64 0, .int .i64 0, .int .i64 0, .int .i64 0, .int .i64 0, .int .i64 0, .string (⟨#[]⟩ : ByteArray), .bool false, .int .i64 0, .int .i64 0, .int .i64 0, .string (⟨#[]⟩ : ByteArray), .string (⟨#[]⟩ : ByteArray), .int .i64 0, .int .i64 0, .int .i64 0, .bool false]) ?_ 3 _ rfl; (with_reducible repeat (first | refine blk_drewN ?_ _ | refine blk_drew ?_ | refine blk_alloc ?_ _)); refine blk_put (cs := #[.int .i64 0, .int .i64 0, .int .i64 0, .int .i64 0, .int .i64 0, .int .i64 0, .string (⟨#[]⟩ : ByteArray), .bool false, .int .i64 0, .int .i64 0, .int .i64 0, .string (⟨#[]⟩ : ByteArray), .string (⟨#[]⟩ : ByteArray), .int .i64 0, .int .i64 0, .int .i64 0, .bool false]) ?_ 2 _ rfl; (with_reducible repeat (first | refine blk_drewN ?_ _ | refine blk_drew ?_ | refine blk_alloc ?_ _)); refine blk_put (cs := #[.int .i64 0, .int .i64 0, .int .i64 0, .int .i64 0, .int .i64 0, .int .i64 0, .string (⟨#[]⟩ : ByteArray), .bool false, .int .i64 0, .int .i64 0, .int .i64 0, .string (⟨#[]⟩ : ByteArray), .string (⟨#[]⟩ : ByteArray), .int .i64 0, .int .i64 0, .int .i64 0, .bool false]) ?_ 1 _ rfl; (with_reducible repeat (first | refine blk_drewN ?_ _ | refine blk_drew ?_ | refine blk_alloc ?_ _)); refine blk_put (cs := #[.int .i64 0, .int .i64 0, .int .i64 0, .int .i64 0, .int .i64 0, .int .i64 0, .string (⟨#[]⟩ : ByteArray), .bool false, .int .i64 0, .int .i64 0, .int .i64 0, .string (⟨#[]⟩ : ByteArray), .string (⟨#[]⟩ : ByteArray), .int .i64 0, .int .i64 0, .int .i64 0, .bool false]) ?_ 0 _ rfl; (with_reducible repeat (first | refine blk_drewN ?_ _ | refine blk_drew ?_ | refine blk_alloc ?_ _)); exact BK109.out) Tryd.underlying25 rfl (by kernel_rfl)) rfl ?_
  exact ⟨by first | rfl | (simp [errW_none, errW_some] <;> rfl) | (simp [*, errW_none, errW_some] <;> rfl), by repeat (first | (with_reducible first | exact HB.out | apply below_alloc | apply pw_below_drewN | apply below_drew1 | refine below_set ?_ GE109.out) | exact HB.out)⟩

/-! ### octroilaw25_lives: function 12 -/
def octroilaw25_lives.f  : Option (Bool) := (octroilaw24_Sold.f).bind fun bt110 => ((entry_Line.f bt110.1 bt110.2.1 bt110.2.2.1 bt110.2.2.2.1 bt110.2.2.2.2.1 bt110.2.2.2.2.2.1 bt110.2.2.2.2.2.2.1 bt110.2.2.2.2.2.2.2.1 bt110.2.2.2.2.2.2.2.2.1 bt110.2.2.2.2.2.2.2.2.2.1 bt110.2.2.2.2.2.2.2.2.2.2.1 bt110.2.2.2.2.2.2.2.2.2.2.2.1 bt110.2.2.2.2.2.2.2.2.2.2.2.2.1 bt110.2.2.2.2.2.2.2.2.2.2.2.2.2.1 bt110.2.2.2.2.2.2.2.2.2.2.2.2.2.2.1 bt110.2.2.2.2.2.2.2.2.2.2.2.2.2.2.2.1 bt110.2.2.2.2.2.2.2.2.2.2.2.2.2.2.2.2).bind fun t127 => (some (t127.toList == ([104, 111, 109, 101, 32, 83, 32, 49, 57, 48, 48, 32, 49, 48, 48, 48, 32, 49, 57, 48, 32, 49, 57, 48, 32, 48] : List UInt8))))
set_option maxHeartbeats 8000000 in
set_option maxRecDepth 100000 in
theorem octroilaw25_lives.calls  (r : Bool) (w : World) (hT_ : BX.Tab w) (h : octroilaw25_lives.f  = some r) :
    Calls Tryd.prog 12 #[] w fun e w' => e = .returned (.bool r) ∧ Below w.heap.size w w' := by
  have HTab_ := Aside0.mk hT_
  clear hT_
  have HB := Aside0.mk (Below.refl w.heap.size w)
  have H : ((octroilaw24_Sold.f).bind fun bt110 => ((entry_Line.f bt110.1 bt110.2.1 bt110.2.2.1 bt110.2.2.2.1 bt110.2.2.2.2.1 bt110.2.2.2.2.2.1 bt110.2.2.2.2.2.2.1 bt110.2.2.2.2.2.2.2.1 bt110.2.2.2.2.2.2.2.2.1 bt110.2.2.2.2.2.2.2.2.2.1 bt110.2.2.2.2.2.2.2.2.2.2.1 bt110.2.2.2.2.2.2.2.2.2.2.2.1 bt110.2.2.2.2.2.2.2.2.2.2.2.2.1 bt110.2.2.2.2.2.2.2.2.2.2.2.2.2.1 bt110.2.2.2.2.2.2.2.2.2.2.2.2.2.2.1 bt110.2.2.2.2.2.2.2.2.2.2.2.2.2.2.2.1 bt110.2.2.2.2.2.2.2.2.2.2.2.2.2.2.2.2).bind fun t127 => (some (t127.toList == ([104, 111, 109, 101, 32, 83, 32, 49, 57, 48, 48, 32, 49, 48, 48, 48, 32, 49, 57, 48, 32, 49, 57, 48, 32, 48] : List UInt8))))) = some r := h
  clear h
  replace H := Option.bind_eq_some_iff.mp H
  obtain ⟨⟨t110, t111, t112, t113, t114, t115, t116, t117, t118, t119, t120, t121, t122, t123, t124, t125, t126⟩, A10, H⟩ := H
  replace H : ((entry_Line.f t110 t111 t112 t113 t114 t115 t116 t117 t118 t119 t120 t121 t122 t123 t124 t125 t126).bind fun t127 => (some (t127.toList == ([104, 111, 109, 101, 32, 83, 32, 49, 57, 48, 48, 32, 49, 48, 48, 48, 32, 49, 57, 48, 32, 49, 57, 48, 32, 48] : List UInt8)))) = some r := H
  have A1 := Aside0.mk A10
  clear A10
  replace H := Option.bind_eq_some_iff.mp H
  obtain ⟨t127, A20, H⟩ := H
  replace H : (some (t127.toList == ([104, 111, 109, 101, 32, 83, 32, 49, 57, 48, 48, 32, 49, 48, 48, 48, 32, 49, 57, 48, 32, 49, 57, 48, 32, 48] : List UInt8))) = some r := H
  have A2 := Aside0.mk A20
  clear A20
  obtain rfl := Option.some.inj H
  go_enter Tryd.func12, Tryd.ntmps12
  go_wp2_with (first | ((with_reducible refine gate_callee (f := 48) rfl ?_); refine goesL_ (some 1) rfl rfl Tryd.func48 (by kernel_rfl) rfl #[] rfl (by (try simp only [List.map_toArray, List.map_cons, List.map_nil]); first | done | rfl | (simp only [List.length_drop, List.length_take]; rfl)) ?_; (with_reducible refine (octroilaw24_Sold.calls  t110 t111 t112 t113 t114 t115 t116 t117 t118 t119 t120 t121 t122 t123 t124 t125 t126 _ A1.out).mono ?_); rintro e w3 ⟨rfl, hb⟩; refine ⟨_, rfl, ?_⟩; have n0_ := Aside0.mk (below_step (by repeat (first | (with_reducible first | exact HB.out | apply below_alloc | apply pw_below_drewN | apply below_drew1) | exact HB.out)) hb); clear HB; have HB := n0_; clear n0_; (try clear hb); (try clear hb2); (try clear hk); (try clear hi)) | ((with_reducible refine gate_callee (f := 13) rfl ?_); refine goesL_ (some 2) rfl rfl Tryd.func13 (by kernel_rfl) rfl #[.agg #[.int .i64 t110, .int .i64 t111, .int .i64 t112, .int .i64 t113, .int .i64 t114, .int .i64 t115, .string t116, .bool t117, .int .i64 t118, .int .i64 t119, .int .i64 t120, .string t121, .string t122, .int .i64 t123, .int .i64 t124, .int .i64 t125, .bool t126]] rfl (by (try simp only [List.map_toArray, List.map_cons, List.map_nil]); first | done | rfl | (simp only [List.length_drop, List.length_take]; rfl)) ?_; (with_reducible refine (entry_Line.calls t110 t111 t112 t113 t114 t115 t116 t117 t118 t119 t120 t121 t122 t123 t124 t125 t126 t127 _ ?side1 A2.out).mono ?_); (case side1 => exact BX.Tab.below HTab_.out (by repeat (first | (with_reducible first | exact HB.out | apply below_alloc | apply pw_below_drewN | apply below_drew1) | exact HB.out))); rintro e w4 ⟨rfl, hb⟩; refine ⟨_, rfl, ?_⟩; have n0_ := Aside0.mk (below_step (by repeat (first | (with_reducible first | exact HB.out | apply below_alloc | apply pw_below_drewN | apply below_drew1) | exact HB.out)) hb); clear HB; have HB := n0_; clear n0_; (try clear hb); (try clear hb2); (try clear hk); (try clear hi)))
  go_ret
  exact ⟨by first | rfl | (simp [errW_none, errW_some] <;> rfl) | (simp [*, errW_none, errW_some] <;> rfl), by repeat (first | (with_reducible first | exact HB.out | apply below_alloc | apply pw_below_drewN | apply below_drew1) | exact HB.out)⟩

/-! ### octroiref18_Output: function 73 -/
def octroiref18_Output.f (a0 : Int) : Option (Bool) := if a0 = 1 then (some true) else (if a0 = 3 then (some true) else (if a0 = 9 then (some true) else (if a0 ≥ 12 then (some (decide (a0 ≤ 14))) else (some false))))
set_option maxHeartbeats 8000000 in
set_option maxRecDepth 100000 in
theorem octroiref18_Output.calls (a0 : Int) (r : Bool) (w : World) (h : octroiref18_Output.f a0 = some r) :
    Calls Tryd.prog 73 #[.int .i64 a0] w fun e w' => e = .returned (.bool r) ∧ Drawn0 w w' := by
  have H : (if a0 = 1 then (some true) else (if a0 = 3 then (some true) else (if a0 = 9 then (some true) else (if a0 ≥ 12 then (some (decide (a0 ≤ 14))) else (some false))))) = some r := h
  clear h
  by_cases c2 : a0 = 1
  · rw [if_pos c2] at H
    have c2b0 : (a0 == 1) = true := beq_iff_eq.mpr c2
    have c2b1 : (a0 != 1) = false := bne_eq_false_iff_eq.mpr c2
    clear c2
    obtain rfl := Option.some.inj H
    go_enter Tryd.func73, Tryd.ntmps73
    go_wp2
    go_ret
    exact ⟨by first | rfl | (simp; done) | (simp [*]; done), by repeat (first | exact Drawn0.refl _ | apply Drawn0.step)⟩
  · rw [if_neg c2] at H
    have c2b0 : (a0 == 1) = false := beq_eq_false_iff_ne.mpr c2
    have c2b1 : (a0 != 1) = true := bne_iff_ne.mpr c2
    by_cases c3 : a0 = 3
    · rw [if_pos c3] at H
      have c3b0 : (a0 == 3) = true := beq_iff_eq.mpr c3
      have c3b1 : (a0 != 3) = false := bne_eq_false_iff_eq.mpr c3
      clear c3
      obtain rfl := Option.some.inj H
      go_enter Tryd.func73, Tryd.ntmps73
      go_wp2
      go_ret
      exact ⟨by first | rfl | (simp; done) | (simp [*]; done), by repeat (first | exact Drawn0.refl _ | apply Drawn0.step)⟩
    · rw [if_neg c3] at H
      have c3b0 : (a0 == 3) = false := beq_eq_false_iff_ne.mpr c3
      have c3b1 : (a0 != 3) = true := bne_iff_ne.mpr c3
      by_cases c4 : a0 = 9
      · rw [if_pos c4] at H
        have c4b0 : (a0 == 9) = true := beq_iff_eq.mpr c4
        have c4b1 : (a0 != 9) = false := bne_eq_false_iff_eq.mpr c4
        clear c4
        obtain rfl := Option.some.inj H
        go_enter Tryd.func73, Tryd.ntmps73
        go_wp2
        go_ret
        exact ⟨by first | rfl | (simp; done) | (simp [*]; done), by repeat (first | exact Drawn0.refl _ | apply Drawn0.step)⟩
      · rw [if_neg c4] at H
        have c4b0 : (a0 == 9) = false := beq_eq_false_iff_ne.mpr c4
        have c4b1 : (a0 != 9) = true := bne_iff_ne.mpr c4
        by_cases c5 : a0 ≥ 12
        · rw [if_pos c5] at H
          have c5b0 : decide (12 ≤ a0) = true := decide_eq_true c5
          clear c5
          obtain rfl := Option.some.inj H
          go_enter Tryd.func73, Tryd.ntmps73
          go_wp2
          go_ret
          exact ⟨by first | rfl | (simp; done) | (simp [*]; done), by repeat (first | exact Drawn0.refl _ | apply Drawn0.step)⟩
        · rw [if_neg c5] at H
          have c5b0 : decide (12 ≤ a0) = false := decide_eq_false c5
          clear c5
          obtain rfl := Option.some.inj H
          go_enter Tryd.func73, Tryd.ntmps73
          go_wp2
          go_ret
          exact ⟨by first | rfl | (simp; done) | (simp [*]; done), by repeat (first | exact Drawn0.refl _ | apply Drawn0.step)⟩

/-! ### octroiref18_Deducts: function 74 -/
def octroiref18_Deducts.f (a0 : Int) : Option (Bool) := if a0 ≥ 11 then (some (decide (a0 ≤ 14))) else (some false)
set_option maxHeartbeats 8000000 in
set_option maxRecDepth 100000 in
theorem octroiref18_Deducts.calls (a0 : Int) (r : Bool) (w : World) (h : octroiref18_Deducts.f a0 = some r) :
    Calls Tryd.prog 74 #[.int .i64 a0] w fun e w' => e = .returned (.bool r) ∧ Drawn0 w w' := by
  have H : (if a0 ≥ 11 then (some (decide (a0 ≤ 14))) else (some false)) = some r := h
  clear h
  by_cases c2 : a0 ≥ 11
  · rw [if_pos c2] at H
    have c2b0 : decide (11 ≤ a0) = true := decide_eq_true c2
    clear c2
    obtain rfl := Option.some.inj H
    go_enter Tryd.func74, Tryd.ntmps74
    go_wp2
    go_ret
    exact ⟨by first | rfl | (simp; done) | (simp [*]; done), by repeat (first | exact Drawn0.refl _ | apply Drawn0.step)⟩
  · rw [if_neg c2] at H
    have c2b0 : decide (11 ≤ a0) = false := decide_eq_false c2
    clear c2
    obtain rfl := Option.some.inj H
    go_enter Tryd.func74, Tryd.ntmps74
    go_wp2
    go_ret
    exact ⟨by first | rfl | (simp; done) | (simp [*]; done), by repeat (first | exact Drawn0.refl _ | apply Drawn0.step)⟩

/-! ### octroiref25_Owed: function 34 -/
def octroiref25_Owed.f (a0_0 : Int) (a0_1 : Int) (a0_2 : Int) (a0_3 : Int) (a0_4 : Int) (a0_5 : Int) (a0_6 : ByteArray) (a0_7 : Bool) (a0_8 : Int) (a0_9 : Int) (a0_10 : Int) (a0_11 : ByteArray) (a0_12 : ByteArray) (a0_13 : Int) (a0_14 : Int) (a0_15 : Int) (a0_16 : Bool) : Option (Int) := (octroiref18_Output.f a0_9).bind fun t129 => (if t129 = true then (if a0_7 = true then (some a0_14) else ((octroiref18_Deducts.f a0_9).bind fun t130 => (if t130 = true then (some a0_14) else (some 0)))) else (some 0))
set_option maxHeartbeats 8000000 in
set_option maxRecDepth 100000 in
theorem octroiref25_Owed.calls (a0_0 : Int) (a0_1 : Int) (a0_2 : Int) (a0_3 : Int) (a0_4 : Int) (a0_5 : Int) (a0_6 : ByteArray) (a0_7 : Bool) (a0_8 : Int) (a0_9 : Int) (a0_10 : Int) (a0_11 : ByteArray) (a0_12 : ByteArray) (a0_13 : Int) (a0_14 : Int) (a0_15 : Int) (a0_16 : Bool) (r : Int) (w : World) (h : octroiref25_Owed.f a0_0 a0_1 a0_2 a0_3 a0_4 a0_5 a0_6 a0_7 a0_8 a0_9 a0_10 a0_11 a0_12 a0_13 a0_14 a0_15 a0_16 = some r) :
    Calls Tryd.prog 34 #[.agg #[.int .i64 a0_0, .int .i64 a0_1, .int .i64 a0_2, .int .i64 a0_3, .int .i64 a0_4, .int .i64 a0_5, .string a0_6, .bool a0_7, .int .i64 a0_8, .int .i64 a0_9, .int .i64 a0_10, .string a0_11, .string a0_12, .int .i64 a0_13, .int .i64 a0_14, .int .i64 a0_15, .bool a0_16]] w fun e w' => e = .returned (.int .i64 r) ∧ Below w.heap.size w w' := by
  have hu25 := Tryd.underlying25
  have HB := Aside0.mk (Below.refl w.heap.size w)
  have H : ((octroiref18_Output.f a0_9).bind fun t129 => (if t129 = true then (if a0_7 = true then (some a0_14) else ((octroiref18_Deducts.f a0_9).bind fun t130 => (if t130 = true then (some a0_14) else (some 0)))) else (some 0))) = some r := h
  clear h
  replace H := Option.bind_eq_some_iff.mp H
  obtain ⟨t129, A20, H⟩ := H
  replace H : (if t129 = true then (if a0_7 = true then (some a0_14) else ((octroiref18_Deducts.f a0_9).bind fun t130 => (if t130 = true then (some a0_14) else (some 0)))) else (some 0)) = some r := H
  have A2 := Aside0.mk A20
  clear A20
  by_cases c3 : t129 = true
  · subst c3
    have H1 : (if a0_7 = true then (some a0_14) else ((octroiref18_Deducts.f a0_9).bind fun t130 => (if t130 = true then (some a0_14) else (some 0)))) = some r := by rw [if_pos rfl] at H; exact H
    clear H
    have H := H1
    clear H1
    by_cases c4 : a0_7 = true
    · subst c4
      have H1 : (some a0_14) = some r := by rw [if_pos rfl] at H; exact H
      clear H
      have H := H1
      clear H1
      obtain rfl := Option.some.inj H
      go_enter Tryd.func34, Tryd.ntmps34
      go_wp2_with (first | ((with_reducible refine gate_dst (N := 1) rfl ?_); refine box_event ?hg (N := 1) ?hd (cs := #[.int .i64 a0_0, .int .i64 a0_1, .int .i64 a0_2, .int .i64 a0_3, .int .i64 a0_4, .int .i64 a0_5, .string a0_6, .bool true, .int .i64 a0_8, .int .i64 a0_9, .int .i64 a0_10, .string a0_11, .string a0_12, .int .i64 a0_13, .int .i64 a0_14, .int .i64 a0_15, .bool a0_16]) (t := 25) ?hr ?_; (case hd => rfl); (case hg => rfl); (case hr => first | (go_simp; done) | (go_simp; rfl)); intro gb128 hg w5 hbox hb; have n0_ := Aside0.mk (below_step (by repeat (first | (with_reducible first | exact HB.out | apply below_alloc | apply pw_below_drewN | apply below_drew1) | exact HB.out)) hb); have n1_ := Aside0.mk (hbox); have n2_ := Aside0.mk ((by rw [hg]; exact (below_size (by repeat (first | (with_reducible first | exact HB.out | apply below_alloc | apply pw_below_drewN | apply below_drew1) | exact HB.out))) : w.heap.size ≤ gb128)); have n3_ := Aside0.mk ((by rw [hg]; exact (below_size (by repeat (first | (with_reducible first | exact HB.out | apply below_alloc | apply pw_below_drewN | apply below_drew1) | exact HB.out))) : w.heap.size ≤ gb128)); clear HB; have HB := n0_; have BK128 := n1_; have GW128 := n2_; have GE128 := n3_; clear n0_ n1_ n2_ n3_; clear hb hbox hg; have hcz6_0 : w5.cell? ⟨gb128, 0, none⟩ = some (.int .i64 a0_0) := (blk_cell BK128.out 0).trans rfl; have hcz6_1 : w5.cell? ⟨gb128, 1, none⟩ = some (.int .i64 a0_1) := (blk_cell BK128.out 1).trans rfl; have hcz6_2 : w5.cell? ⟨gb128, 2, none⟩ = some (.int .i64 a0_2) := (blk_cell BK128.out 2).trans rfl; have hcz6_3 : w5.cell? ⟨gb128, 3, none⟩ = some (.int .i64 a0_3) := (blk_cell BK128.out 3).trans rfl; have hcz6_4 : w5.cell? ⟨gb128, 4, none⟩ = some (.int .i64 a0_4) := (blk_cell BK128.out 4).trans rfl; have hcz6_5 : w5.cell? ⟨gb128, 5, none⟩ = some (.int .i64 a0_5) := (blk_cell BK128.out 5).trans rfl; have hcz6_6 : w5.cell? ⟨gb128, 6, none⟩ = some (.string a0_6) := (blk_cell BK128.out 6).trans rfl; have hcz6_7 : w5.cell? ⟨gb128, 7, none⟩ = some (.bool true) := (blk_cell BK128.out 7).trans rfl; have hcz6_8 : w5.cell? ⟨gb128, 8, none⟩ = some (.int .i64 a0_8) := (blk_cell BK128.out 8).trans rfl; have hcz6_9 : w5.cell? ⟨gb128, 9, none⟩ = some (.int .i64 a0_9) := (blk_cell BK128.out 9).trans rfl; have hcz6_10 : w5.cell? ⟨gb128, 10, none⟩ = some (.int .i64 a0_10) := (blk_cell BK128.out 10).trans rfl; have hcz6_11 : w5.cell? ⟨gb128, 11, none⟩ = some (.string a0_11) := (blk_cell BK128.out 11).trans rfl; have hcz6_12 : w5.cell? ⟨gb128, 12, none⟩ = some (.string a0_12) := (blk_cell BK128.out 12).trans rfl; have hcz6_13 : w5.cell? ⟨gb128, 13, none⟩ = some (.int .i64 a0_13) := (blk_cell BK128.out 13).trans rfl; have hcz6_14 : w5.cell? ⟨gb128, 14, none⟩ = some (.int .i64 a0_14) := (blk_cell BK128.out 14).trans rfl; have hcz6_15 : w5.cell? ⟨gb128, 15, none⟩ = some (.int .i64 a0_15) := (blk_cell BK128.out 15).trans rfl; have hcz6_16 : w5.cell? ⟨gb128, 16, none⟩ = some (.bool a0_16) := (blk_cell BK128.out 16).trans rfl; have hfz6_0 := blk_frozen BK128.out 0; have hfz6_1 := blk_frozen BK128.out 1; have hfz6_2 := blk_frozen BK128.out 2; have hfz6_3 := blk_frozen BK128.out 3; have hfz6_4 := blk_frozen BK128.out 4; have hfz6_5 := blk_frozen BK128.out 5; have hfz6_6 := blk_frozen BK128.out 6; have hfz6_7 := blk_frozen BK128.out 7; have hfz6_8 := blk_frozen BK128.out 8; have hfz6_9 := blk_frozen BK128.out 9; have hfz6_10 := blk_frozen BK128.out 10; have hfz6_11 := blk_frozen BK128.out 11; have hfz6_12 := blk_frozen BK128.out 12; have hfz6_13 := blk_frozen BK128.out 13; have hfz6_14 := blk_frozen BK128.out 14; have hfz6_15 := blk_frozen BK128.out 15; have hfz6_16 := blk_frozen BK128.out 16) | ((with_reducible refine gate_callee (f := 73) rfl ?_); refine goesL_ (some 5) rfl rfl Tryd.func73 (by kernel_rfl) rfl #[.int .i64 a0_9] rfl (by (try simp only [List.map_toArray, List.map_cons, List.map_nil]); first | done | rfl | (simp only [List.length_drop, List.length_take]; rfl)) ?_; (with_reducible refine (octroiref18_Output.calls a0_9 true _ A2.out).mono ?_); rintro e w' ⟨rfl, ⟨nd, rfl⟩⟩; refine ⟨_, rfl, ?_⟩))
      go_ret
      exact ⟨by first | rfl | (simp [errW_none, errW_some] <;> rfl) | (simp [*, errW_none, errW_some] <;> rfl), by repeat (first | (with_reducible first | exact HB.out | apply below_alloc | apply pw_below_drewN | apply below_drew1 | refine below_set ?_ GE128.out) | exact HB.out)⟩
    · replace c4 := Bool.eq_false_iff.mpr c4
      subst c4
      have H1 : ((octroiref18_Deducts.f a0_9).bind fun t130 => (if t130 = true then (some a0_14) else (some 0))) = some r := by rw [if_neg (show ¬ (false = true) by decide)] at H; exact H
      clear H
      have H := H1
      clear H1
      replace H := Option.bind_eq_some_iff.mp H
      obtain ⟨t130, A70, H⟩ := H
      replace H : (if t130 = true then (some a0_14) else (some 0)) = some r := H
      have A7 := Aside0.mk A70
      clear A70
      by_cases c8 : t130 = true
      · subst c8
        have H1 : (some a0_14) = some r := by rw [if_pos rfl] at H; exact H
        clear H
        have H := H1
        clear H1
        obtain rfl := Option.some.inj H
        go_enter Tryd.func34, Tryd.ntmps34
        go_wp2_with (first | ((with_reducible refine gate_dst (N := 1) rfl ?_); refine box_event ?hg (N := 1) ?hd (cs := #[.int .i64 a0_0, .int .i64 a0_1, .int .i64 a0_2, .int .i64 a0_3, .int .i64 a0_4, .int .i64 a0_5, .string a0_6, .bool false, .int .i64 a0_8, .int .i64 a0_9, .int .i64 a0_10, .string a0_11, .string a0_12, .int .i64 a0_13, .int .i64 a0_14, .int .i64 a0_15, .bool a0_16]) (t := 25) ?hr ?_; (case hd => rfl); (case hg => rfl); (case hr => first | (go_simp; done) | (go_simp; rfl)); intro gb128 hg w9 hbox hb; have n0_ := Aside0.mk (below_step (by repeat (first | (with_reducible first | exact HB.out | apply below_alloc | apply pw_below_drewN | apply below_drew1) | exact HB.out)) hb); have n1_ := Aside0.mk (hbox); have n2_ := Aside0.mk ((by rw [hg]; exact (below_size (by repeat (first | (with_reducible first | exact HB.out | apply below_alloc | apply pw_below_drewN | apply below_drew1) | exact HB.out))) : w.heap.size ≤ gb128)); have n3_ := Aside0.mk ((by rw [hg]; exact (below_size (by repeat (first | (with_reducible first | exact HB.out | apply below_alloc | apply pw_below_drewN | apply below_drew1) | exact HB.out))) : w.heap.size ≤ gb128)); clear HB; have HB := n0_; have BK128 := n1_; have GW128 := n2_; have GE128 := n3_; clear n0_ n1_ n2_ n3_; clear hb hbox hg; have hcz10_0 : w9.cell? ⟨gb128, 0, none⟩ = some (.int .i64 a0_0) := (blk_cell BK128.out 0).trans rfl; have hcz10_1 : w9.cell? ⟨gb128, 1, none⟩ = some (.int .i64 a0_1) := (blk_cell BK128.out 1).trans rfl; have hcz10_2 : w9.cell? ⟨gb128, 2, none⟩ = some (.int .i64 a0_2) := (blk_cell BK128.out 2).trans rfl; have hcz10_3 : w9.cell? ⟨gb128, 3, none⟩ = some (.int .i64 a0_3) := (blk_cell BK128.out 3).trans rfl; have hcz10_4 : w9.cell? ⟨gb128, 4, none⟩ = some (.int .i64 a0_4) := (blk_cell BK128.out 4).trans rfl; have hcz10_5 : w9.cell? ⟨gb128, 5, none⟩ = some (.int .i64 a0_5) := (blk_cell BK128.out 5).trans rfl; have hcz10_6 : w9.cell? ⟨gb128, 6, none⟩ = some (.string a0_6) := (blk_cell BK128.out 6).trans rfl; have hcz10_7 : w9.cell? ⟨gb128, 7, none⟩ = some (.bool false) := (blk_cell BK128.out 7).trans rfl; have hcz10_8 : w9.cell? ⟨gb128, 8, none⟩ = some (.int .i64 a0_8) := (blk_cell BK128.out 8).trans rfl; have hcz10_9 : w9.cell? ⟨gb128, 9, none⟩ = some (.int .i64 a0_9) := (blk_cell BK128.out 9).trans rfl; have hcz10_10 : w9.cell? ⟨gb128, 10, none⟩ = some (.int .i64 a0_10) := (blk_cell BK128.out 10).trans rfl; have hcz10_11 : w9.cell? ⟨gb128, 11, none⟩ = some (.string a0_11) := (blk_cell BK128.out 11).trans rfl; have hcz10_12 : w9.cell? ⟨gb128, 12, none⟩ = some (.string a0_12) := (blk_cell BK128.out 12).trans rfl; have hcz10_13 : w9.cell? ⟨gb128, 13, none⟩ = some (.int .i64 a0_13) := (blk_cell BK128.out 13).trans rfl; have hcz10_14 : w9.cell? ⟨gb128, 14, none⟩ = some (.int .i64 a0_14) := (blk_cell BK128.out 14).trans rfl; have hcz10_15 : w9.cell? ⟨gb128, 15, none⟩ = some (.int .i64 a0_15) := (blk_cell BK128.out 15).trans rfl; have hcz10_16 : w9.cell? ⟨gb128, 16, none⟩ = some (.bool a0_16) := (blk_cell BK128.out 16).trans rfl; have hfz10_0 := blk_frozen BK128.out 0; have hfz10_1 := blk_frozen BK128.out 1; have hfz10_2 := blk_frozen BK128.out 2; have hfz10_3 := blk_frozen BK128.out 3; have hfz10_4 := blk_frozen BK128.out 4; have hfz10_5 := blk_frozen BK128.out 5; have hfz10_6 := blk_frozen BK128.out 6; have hfz10_7 := blk_frozen BK128.out 7; have hfz10_8 := blk_frozen BK128.out 8; have hfz10_9 := blk_frozen BK128.out 9; have hfz10_10 := blk_frozen BK128.out 10; have hfz10_11 := blk_frozen BK128.out 11; have hfz10_12 := blk_frozen BK128.out 12; have hfz10_13 := blk_frozen BK128.out 13; have hfz10_14 := blk_frozen BK128.out 14; have hfz10_15 := blk_frozen BK128.out 15; have hfz10_16 := blk_frozen BK128.out 16) | ((with_reducible refine gate_callee (f := 73) rfl ?_); refine goesL_ (some 5) rfl rfl Tryd.func73 (by kernel_rfl) rfl #[.int .i64 a0_9] rfl (by (try simp only [List.map_toArray, List.map_cons, List.map_nil]); first | done | rfl | (simp only [List.length_drop, List.length_take]; rfl)) ?_; (with_reducible refine (octroiref18_Output.calls a0_9 true _ A2.out).mono ?_); rintro e w' ⟨rfl, ⟨nd, rfl⟩⟩; refine ⟨_, rfl, ?_⟩) | (go_at_call 74; (with_reducible refine (octroiref18_Deducts.calls a0_9 true _ A7.out).mono ?_); rintro e w' ⟨rfl, ⟨nd, rfl⟩⟩))
        go_ret
        exact ⟨by first | rfl | (simp [errW_none, errW_some] <;> rfl) | (simp [*, errW_none, errW_some] <;> rfl), by repeat (first | (with_reducible first | exact HB.out | apply below_alloc | apply pw_below_drewN | apply below_drew1 | refine below_set ?_ GE128.out) | exact HB.out)⟩
      · replace c8 := Bool.eq_false_iff.mpr c8
        subst c8
        have H1 : (some 0) = some r := by rw [if_neg (show ¬ (false = true) by decide)] at H; exact H
        clear H
        have H := H1
        clear H1
        obtain rfl := Option.some.inj H
        go_enter Tryd.func34, Tryd.ntmps34
        go_wp2_with (first | ((with_reducible refine gate_dst (N := 1) rfl ?_); refine box_event ?hg (N := 1) ?hd (cs := #[.int .i64 a0_0, .int .i64 a0_1, .int .i64 a0_2, .int .i64 a0_3, .int .i64 a0_4, .int .i64 a0_5, .string a0_6, .bool false, .int .i64 a0_8, .int .i64 a0_9, .int .i64 a0_10, .string a0_11, .string a0_12, .int .i64 a0_13, .int .i64 a0_14, .int .i64 a0_15, .bool a0_16]) (t := 25) ?hr ?_; (case hd => rfl); (case hg => rfl); (case hr => first | (go_simp; done) | (go_simp; rfl)); intro gb128 hg w11 hbox hb; have n0_ := Aside0.mk (below_step (by repeat (first | (with_reducible first | exact HB.out | apply below_alloc | apply pw_below_drewN | apply below_drew1) | exact HB.out)) hb); have n1_ := Aside0.mk (hbox); have n2_ := Aside0.mk ((by rw [hg]; exact (below_size (by repeat (first | (with_reducible first | exact HB.out | apply below_alloc | apply pw_below_drewN | apply below_drew1) | exact HB.out))) : w.heap.size ≤ gb128)); have n3_ := Aside0.mk ((by rw [hg]; exact (below_size (by repeat (first | (with_reducible first | exact HB.out | apply below_alloc | apply pw_below_drewN | apply below_drew1) | exact HB.out))) : w.heap.size ≤ gb128)); clear HB; have HB := n0_; have BK128 := n1_; have GW128 := n2_; have GE128 := n3_; clear n0_ n1_ n2_ n3_; clear hb hbox hg; have hcz12_0 : w11.cell? ⟨gb128, 0, none⟩ = some (.int .i64 a0_0) := (blk_cell BK128.out 0).trans rfl; have hcz12_1 : w11.cell? ⟨gb128, 1, none⟩ = some (.int .i64 a0_1) := (blk_cell BK128.out 1).trans rfl; have hcz12_2 : w11.cell? ⟨gb128, 2, none⟩ = some (.int .i64 a0_2) := (blk_cell BK128.out 2).trans rfl; have hcz12_3 : w11.cell? ⟨gb128, 3, none⟩ = some (.int .i64 a0_3) := (blk_cell BK128.out 3).trans rfl; have hcz12_4 : w11.cell? ⟨gb128, 4, none⟩ = some (.int .i64 a0_4) := (blk_cell BK128.out 4).trans rfl; have hcz12_5 : w11.cell? ⟨gb128, 5, none⟩ = some (.int .i64 a0_5) := (blk_cell BK128.out 5).trans rfl; have hcz12_6 : w11.cell? ⟨gb128, 6, none⟩ = some (.string a0_6) := (blk_cell BK128.out 6).trans rfl; have hcz12_7 : w11.cell? ⟨gb128, 7, none⟩ = some (.bool false) := (blk_cell BK128.out 7).trans rfl; have hcz12_8 : w11.cell? ⟨gb128, 8, none⟩ = some (.int .i64 a0_8) := (blk_cell BK128.out 8).trans rfl; have hcz12_9 : w11.cell? ⟨gb128, 9, none⟩ = some (.int .i64 a0_9) := (blk_cell BK128.out 9).trans rfl; have hcz12_10 : w11.cell? ⟨gb128, 10, none⟩ = some (.int .i64 a0_10) := (blk_cell BK128.out 10).trans rfl; have hcz12_11 : w11.cell? ⟨gb128, 11, none⟩ = some (.string a0_11) := (blk_cell BK128.out 11).trans rfl; have hcz12_12 : w11.cell? ⟨gb128, 12, none⟩ = some (.string a0_12) := (blk_cell BK128.out 12).trans rfl; have hcz12_13 : w11.cell? ⟨gb128, 13, none⟩ = some (.int .i64 a0_13) := (blk_cell BK128.out 13).trans rfl; have hcz12_14 : w11.cell? ⟨gb128, 14, none⟩ = some (.int .i64 a0_14) := (blk_cell BK128.out 14).trans rfl; have hcz12_15 : w11.cell? ⟨gb128, 15, none⟩ = some (.int .i64 a0_15) := (blk_cell BK128.out 15).trans rfl; have hcz12_16 : w11.cell? ⟨gb128, 16, none⟩ = some (.bool a0_16) := (blk_cell BK128.out 16).trans rfl; have hfz12_0 := blk_frozen BK128.out 0; have hfz12_1 := blk_frozen BK128.out 1; have hfz12_2 := blk_frozen BK128.out 2; have hfz12_3 := blk_frozen BK128.out 3; have hfz12_4 := blk_frozen BK128.out 4; have hfz12_5 := blk_frozen BK128.out 5; have hfz12_6 := blk_frozen BK128.out 6; have hfz12_7 := blk_frozen BK128.out 7; have hfz12_8 := blk_frozen BK128.out 8; have hfz12_9 := blk_frozen BK128.out 9; have hfz12_10 := blk_frozen BK128.out 10; have hfz12_11 := blk_frozen BK128.out 11; have hfz12_12 := blk_frozen BK128.out 12; have hfz12_13 := blk_frozen BK128.out 13; have hfz12_14 := blk_frozen BK128.out 14; have hfz12_15 := blk_frozen BK128.out 15; have hfz12_16 := blk_frozen BK128.out 16) | ((with_reducible refine gate_callee (f := 73) rfl ?_); refine goesL_ (some 5) rfl rfl Tryd.func73 (by kernel_rfl) rfl #[.int .i64 a0_9] rfl (by (try simp only [List.map_toArray, List.map_cons, List.map_nil]); first | done | rfl | (simp only [List.length_drop, List.length_take]; rfl)) ?_; (with_reducible refine (octroiref18_Output.calls a0_9 true _ A2.out).mono ?_); rintro e w' ⟨rfl, ⟨nd, rfl⟩⟩; refine ⟨_, rfl, ?_⟩) | (go_at_call 74; (with_reducible refine (octroiref18_Deducts.calls a0_9 false _ A7.out).mono ?_); rintro e w' ⟨rfl, ⟨nd, rfl⟩⟩))
        go_ret
        exact ⟨by first | rfl | (simp [errW_none, errW_some] <;> rfl) | (simp [*, errW_none, errW_some] <;> rfl), by repeat (first | (with_reducible first | exact HB.out | apply below_alloc | apply pw_below_drewN | apply below_drew1 | refine below_set ?_ GE128.out) | exact HB.out)⟩
  · replace c3 := Bool.eq_false_iff.mpr c3
    subst c3
    have H1 : (some 0) = some r := by rw [if_neg (show ¬ (false = true) by decide)] at H; exact H
    clear H
    have H := H1
    clear H1
    obtain rfl := Option.some.inj H
    go_enter Tryd.func34, Tryd.ntmps34
    go_wp2_with (first | ((with_reducible refine gate_dst (N := 1) rfl ?_); refine box_event ?hg (N := 1) ?hd (cs := #[.int .i64 a0_0, .int .i64 a0_1, .int .i64 a0_2, .int .i64 a0_3, .int .i64 a0_4, .int .i64 a0_5, .string a0_6, .bool a0_7, .int .i64 a0_8, .int .i64 a0_9, .int .i64 a0_10, .string a0_11, .string a0_12, .int .i64 a0_13, .int .i64 a0_14, .int .i64 a0_15, .bool a0_16]) (t := 25) ?hr ?_; (case hd => rfl); (case hg => rfl); (case hr => first | (go_simp; done) | (go_simp; rfl)); intro gb128 hg w13 hbox hb; have n0_ := Aside0.mk (below_step (by repeat (first | (with_reducible first | exact HB.out | apply below_alloc | apply pw_below_drewN | apply below_drew1) | exact HB.out)) hb); have n1_ := Aside0.mk (hbox); have n2_ := Aside0.mk ((by rw [hg]; exact (below_size (by repeat (first | (with_reducible first | exact HB.out | apply below_alloc | apply pw_below_drewN | apply below_drew1) | exact HB.out))) : w.heap.size ≤ gb128)); have n3_ := Aside0.mk ((by rw [hg]; exact (below_size (by repeat (first | (with_reducible first | exact HB.out | apply below_alloc | apply pw_below_drewN | apply below_drew1) | exact HB.out))) : w.heap.size ≤ gb128)); clear HB; have HB := n0_; have BK128 := n1_; have GW128 := n2_; have GE128 := n3_; clear n0_ n1_ n2_ n3_; clear hb hbox hg; have hcz14_0 : w13.cell? ⟨gb128, 0, none⟩ = some (.int .i64 a0_0) := (blk_cell BK128.out 0).trans rfl; have hcz14_1 : w13.cell? ⟨gb128, 1, none⟩ = some (.int .i64 a0_1) := (blk_cell BK128.out 1).trans rfl; have hcz14_2 : w13.cell? ⟨gb128, 2, none⟩ = some (.int .i64 a0_2) := (blk_cell BK128.out 2).trans rfl; have hcz14_3 : w13.cell? ⟨gb128, 3, none⟩ = some (.int .i64 a0_3) := (blk_cell BK128.out 3).trans rfl; have hcz14_4 : w13.cell? ⟨gb128, 4, none⟩ = some (.int .i64 a0_4) := (blk_cell BK128.out 4).trans rfl; have hcz14_5 : w13.cell? ⟨gb128, 5, none⟩ = some (.int .i64 a0_5) := (blk_cell BK128.out 5).trans rfl; have hcz14_6 : w13.cell? ⟨gb128, 6, none⟩ = some (.string a0_6) := (blk_cell BK128.out 6).trans rfl; have hcz14_7 : w13.cell? ⟨gb128, 7, none⟩ = some (.bool a0_7) := (blk_cell BK128.out 7).trans rfl; have hcz14_8 : w13.cell? ⟨gb128, 8, none⟩ = some (.int .i64 a0_8) := (blk_cell BK128.out 8).trans rfl; have hcz14_9 : w13.cell? ⟨gb128, 9, none⟩ = some (.int .i64 a0_9) := (blk_cell BK128.out 9).trans rfl; have hcz14_10 : w13.cell? ⟨gb128, 10, none⟩ = some (.int .i64 a0_10) := (blk_cell BK128.out 10).trans rfl; have hcz14_11 : w13.cell? ⟨gb128, 11, none⟩ = some (.string a0_11) := (blk_cell BK128.out 11).trans rfl; have hcz14_12 : w13.cell? ⟨gb128, 12, none⟩ = some (.string a0_12) := (blk_cell BK128.out 12).trans rfl; have hcz14_13 : w13.cell? ⟨gb128, 13, none⟩ = some (.int .i64 a0_13) := (blk_cell BK128.out 13).trans rfl; have hcz14_14 : w13.cell? ⟨gb128, 14, none⟩ = some (.int .i64 a0_14) := (blk_cell BK128.out 14).trans rfl; have hcz14_15 : w13.cell? ⟨gb128, 15, none⟩ = some (.int .i64 a0_15) := (blk_cell BK128.out 15).trans rfl; have hcz14_16 : w13.cell? ⟨gb128, 16, none⟩ = some (.bool a0_16) := (blk_cell BK128.out 16).trans rfl; have hfz14_0 := blk_frozen BK128.out 0; have hfz14_1 := blk_frozen BK128.out 1; have hfz14_2 := blk_frozen BK128.out 2; have hfz14_3 := blk_frozen BK128.out 3; have hfz14_4 := blk_frozen BK128.out 4; have hfz14_5 := blk_frozen BK128.out 5; have hfz14_6 := blk_frozen BK128.out 6; have hfz14_7 := blk_frozen BK128.out 7; have hfz14_8 := blk_frozen BK128.out 8; have hfz14_9 := blk_frozen BK128.out 9; have hfz14_10 := blk_frozen BK128.out 10; have hfz14_11 := blk_frozen BK128.out 11; have hfz14_12 := blk_frozen BK128.out 12; have hfz14_13 := blk_frozen BK128.out 13; have hfz14_14 := blk_frozen BK128.out 14; have hfz14_15 := blk_frozen BK128.out 15; have hfz14_16 := blk_frozen BK128.out 16) | ((with_reducible refine gate_callee (f := 73) rfl ?_); refine goesL_ (some 5) rfl rfl Tryd.func73 (by kernel_rfl) rfl #[.int .i64 a0_9] rfl (by (try simp only [List.map_toArray, List.map_cons, List.map_nil]); first | done | rfl | (simp only [List.length_drop, List.length_take]; rfl)) ?_; (with_reducible refine (octroiref18_Output.calls a0_9 false _ A2.out).mono ?_); rintro e w' ⟨rfl, ⟨nd, rfl⟩⟩; refine ⟨_, rfl, ?_⟩))
    go_ret
    exact ⟨by first | rfl | (simp [errW_none, errW_some] <;> rfl) | (simp [*, errW_none, errW_some] <;> rfl), by repeat (first | (with_reducible first | exact HB.out | apply below_alloc | apply pw_below_drewN | apply below_drew1 | refine below_set ?_ GE128.out) | exact HB.out)⟩

/-! ### octroiref25_Field: function 28 -/
def octroiref25_Field.f (a0_0 : Int) (a0_1 : Int) (a0_2 : Int) (a0_3 : Int) (a0_4 : Int) (a0_5 : Int) (a0_6 : ByteArray) (a0_7 : Bool) (a0_8 : Int) (a0_9 : Int) (a0_10 : Int) (a0_11 : ByteArray) (a0_12 : ByteArray) (a0_13 : Int) (a0_14 : Int) (a0_15 : Int) (a0_16 : Bool) (a1 : ByteArray) : Option (Int × Bool) := if a1.toList = ([98, 97, 115, 101] : List UInt8) then (some (a0_13, true)) else (if a1.toList = ([116, 97, 120] : List UInt8) then (some (a0_14, true)) else (if a1.toList = ([111, 117, 116] : List UInt8) then ((octroiref25_Owed.f a0_0 a0_1 a0_2 a0_3 a0_4 a0_5 a0_6 a0_7 a0_8 a0_9 a0_10 a0_11 a0_12 a0_13 a0_14 a0_15 a0_16).bind fun t132 => (some (t132, true))) else (if a1.toList = ([105, 110] : List UInt8) then (some (a0_15, true)) else (some (0, false)))))
set_option maxHeartbeats 8000000 in
set_option maxRecDepth 100000 in
theorem octroiref25_Field.calls (a0_0 : Int) (a0_1 : Int) (a0_2 : Int) (a0_3 : Int) (a0_4 : Int) (a0_5 : Int) (a0_6 : ByteArray) (a0_7 : Bool) (a0_8 : Int) (a0_9 : Int) (a0_10 : Int) (a0_11 : ByteArray) (a0_12 : ByteArray) (a0_13 : Int) (a0_14 : Int) (a0_15 : Int) (a0_16 : Bool) (a1 : ByteArray) (r1 : Int) (r2 : Bool) (w : World) (h : octroiref25_Field.f a0_0 a0_1 a0_2 a0_3 a0_4 a0_5 a0_6 a0_7 a0_8 a0_9 a0_10 a0_11 a0_12 a0_13 a0_14 a0_15 a0_16 a1 = some (r1, r2)) :
    Calls Tryd.prog 28 #[.agg #[.int .i64 a0_0, .int .i64 a0_1, .int .i64 a0_2, .int .i64 a0_3, .int .i64 a0_4, .int .i64 a0_5, .string a0_6, .bool a0_7, .int .i64 a0_8, .int .i64 a0_9, .int .i64 a0_10, .string a0_11, .string a0_12, .int .i64 a0_13, .int .i64 a0_14, .int .i64 a0_15, .bool a0_16], .string a1] w fun e w' => e = .returned (.tuple #[.int .i64 r1, .bool r2]) ∧ Below w.heap.size w w' := by
  have hu25 := Tryd.underlying25
  have HB := Aside0.mk (Below.refl w.heap.size w)
  have H : (if a1.toList = ([98, 97, 115, 101] : List UInt8) then (some (a0_13, true)) else (if a1.toList = ([116, 97, 120] : List UInt8) then (some (a0_14, true)) else (if a1.toList = ([111, 117, 116] : List UInt8) then ((octroiref25_Owed.f a0_0 a0_1 a0_2 a0_3 a0_4 a0_5 a0_6 a0_7 a0_8 a0_9 a0_10 a0_11 a0_12 a0_13 a0_14 a0_15 a0_16).bind fun t132 => (some (t132, true))) else (if a1.toList = ([105, 110] : List UInt8) then (some (a0_15, true)) else (some (0, false)))))) = some (r1, r2) := h
  clear h
  by_cases c3 : a1.toList = ([98, 97, 115, 101] : List UInt8)
  · rw [if_pos c3] at H
    have c3b0 : (a1.toList == ([98, 97, 115, 101] : List UInt8)) = true := beq_iff_eq.mpr c3
    have c3b1 : (a1.toList != ([98, 97, 115, 101] : List UInt8)) = false := bne_eq_false_iff_eq.mpr c3
    clear c3
    simp only [Option.some.injEq, Prod.mk.injEq] at H
    obtain ⟨rfl, rfl⟩ := H
    go_enter Tryd.func28, Tryd.ntmps28
    go_wp2_with (first | ((first | (with_reducible refine gate_dst (N := 17) rfl ?_)); (try (refine gate_guard (by rfl) ?_; dsimp only)); apply RowTake.wpl_row (ty := 25) (hu := Tryd.underlying25) (hd := rfl); (case hgd => rfl); (case ho => rfl); (case hx => rfl); (case hg => repeat (first | exact Aside0.out (by with_reducible assumption) | refine blk_drewN ?_ _ | refine blk_drew ?_ | refine blk_alloc ?_ _)); (case hi => kernel_rfl)) | ((with_reducible refine gate_dst (N := 2) rfl ?_); refine box_event ?hg (N := 2) ?hd (cs := #[.int .i64 a0_0, .int .i64 a0_1, .int .i64 a0_2, .int .i64 a0_3, .int .i64 a0_4, .int .i64 a0_5, .string a0_6, .bool a0_7, .int .i64 a0_8, .int .i64 a0_9, .int .i64 a0_10, .string a0_11, .string a0_12, .int .i64 a0_13, .int .i64 a0_14, .int .i64 a0_15, .bool a0_16]) (t := 25) ?hr ?_; (case hd => rfl); (case hg => rfl); (case hr => first | (go_simp; done) | (go_simp; rfl)); intro gb131 hg w4 hbox hb; have n0_ := Aside0.mk (below_step (by repeat (first | (with_reducible first | exact HB.out | apply below_alloc | apply pw_below_drewN | apply below_drew1) | exact HB.out)) hb); have n1_ := Aside0.mk (hbox); have n2_ := Aside0.mk ((by rw [hg]; exact (below_size (by repeat (first | (with_reducible first | exact HB.out | apply below_alloc | apply pw_below_drewN | apply below_drew1) | exact HB.out))) : w.heap.size ≤ gb131)); have n3_ := Aside0.mk ((by rw [hg]; exact (below_size (by repeat (first | (with_reducible first | exact HB.out | apply below_alloc | apply pw_below_drewN | apply below_drew1) | exact HB.out))) : w.heap.size ≤ gb131)); clear HB; have HB := n0_; have BK131 := n1_; have GW131 := n2_; have GE131 := n3_; clear n0_ n1_ n2_ n3_; clear hb hbox hg; have hcz5_13 : w4.cell? ⟨gb131, 13, none⟩ = some (.int .i64 a0_13) := (blk_cell BK131.out 13).trans rfl; have hcz5_14 : w4.cell? ⟨gb131, 14, none⟩ = some (.int .i64 a0_14) := (blk_cell BK131.out 14).trans rfl; have hcz5_15 : w4.cell? ⟨gb131, 15, none⟩ = some (.int .i64 a0_15) := (blk_cell BK131.out 15).trans rfl; have hfz5_13 := blk_frozen BK131.out 13; have hfz5_14 := blk_frozen BK131.out 14; have hfz5_15 := blk_frozen BK131.out 15))
    go_ret2
    exact ⟨by first | rfl | (simp [errW_none, errW_some] <;> rfl) | (simp [*, errW_none, errW_some] <;> rfl), by repeat (first | (with_reducible first | exact HB.out | apply below_alloc | apply pw_below_drewN | apply below_drew1 | refine below_set ?_ GE131.out) | exact HB.out)⟩
  · rw [if_neg c3] at H
    have c3b0 : (a1.toList == ([98, 97, 115, 101] : List UInt8)) = false := beq_eq_false_iff_ne.mpr c3
    have c3b1 : (a1.toList != ([98, 97, 115, 101] : List UInt8)) = true := bne_iff_ne.mpr c3
    by_cases c6 : a1.toList = ([116, 97, 120] : List UInt8)
    · rw [if_pos c6] at H
      have c6b0 : (a1.toList == ([116, 97, 120] : List UInt8)) = true := beq_iff_eq.mpr c6
      have c6b1 : (a1.toList != ([116, 97, 120] : List UInt8)) = false := bne_eq_false_iff_eq.mpr c6
      clear c6
      simp only [Option.some.injEq, Prod.mk.injEq] at H
      obtain ⟨rfl, rfl⟩ := H
      go_enter Tryd.func28, Tryd.ntmps28
      go_wp2_with (first | ((first | (with_reducible refine gate_dst (N := 17) rfl ?_)); (try (refine gate_guard (by rfl) ?_; dsimp only)); apply RowTake.wpl_row (ty := 25) (hu := Tryd.underlying25) (hd := rfl); (case hgd => rfl); (case ho => rfl); (case hx => rfl); (case hg => repeat (first | exact Aside0.out (by with_reducible assumption) | refine blk_drewN ?_ _ | refine blk_drew ?_ | refine blk_alloc ?_ _)); (case hi => kernel_rfl)) | ((with_reducible refine gate_dst (N := 2) rfl ?_); refine box_event ?hg (N := 2) ?hd (cs := #[.int .i64 a0_0, .int .i64 a0_1, .int .i64 a0_2, .int .i64 a0_3, .int .i64 a0_4, .int .i64 a0_5, .string a0_6, .bool a0_7, .int .i64 a0_8, .int .i64 a0_9, .int .i64 a0_10, .string a0_11, .string a0_12, .int .i64 a0_13, .int .i64 a0_14, .int .i64 a0_15, .bool a0_16]) (t := 25) ?hr ?_; (case hd => rfl); (case hg => rfl); (case hr => first | (go_simp; done) | (go_simp; rfl)); intro gb131 hg w7 hbox hb; have n0_ := Aside0.mk (below_step (by repeat (first | (with_reducible first | exact HB.out | apply below_alloc | apply pw_below_drewN | apply below_drew1) | exact HB.out)) hb); have n1_ := Aside0.mk (hbox); have n2_ := Aside0.mk ((by rw [hg]; exact (below_size (by repeat (first | (with_reducible first | exact HB.out | apply below_alloc | apply pw_below_drewN | apply below_drew1) | exact HB.out))) : w.heap.size ≤ gb131)); have n3_ := Aside0.mk ((by rw [hg]; exact (below_size (by repeat (first | (with_reducible first | exact HB.out | apply below_alloc | apply pw_below_drewN | apply below_drew1) | exact HB.out))) : w.heap.size ≤ gb131)); clear HB; have HB := n0_; have BK131 := n1_; have GW131 := n2_; have GE131 := n3_; clear n0_ n1_ n2_ n3_; clear hb hbox hg; have hcz8_13 : w7.cell? ⟨gb131, 13, none⟩ = some (.int .i64 a0_13) := (blk_cell BK131.out 13).trans rfl; have hcz8_14 : w7.cell? ⟨gb131, 14, none⟩ = some (.int .i64 a0_14) := (blk_cell BK131.out 14).trans rfl; have hcz8_15 : w7.cell? ⟨gb131, 15, none⟩ = some (.int .i64 a0_15) := (blk_cell BK131.out 15).trans rfl; have hfz8_13 := blk_frozen BK131.out 13; have hfz8_14 := blk_frozen BK131.out 14; have hfz8_15 := blk_frozen BK131.out 15))
      go_ret2
      exact ⟨by first | rfl | (simp [errW_none, errW_some] <;> rfl) | (simp [*, errW_none, errW_some] <;> rfl), by repeat (first | (with_reducible first | exact HB.out | apply below_alloc | apply pw_below_drewN | apply below_drew1 | refine below_set ?_ GE131.out) | exact HB.out)⟩
    · rw [if_neg c6] at H
      have c6b0 : (a1.toList == ([116, 97, 120] : List UInt8)) = false := beq_eq_false_iff_ne.mpr c6
      have c6b1 : (a1.toList != ([116, 97, 120] : List UInt8)) = true := bne_iff_ne.mpr c6
      by_cases c9 : a1.toList = ([111, 117, 116] : List UInt8)
      · rw [if_pos c9] at H
        have c9b0 : (a1.toList == ([111, 117, 116] : List UInt8)) = true := beq_iff_eq.mpr c9
        have c9b1 : (a1.toList != ([111, 117, 116] : List UInt8)) = false := bne_eq_false_iff_eq.mpr c9
        clear c9
        replace H := Option.bind_eq_some_iff.mp H
        obtain ⟨t132, A100, H⟩ := H
        replace H : (some (t132, true)) = some (r1, r2) := H
        have A10 := Aside0.mk A100
        clear A100
        simp only [Option.some.injEq, Prod.mk.injEq] at H
        obtain ⟨rfl, rfl⟩ := H
        go_enter Tryd.func28, Tryd.ntmps28
        go_wp2_with (first | ((first | (with_reducible refine gate_dst (N := 17) rfl ?_)); (try (refine gate_guard (by rfl) ?_; dsimp only)); apply RowTake.wpl_row (ty := 25) (hu := Tryd.underlying25) (hd := rfl); (case hgd => rfl); (case ho => rfl); (case hx => rfl); (case hg => repeat (first | exact Aside0.out (by with_reducible assumption) | refine blk_drewN ?_ _ | refine blk_drew ?_ | refine blk_alloc ?_ _)); (case hi => kernel_rfl)) | ((with_reducible refine gate_dst (N := 2) rfl ?_); refine box_event ?hg (N := 2) ?hd (cs := #[.int .i64 a0_0, .int .i64 a0_1, .int .i64 a0_2, .int .i64 a0_3, .int .i64 a0_4, .int .i64 a0_5, .string a0_6, .bool a0_7, .int .i64 a0_8, .int .i64 a0_9, .int .i64 a0_10, .string a0_11, .string a0_12, .int .i64 a0_13, .int .i64 a0_14, .int .i64 a0_15, .bool a0_16]) (t := 25) ?hr ?_; (case hd => rfl); (case hg => rfl); (case hr => first | (go_simp; done) | (go_simp; rfl)); intro gb131 hg w11 hbox hb; have n0_ := Aside0.mk (below_step (by repeat (first | (with_reducible first | exact HB.out | apply below_alloc | apply pw_below_drewN | apply below_drew1) | exact HB.out)) hb); have n1_ := Aside0.mk (hbox); have n2_ := Aside0.mk ((by rw [hg]; exact (below_size (by repeat (first | (with_reducible first | exact HB.out | apply below_alloc | apply pw_below_drewN | apply below_drew1) | exact HB.out))) : w.heap.size ≤ gb131)); have n3_ := Aside0.mk ((by rw [hg]; exact (below_size (by repeat (first | (with_reducible first | exact HB.out | apply below_alloc | apply pw_below_drewN | apply below_drew1) | exact HB.out))) : w.heap.size ≤ gb131)); clear HB; have HB := n0_; have BK131 := n1_; have GW131 := n2_; have GE131 := n3_; clear n0_ n1_ n2_ n3_; clear hb hbox hg; have hcz12_13 : w11.cell? ⟨gb131, 13, none⟩ = some (.int .i64 a0_13) := (blk_cell BK131.out 13).trans rfl; have hcz12_14 : w11.cell? ⟨gb131, 14, none⟩ = some (.int .i64 a0_14) := (blk_cell BK131.out 14).trans rfl; have hcz12_15 : w11.cell? ⟨gb131, 15, none⟩ = some (.int .i64 a0_15) := (blk_cell BK131.out 15).trans rfl; have hfz12_13 := blk_frozen BK131.out 13; have hfz12_14 := blk_frozen BK131.out 14; have hfz12_15 := blk_frozen BK131.out 15) | ((with_reducible refine gate_callee (f := 34) rfl ?_); refine goesL_ (some 18) rfl rfl Tryd.func34 (by kernel_rfl) rfl #[.agg #[.int .i64 a0_0, .int .i64 a0_1, .int .i64 a0_2, .int .i64 a0_3, .int .i64 a0_4, .int .i64 a0_5, .string a0_6, .bool a0_7, .int .i64 a0_8, .int .i64 a0_9, .int .i64 a0_10, .string a0_11, .string a0_12, .int .i64 a0_13, .int .i64 a0_14, .int .i64 a0_15, .bool a0_16]] rfl (by (try simp only [List.map_toArray, List.map_cons, List.map_nil]); first | done | rfl | (simp only [List.length_drop, List.length_take]; rfl)) ?_; (with_reducible refine (octroiref25_Owed.calls a0_0 a0_1 a0_2 a0_3 a0_4 a0_5 a0_6 a0_7 a0_8 a0_9 a0_10 a0_11 a0_12 a0_13 a0_14 a0_15 a0_16 t132 _ A10.out).mono ?_); rintro e w13 ⟨rfl, hb⟩; refine ⟨_, rfl, ?_⟩; have n0_ := Aside0.mk (blk_below (g := gb131) (o := .cells #[.int .i64 a0_0, .int .i64 a0_1, .int .i64 a0_2, .int .i64 a0_3, .int .i64 a0_4, .int .i64 a0_5, .string a0_6, .bool a0_7, .int .i64 a0_8, .int .i64 a0_9, .int .i64 a0_10, .string a0_11, .string a0_12, .int .i64 a0_13, .int .i64 a0_14, .int .i64 a0_15, .bool a0_16] 25 (0, 0)) (by (with_reducible repeat (first | refine blk_drewN ?_ _ | refine blk_drew ?_ | refine blk_alloc ?_ _)); exact BK131.out) hb); have n1_ := Aside0.mk (below_step (by repeat (first | (with_reducible first | exact HB.out | apply below_alloc | apply pw_below_drewN | apply below_drew1 | refine below_set ?_ GE131.out) | exact HB.out)) hb); clear BK131; clear HB; have BK131 := n0_; have HB := n1_; clear n0_ n1_; (try clear hb); (try clear hb2); (try clear hk); (try clear hi)))
        go_ret2
        exact ⟨by first | rfl | (simp [errW_none, errW_some] <;> rfl) | (simp [*, errW_none, errW_some] <;> rfl), by repeat (first | (with_reducible first | exact HB.out | apply below_alloc | apply pw_below_drewN | apply below_drew1 | refine below_set ?_ GE131.out) | exact HB.out)⟩
      · rw [if_neg c9] at H
        have c9b0 : (a1.toList == ([111, 117, 116] : List UInt8)) = false := beq_eq_false_iff_ne.mpr c9
        have c9b1 : (a1.toList != ([111, 117, 116] : List UInt8)) = true := bne_iff_ne.mpr c9
        by_cases c14 : a1.toList = ([105, 110] : List UInt8)
        · rw [if_pos c14] at H
          have c14b0 : (a1.toList == ([105, 110] : List UInt8)) = true := beq_iff_eq.mpr c14
          have c14b1 : (a1.toList != ([105, 110] : List UInt8)) = false := bne_eq_false_iff_eq.mpr c14
          clear c14
          simp only [Option.some.injEq, Prod.mk.injEq] at H
          obtain ⟨rfl, rfl⟩ := H
          go_enter Tryd.func28, Tryd.ntmps28
          go_wp2_with (first | ((first | (with_reducible refine gate_dst (N := 17) rfl ?_)); (try (refine gate_guard (by rfl) ?_; dsimp only)); apply RowTake.wpl_row (ty := 25) (hu := Tryd.underlying25) (hd := rfl); (case hgd => rfl); (case ho => rfl); (case hx => rfl); (case hg => repeat (first | exact Aside0.out (by with_reducible assumption) | refine blk_drewN ?_ _ | refine blk_drew ?_ | refine blk_alloc ?_ _)); (case hi => kernel_rfl)) | ((with_reducible refine gate_dst (N := 2) rfl ?_); refine box_event ?hg (N := 2) ?hd (cs := #[.int .i64 a0_0, .int .i64 a0_1, .int .i64 a0_2, .int .i64 a0_3, .int .i64 a0_4, .int .i64 a0_5, .string a0_6, .bool a0_7, .int .i64 a0_8, .int .i64 a0_9, .int .i64 a0_10, .string a0_11, .string a0_12, .int .i64 a0_13, .int .i64 a0_14, .int .i64 a0_15, .bool a0_16]) (t := 25) ?hr ?_; (case hd => rfl); (case hg => rfl); (case hr => first | (go_simp; done) | (go_simp; rfl)); intro gb131 hg w15 hbox hb; have n0_ := Aside0.mk (below_step (by repeat (first | (with_reducible first | exact HB.out | apply below_alloc | apply pw_below_drewN | apply below_drew1) | exact HB.out)) hb); have n1_ := Aside0.mk (hbox); have n2_ := Aside0.mk ((by rw [hg]; exact (below_size (by repeat (first | (with_reducible first | exact HB.out | apply below_alloc | apply pw_below_drewN | apply below_drew1) | exact HB.out))) : w.heap.size ≤ gb131)); have n3_ := Aside0.mk ((by rw [hg]; exact (below_size (by repeat (first | (with_reducible first | exact HB.out | apply below_alloc | apply pw_below_drewN | apply below_drew1) | exact HB.out))) : w.heap.size ≤ gb131)); clear HB; have HB := n0_; have BK131 := n1_; have GW131 := n2_; have GE131 := n3_; clear n0_ n1_ n2_ n3_; clear hb hbox hg; have hcz16_13 : w15.cell? ⟨gb131, 13, none⟩ = some (.int .i64 a0_13) := (blk_cell BK131.out 13).trans rfl; have hcz16_14 : w15.cell? ⟨gb131, 14, none⟩ = some (.int .i64 a0_14) := (blk_cell BK131.out 14).trans rfl; have hcz16_15 : w15.cell? ⟨gb131, 15, none⟩ = some (.int .i64 a0_15) := (blk_cell BK131.out 15).trans rfl; have hfz16_13 := blk_frozen BK131.out 13; have hfz16_14 := blk_frozen BK131.out 14; have hfz16_15 := blk_frozen BK131.out 15))
          go_ret2
          exact ⟨by first | rfl | (simp [errW_none, errW_some] <;> rfl) | (simp [*, errW_none, errW_some] <;> rfl), by repeat (first | (with_reducible first | exact HB.out | apply below_alloc | apply pw_below_drewN | apply below_drew1 | refine below_set ?_ GE131.out) | exact HB.out)⟩
        · rw [if_neg c14] at H
          have c14b0 : (a1.toList == ([105, 110] : List UInt8)) = false := beq_eq_false_iff_ne.mpr c14
          have c14b1 : (a1.toList != ([105, 110] : List UInt8)) = true := bne_iff_ne.mpr c14
          simp only [Option.some.injEq, Prod.mk.injEq] at H
          obtain ⟨rfl, rfl⟩ := H
          go_enter Tryd.func28, Tryd.ntmps28
          go_wp2_with (first | ((first | (with_reducible refine gate_dst (N := 17) rfl ?_)); (try (refine gate_guard (by rfl) ?_; dsimp only)); apply RowTake.wpl_row (ty := 25) (hu := Tryd.underlying25) (hd := rfl); (case hgd => rfl); (case ho => rfl); (case hx => rfl); (case hg => repeat (first | exact Aside0.out (by with_reducible assumption) | refine blk_drewN ?_ _ | refine blk_drew ?_ | refine blk_alloc ?_ _)); (case hi => kernel_rfl)) | ((with_reducible refine gate_dst (N := 2) rfl ?_); refine box_event ?hg (N := 2) ?hd (cs := #[.int .i64 a0_0, .int .i64 a0_1, .int .i64 a0_2, .int .i64 a0_3, .int .i64 a0_4, .int .i64 a0_5, .string a0_6, .bool a0_7, .int .i64 a0_8, .int .i64 a0_9, .int .i64 a0_10, .string a0_11, .string a0_12, .int .i64 a0_13, .int .i64 a0_14, .int .i64 a0_15, .bool a0_16]) (t := 25) ?hr ?_; (case hd => rfl); (case hg => rfl); (case hr => first | (go_simp; done) | (go_simp; rfl)); intro gb131 hg w17 hbox hb; have n0_ := Aside0.mk (below_step (by repeat (first | (with_reducible first | exact HB.out | apply below_alloc | apply pw_below_drewN | apply below_drew1) | exact HB.out)) hb); have n1_ := Aside0.mk (hbox); have n2_ := Aside0.mk ((by rw [hg]; exact (below_size (by repeat (first | (with_reducible first | exact HB.out | apply below_alloc | apply pw_below_drewN | apply below_drew1) | exact HB.out))) : w.heap.size ≤ gb131)); have n3_ := Aside0.mk ((by rw [hg]; exact (below_size (by repeat (first | (with_reducible first | exact HB.out | apply below_alloc | apply pw_below_drewN | apply below_drew1) | exact HB.out))) : w.heap.size ≤ gb131)); clear HB; have HB := n0_; have BK131 := n1_; have GW131 := n2_; have GE131 := n3_; clear n0_ n1_ n2_ n3_; clear hb hbox hg))
          go_ret2
          exact ⟨by first | rfl | (simp [errW_none, errW_some] <;> rfl) | (simp [*, errW_none, errW_some] <;> rfl), by repeat (first | (with_reducible first | exact HB.out | apply below_alloc | apply pw_below_drewN | apply below_drew1 | refine below_set ?_ GE131.out) | exact HB.out)⟩

-- NOT PRINTED: function 104 (entry_bit)

-- NOT PRINTED: function 69 (entry_tag)

end Go.Proofs.YtlciddgncngniaaDoor.XEntryNames
