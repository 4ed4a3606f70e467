-- WRITTEN BY wip/xprint.py (my own wrapper round the print, with contracts of my own in it)
import Derived.Test.YtmkalnljclhigaaGreatQXCheckerChecksx0
import Derived.Test.YtmkalnljclhigaaGreatQXCheckerChecksx2
import Derived.Test.YtmkalnljclhigaaGreatQXCheckerChecksx11
namespace Go.Proofs.YtmkalnljclhigaaGreat.XCheckerChecks
open Go.RowKit Go.Proofs.YtmkalnljclhigaaGreatW.PrintWords Go.Proofs.YtmkalnljclhigaaGreatW.PrintLast Go.Proofs.YtmkalnljclhigaaGreatW.PrintMore
attribute [local go_sem] max2_int min2_int max_two min_two max_three min_three max_four min_four   -- for this text's walks alone
set_option linter.unusedVariables false
set_option linter.unusedSimpArgs false

attribute [local go_sem high] eqA70
/-! ### octroiref25_Owed: function 62 -/
def octroiref25_Owed.f (a0_0 : Int) (a0_1 : Int) (a0_2 : Int) (a0_3 : Int) (a0_4 : Int) (a0_5 : Int) (a0_6 : ByteArray) (a0_7 : Bool) (a0_8 : Int) (a0_9 : Int) (a0_10 : Int) (a0_11 : ByteArray) (a0_12 : ByteArray) (a0_13 : Int) (a0_14 : Int) (a0_15 : Int) (a0_16 : Bool) : Option (Int) := (octroiref18_Output.f a0_9).bind fun t272 => (if t272 = true then (if a0_7 = true then (some a0_14) else ((octroiref18_Deducts.f a0_9).bind fun t273 => (if t273 = true then (some a0_14) else (some 0)))) else (some 0))
set_option maxHeartbeats 8000000 in
set_option maxRecDepth 100000 in
theorem octroiref25_Owed.calls (a0_0 : Int) (a0_1 : Int) (a0_2 : Int) (a0_3 : Int) (a0_4 : Int) (a0_5 : Int) (a0_6 : ByteArray) (a0_7 : Bool) (a0_8 : Int) (a0_9 : Int) (a0_10 : Int) (a0_11 : ByteArray) (a0_12 : ByteArray) (a0_13 : Int) (a0_14 : Int) (a0_15 : Int) (a0_16 : Bool) (r : Int) (w : World) (h : octroiref25_Owed.f a0_0 a0_1 a0_2 a0_3 a0_4 a0_5 a0_6 a0_7 a0_8 a0_9 a0_10 a0_11 a0_12 a0_13 a0_14 a0_15 a0_16 = some r) :
  Calls Tryz.prog 62 #[.agg #[.int .i64 a0_0, .int .i64 a0_1, .int .i64 a0_2, .int .i64 a0_3, .int .i64 a0_4, .int .i64 a0_5, .string a0_6, .bool a0_7, .int .i64 a0_8, .int .i64 a0_9, .int .i64 a0_10, .string a0_11, .string a0_12, .int .i64 a0_13, .int .i64 a0_14, .int .i64 a0_15, .bool a0_16]] w fun e w' => e = .returned (.int .i64 r) ∧ Below w.heap.size w w' := by
 have hu72 := Tryz.underlying72
 have HB := A0m (Below.refl w.heap.size w)
 have H : ((octroiref18_Output.f a0_9).bind fun t272 => (if t272 = true then (if a0_7 = true then (some a0_14) else ((octroiref18_Deducts.f a0_9).bind fun t273 => (if t273 = true then (some a0_14) else (some 0)))) else (some 0))) = some r := h
 clear h
 replace H := Option.bind_eq_some_iff.mp H
 obtain ⟨t272, A20, H⟩ := H
 replace H : (if t272 = true then (if a0_7 = true then (some a0_14) else ((octroiref18_Deducts.f a0_9).bind fun t273 => (if t273 = true then (some a0_14) else (some 0)))) else (some 0)) = some r := H
 have A2 := A0m A20
 clear A20
 by_cases c3 : t272 = true
 ·subst c3
  have H1 : (if a0_7 = true then (some a0_14) else ((octroiref18_Deducts.f a0_9).bind fun t273 => (if t273 = true then (some a0_14) else (some 0)))) = some r := by rw [if_pos rfl] at H; exact H
  clear H
  have H := H1
  clear H1
  by_cases c4 : a0_7 = true
  ·subst c4
   have H1 : (some a0_14) = some r := by rw [if_pos rfl] at H; exact H
   clear H
   have H := H1
   clear H1
   obtain rfl := Option.some.inj H
   go_enter Tryz.func62, Tryz.ntmps62
   go_wp2_with (first | ((with_reducible refine gate_dst (N := 1) rfl ?_); refine box_event ?hg (N := 1) ?hd (cs := #[.int .i64 a0_0, .int .i64 a0_1, .int .i64 a0_2, .int .i64 a0_3, .int .i64 a0_4, .int .i64 a0_5, .string a0_6, .bool true, .int .i64 a0_8, .int .i64 a0_9, .int .i64 a0_10, .string a0_11, .string a0_12, .int .i64 a0_13, .int .i64 a0_14, .int .i64 a0_15, .bool a0_16]) (t := 72) ?hr ?_; (case hd => rfl); (case hg => rfl); (case hr => first | (go_simp; done) | (go_simp; rfl)); intro gb271 hg w5 hbox hb; have n0_ := A0m (below_step (by repeat (first | (with_reducible first | exact HB.out | apply bA | apply bN | apply bD) | exact HB.out)) hb); have n1_ := A0m (hbox); have n2_ := A0m ((by rw [hg]; exact (below_size (by repeat (first | (with_reducible first | exact HB.out | apply bA | apply bN | apply bD) | exact HB.out))) : w.heap.size ≤ gb271)); have n3_ := A0m ((by rw [hg]; exact (below_size (by repeat (first | (with_reducible first | exact HB.out | apply bA | apply bN | apply bD) | exact HB.out))) : w.heap.size ≤ gb271)); clear HB; have HB := n0_; have BK271 := n1_; have GW271 := n2_; have GE271 := n3_; clear n0_ n1_ n2_ n3_; clear hb hbox hg; have hcz6_0 : w5.cell? ⟨gb271, 0, none⟩ = some (.int .i64 a0_0) := (kC BK271.out 0).trans rfl; have hcz6_1 : w5.cell? ⟨gb271, 1, none⟩ = some (.int .i64 a0_1) := (kC BK271.out 1).trans rfl; have hcz6_2 : w5.cell? ⟨gb271, 2, none⟩ = some (.int .i64 a0_2) := (kC BK271.out 2).trans rfl; have hcz6_3 : w5.cell? ⟨gb271, 3, none⟩ = some (.int .i64 a0_3) := (kC BK271.out 3).trans rfl; have hcz6_4 : w5.cell? ⟨gb271, 4, none⟩ = some (.int .i64 a0_4) := (kC BK271.out 4).trans rfl; have hcz6_5 : w5.cell? ⟨gb271, 5, none⟩ = some (.int .i64 a0_5) := (kC BK271.out 5).trans rfl; have hcz6_6 : w5.cell? ⟨gb271, 6, none⟩ = some (.string a0_6) := (kC BK271.out 6).trans rfl; have hcz6_7 : w5.cell? ⟨gb271, 7, none⟩ = some (.bool true) := (kC BK271.out 7).trans rfl; have hcz6_8 : w5.cell? ⟨gb271, 8, none⟩ = some (.int .i64 a0_8) := (kC BK271.out 8).trans rfl; have hcz6_9 : w5.cell? ⟨gb271, 9, none⟩ = some (.int .i64 a0_9) := (kC BK271.out 9).trans rfl; have hcz6_10 : w5.cell? ⟨gb271, 10, none⟩ = some (.int .i64 a0_10) := (kC BK271.out 10).trans rfl; have hcz6_11 : w5.cell? ⟨gb271, 11, none⟩ = some (.string a0_11) := (kC BK271.out 11).trans rfl; have hcz6_12 : w5.cell? ⟨gb271, 12, none⟩ = some (.string a0_12) := (kC BK271.out 12).trans rfl; have hcz6_13 : w5.cell? ⟨gb271, 13, none⟩ = some (.int .i64 a0_13) := (kC BK271.out 13).trans rfl; have hcz6_14 : w5.cell? ⟨gb271, 14, none⟩ = some (.int .i64 a0_14) := (kC BK271.out 14).trans rfl; have hcz6_15 : w5.cell? ⟨gb271, 15, none⟩ = some (.int .i64 a0_15) := (kC BK271.out 15).trans rfl; have hcz6_16 : w5.cell? ⟨gb271, 16, none⟩ = some (.bool a0_16) := (kC BK271.out 16).trans rfl; have hfz6_0 := kF BK271.out 0; have hfz6_1 := kF BK271.out 1; have hfz6_2 := kF BK271.out 2; have hfz6_3 := kF BK271.out 3; have hfz6_4 := kF BK271.out 4; have hfz6_5 := kF BK271.out 5; have hfz6_6 := kF BK271.out 6; have hfz6_7 := kF BK271.out 7; have hfz6_8 := kF BK271.out 8; have hfz6_9 := kF BK271.out 9; have hfz6_10 := kF BK271.out 10; have hfz6_11 := kF BK271.out 11; have hfz6_12 := kF BK271.out 12; have hfz6_13 := kF BK271.out 13; have hfz6_14 := kF BK271.out 14; have hfz6_15 := kF BK271.out 15; have hfz6_16 := kF BK271.out 16) | ((with_reducible refine gate_callee (f := 74) rfl ?_); refine goesL_ (some 5) rfl rfl Tryz.func74 (by kernel_rfl) rfl #[.int .i64 a0_9] rfl (by (try simp only [List.map_toArray, List.map_cons, List.map_nil]); first | done | rfl | (simp only [List.length_drop, List.length_take]; rfl)) ?_; (with_reducible refine (octroiref18_Output.calls a0_9 true _ A2.out).mono ?_); rintro e w' ⟨rfl, ⟨nd, rfl⟩⟩; refine ⟨_, rfl, ?_⟩))
   go_ret
   exact ⟨by first | rfl | (simp [errW_none, errW_some] <;> rfl) | (simp [*, errW_none, errW_some] <;> rfl), by repeat (first | (with_reducible first | exact HB.out | apply bA | apply bN | apply bD | refine bS ?_ GE271.out) | exact HB.out)⟩
  ·replace c4 := Bool.eq_false_iff.mpr c4
   subst c4
   have H1 : ((octroiref18_Deducts.f a0_9).bind fun t273 => (if t273 = true then (some a0_14) else (some 0))) = some r := by rw [if_neg (show ¬ (false = true) by decide)] at H; exact H
   clear H
   have H := H1
   clear H1
   replace H := Option.bind_eq_some_iff.mp H
   obtain ⟨t273, A70, H⟩ := H
   replace H : (if t273 = true then (some a0_14) else (some 0)) = some r := H
   have A7 := A0m A70
   clear A70
   by_cases c8 : t273 = true
   ·subst c8
    have H1 : (some a0_14) = some r := by rw [if_pos rfl] at H; exact H
    clear H
    have H := H1
    clear H1
    obtain rfl := Option.some.inj H
    go_enter Tryz.func62, Tryz.ntmps62
    go_wp2_with (first | ((with_reducible refine gate_dst (N := 1) rfl ?_); refine box_event ?hg (N := 1) ?hd (cs := #[.int .i64 a0_0, .int .i64 a0_1, .int .i64 a0_2, .int .i64 a0_3, .int .i64 a0_4, .int .i64 a0_5, .string a0_6, .bool false, .int .i64 a0_8, .int .i64 a0_9, .int .i64 a0_10, .string a0_11, .string a0_12, .int .i64 a0_13, .int .i64 a0_14, .int .i64 a0_15, .bool a0_16]) (t := 72) ?hr ?_; (case hd => rfl); (case hg => rfl); (case hr => first | (go_simp; done) | (go_simp; rfl)); intro gb271 hg w9 hbox hb; have n0_ := A0m (below_step (by repeat (first | (with_reducible first | exact HB.out | apply bA | apply bN | apply bD) | exact HB.out)) hb); have n1_ := A0m (hbox); have n2_ := A0m ((by rw [hg]; exact (below_size (by repeat (first | (with_reducible first | exact HB.out | apply bA | apply bN | apply bD) | exact HB.out))) : w.heap.size ≤ gb271)); have n3_ := A0m ((by rw [hg]; exact (below_size (by repeat (first | (with_reducible first | exact HB.out | apply bA | apply bN | apply bD) | exact HB.out))) : w.heap.size ≤ gb271)); clear HB; have HB := n0_; have BK271 := n1_; have GW271 := n2_; have GE271 := n3_; clear n0_ n1_ n2_ n3_; clear hb hbox hg; have hcz10_0 : w9.cell? ⟨gb271, 0, none⟩ = some (.int .i64 a0_0) := (kC BK271.out 0).trans rfl; have hcz10_1 : w9.cell? ⟨gb271, 1, none⟩ = some (.int .i64 a0_1) := (kC BK271.out 1).trans rfl; have hcz10_2 : w9.cell? ⟨gb271, 2, none⟩ = some (.int .i64 a0_2) := (kC BK271.out 2).trans rfl; have hcz10_3 : w9.cell? ⟨gb271, 3, none⟩ = some (.int .i64 a0_3) := (kC BK271.out 3).trans rfl; have hcz10_4 : w9.cell? ⟨gb271, 4, none⟩ = some (.int .i64 a0_4) := (kC BK271.out 4).trans rfl; have hcz10_5 : w9.cell? ⟨gb271, 5, none⟩ = some (.int .i64 a0_5) := (kC BK271.out 5).trans rfl; have hcz10_6 : w9.cell? ⟨gb271, 6, none⟩ = some (.string a0_6) := (kC BK271.out 6).trans rfl; have hcz10_7 : w9.cell? ⟨gb271, 7, none⟩ = some (.bool false) := (kC BK271.out 7).trans rfl; have hcz10_8 : w9.cell? ⟨gb271, 8, none⟩ = some (.int .i64 a0_8) := (kC BK271.out 8).trans rfl; have hcz10_9 : w9.cell? ⟨gb271, 9, none⟩ = some (.int .i64 a0_9) := (kC BK271.out 9).trans rfl; have hcz10_10 : w9.cell? ⟨gb271, 10, none⟩ = some (.int .i64 a0_10) := (kC BK271.out 10).trans rfl; have hcz10_11 : w9.cell? ⟨gb271, 11, none⟩ = some (.string a0_11) := (kC BK271.out 11).trans rfl; have hcz10_12 : w9.cell? ⟨gb271, 12, none⟩ = some (.string a0_12) := (kC BK271.out 12).trans rfl; have hcz10_13 : w9.cell? ⟨gb271, 13, none⟩ = some (.int .i64 a0_13) := (kC BK271.out 13).trans rfl; have hcz10_14 : w9.cell? ⟨gb271, 14, none⟩ = some (.int .i64 a0_14) := (kC BK271.out 14).trans rfl; have hcz10_15 : w9.cell? ⟨gb271, 15, none⟩ = some (.int .i64 a0_15) := (kC BK271.out 15).trans rfl; have hcz10_16 : w9.cell? ⟨gb271, 16, none⟩ = some (.bool a0_16) := (kC BK271.out 16).trans rfl; have hfz10_0 := kF BK271.out 0; have hfz10_1 := kF BK271.out 1; have hfz10_2 := kF BK271.out 2; have hfz10_3 := kF BK271.out 3; have hfz10_4 := kF BK271.out 4; have hfz10_5 := kF BK271.out 5; have hfz10_6 := kF BK271.out 6; have hfz10_7 := kF BK271.out 7; have hfz10_8 := kF BK271.out 8; have hfz10_9 := kF BK271.out 9; have hfz10_10 := kF BK271.out 10; have hfz10_11 := kF BK271.out 11; have hfz10_12 := kF BK271.out 12; have hfz10_13 := kF BK271.out 13; have hfz10_14 := kF BK271.out 14; have hfz10_15 := kF BK271.out 15; have hfz10_16 := kF BK271.out 16) | ((with_reducible refine gate_callee (f := 74) rfl ?_); refine goesL_ (some 5) rfl rfl Tryz.func74 (by kernel_rfl) rfl #[.int .i64 a0_9] rfl (by (try simp only [List.map_toArray, List.map_cons, List.map_nil]); first | done | rfl | (simp only [List.length_drop, List.length_take]; rfl)) ?_; (with_reducible refine (octroiref18_Output.calls a0_9 true _ A2.out).mono ?_); rintro e w' ⟨rfl, ⟨nd, rfl⟩⟩; refine ⟨_, rfl, ?_⟩) | (go_at_call 75; (with_reducible refine (octroiref18_Deducts.calls a0_9 true _ A7.out).mono ?_); rintro e w' ⟨rfl, ⟨nd, rfl⟩⟩))
    go_ret
    exact ⟨by first | rfl | (simp [errW_none, errW_some] <;> rfl) | (simp [*, errW_none, errW_some] <;> rfl), by repeat (first | (with_reducible first | exact HB.out | apply bA | apply bN | apply bD | refine bS ?_ GE271.out) | exact HB.out)⟩
   ·replace c8 := Bool.eq_false_iff.mpr c8
    subst c8
    have H1 : (some 0) = some r := by rw [if_neg (show ¬ (false = true) by decide)] at H; exact H
    clear H
    have H := H1
    clear H1
    obtain rfl := Option.some.inj H
    go_enter Tryz.func62, Tryz.ntmps62
    go_wp2_with (first | ((with_reducible refine gate_dst (N := 1) rfl ?_); refine box_event ?hg (N := 1) ?hd (cs := #[.int .i64 a0_0, .int .i64 a0_1, .int .i64 a0_2, .int .i64 a0_3, .int .i64 a0_4, .int .i64 a0_5, .string a0_6, .bool false, .int .i64 a0_8, .int .i64 a0_9, .int .i64 a0_10, .string a0_11, .string a0_12, .int .i64 a0_13, .int .i64 a0_14, .int .i64 a0_15, .bool a0_16]) (t := 72) ?hr ?_; (case hd => rfl); (case hg => rfl); (case hr => first | (go_simp; done) | (go_simp; rfl)); intro gb271 hg w11 hbox hb; have n0_ := A0m (below_step (by repeat (first | (with_reducible first | exact HB.out | apply bA | apply bN | apply bD) | exact HB.out)) hb); have n1_ := A0m (hbox); have n2_ := A0m ((by rw [hg]; exact (below_size (by repeat (first | (with_reducible first | exact HB.out | apply bA | apply bN | apply bD) | exact HB.out))) : w.heap.size ≤ gb271)); have n3_ := A0m ((by rw [hg]; exact (below_size (by repeat (first | (with_reducible first | exact HB.out | apply bA | apply bN | apply bD) | exact HB.out))) : w.heap.size ≤ gb271)); clear HB; have HB := n0_; have BK271 := n1_; have GW271 := n2_; have GE271 := n3_; clear n0_ n1_ n2_ n3_; clear hb hbox hg; have hcz12_0 : w11.cell? ⟨gb271, 0, none⟩ = some (.int .i64 a0_0) := (kC BK271.out 0).trans rfl; have hcz12_1 : w11.cell? ⟨gb271, 1, none⟩ = some (.int .i64 a0_1) := (kC BK271.out 1).trans rfl; have hcz12_2 : w11.cell? ⟨gb271, 2, none⟩ = some (.int .i64 a0_2) := (kC BK271.out 2).trans rfl; have hcz12_3 : w11.cell? ⟨gb271, 3, none⟩ = some (.int .i64 a0_3) := (kC BK271.out 3).trans rfl; have hcz12_4 : w11.cell? ⟨gb271, 4, none⟩ = some (.int .i64 a0_4) := (kC BK271.out 4).trans rfl; have hcz12_5 : w11.cell? ⟨gb271, 5, none⟩ = some (.int .i64 a0_5) := (kC BK271.out 5).trans rfl; have hcz12_6 : w11.cell? ⟨gb271, 6, none⟩ = some (.string a0_6) := (kC BK271.out 6).trans rfl; have hcz12_7 : w11.cell? ⟨gb271, 7, none⟩ = some (.bool false) := (kC BK271.out 7).trans rfl; have hcz12_8 : w11.cell? ⟨gb271, 8, none⟩ = some (.int .i64 a0_8) := (kC BK271.out 8).trans rfl; have hcz12_9 : w11.cell? ⟨gb271, 9, none⟩ = some (.int .i64 a0_9) := (kC BK271.out 9).trans rfl; have hcz12_10 : w11.cell? ⟨gb271, 10, none⟩ = some (.int .i64 a0_10) := (kC BK271.out 10).trans rfl; have hcz12_11 : w11.cell? ⟨gb271, 11, none⟩ = some (.string a0_11) := (kC BK271.out 11).trans rfl; have hcz12_12 : w11.cell? ⟨gb271, 12, none⟩ = some (.string a0_12) := (kC BK271.out 12).trans rfl; have hcz12_13 : w11.cell? ⟨gb271, 13, none⟩ = some (.int .i64 a0_13) := (kC BK271.out 13).trans rfl; have hcz12_14 : w11.cell? ⟨gb271, 14, none⟩ = some (.int .i64 a0_14) := (kC BK271.out 14).trans rfl; have hcz12_15 : w11.cell? ⟨gb271, 15, none⟩ = some (.int .i64 a0_15) := (kC BK271.out 15).trans rfl; have hcz12_16 : w11.cell? ⟨gb271, 16, none⟩ = some (.bool a0_16) := (kC BK271.out 16).trans rfl; have hfz12_0 := kF BK271.out 0; have hfz12_1 := kF BK271.out 1; have hfz12_2 := kF BK271.out 2; have hfz12_3 := kF BK271.out 3; have hfz12_4 := kF BK271.out 4; have hfz12_5 := kF BK271.out 5; have hfz12_6 := kF BK271.out 6; have hfz12_7 := kF BK271.out 7; have hfz12_8 := kF BK271.out 8; have hfz12_9 := kF BK271.out 9; have hfz12_10 := kF BK271.out 10; have hfz12_11 := kF BK271.out 11; have hfz12_12 := kF BK271.out 12; have hfz12_13 := kF BK271.out 13; have hfz12_14 := kF BK271.out 14; have hfz12_15 := kF BK271.out 15; have hfz12_16 := kF BK271.out 16) | ((with_reducible refine gate_callee (f := 74) rfl ?_); refine goesL_ (some 5) rfl rfl Tryz.func74 (by kernel_rfl) rfl #[.int .i64 a0_9] rfl (by (try simp only [List.map_toArray, List.map_cons, List.map_nil]); first | done | rfl | (simp only [List.length_drop, List.length_take]; rfl)) ?_; (with_reducible refine (octroiref18_Output.calls a0_9 true _ A2.out).mono ?_); rintro e w' ⟨rfl, ⟨nd, rfl⟩⟩; refine ⟨_, rfl, ?_⟩) | (go_at_call 75; (with_reducible refine (octroiref18_Deducts.calls a0_9 false _ A7.out).mono ?_); rintro e w' ⟨rfl, ⟨nd, rfl⟩⟩))
    go_ret
    exact ⟨by first | rfl | (simp [errW_none, errW_some] <;> rfl) | (simp [*, errW_none, errW_some] <;> rfl), by repeat (first | (with_reducible first | exact HB.out | apply bA | apply bN | apply bD | refine bS ?_ GE271.out) | exact HB.out)⟩
 ·replace c3 := Bool.eq_false_iff.mpr c3
  subst c3
  have H1 : (some 0) = some r := by rw [if_neg (show ¬ (false = true) by decide)] at H; exact H
  clear H
  have H := H1
  clear H1
  obtain rfl := Option.some.inj H
  go_enter Tryz.func62, Tryz.ntmps62
  go_wp2_with (first | ((with_reducible refine gate_dst (N := 1) rfl ?_); refine box_event ?hg (N := 1) ?hd (cs := #[.int .i64 a0_0, .int .i64 a0_1, .int .i64 a0_2, .int .i64 a0_3, .int .i64 a0_4, .int .i64 a0_5, .string a0_6, .bool a0_7, .int .i64 a0_8, .int .i64 a0_9, .int .i64 a0_10, .string a0_11, .string a0_12, .int .i64 a0_13, .int .i64 a0_14, .int .i64 a0_15, .bool a0_16]) (t := 72) ?hr ?_; (case hd => rfl); (case hg => rfl); (case hr => first | (go_simp; done) | (go_simp; rfl)); intro gb271 hg w13 hbox hb; have n0_ := A0m (below_step (by repeat (first | (with_reducible first | exact HB.out | apply bA | apply bN | apply bD) | exact HB.out)) hb); have n1_ := A0m (hbox); have n2_ := A0m ((by rw [hg]; exact (below_size (by repeat (first | (with_reducible first | exact HB.out | apply bA | apply bN | apply bD) | exact HB.out))) : w.heap.size ≤ gb271)); have n3_ := A0m ((by rw [hg]; exact (below_size (by repeat (first | (with_reducible first | exact HB.out | apply bA | apply bN | apply bD) | exact HB.out))) : w.heap.size ≤ gb271)); clear HB; have HB := n0_; have BK271 := n1_; have GW271 := n2_; have GE271 := n3_; clear n0_ n1_ n2_ n3_; clear hb hbox hg; have hcz14_0 : w13.cell? ⟨gb271, 0, none⟩ = some (.int .i64 a0_0) := (kC BK271.out 0).trans rfl; have hcz14_1 : w13.cell? ⟨gb271, 1, none⟩ = some (.int .i64 a0_1) := (kC BK271.out 1).trans rfl; have hcz14_2 : w13.cell? ⟨gb271, 2, none⟩ = some (.int .i64 a0_2) := (kC BK271.out 2).trans rfl; have hcz14_3 : w13.cell? ⟨gb271, 3, none⟩ = some (.int .i64 a0_3) := (kC BK271.out 3).trans rfl; have hcz14_4 : w13.cell? ⟨gb271, 4, none⟩ = some (.int .i64 a0_4) := (kC BK271.out 4).trans rfl; have hcz14_5 : w13.cell? ⟨gb271, 5, none⟩ = some (.int .i64 a0_5) := (kC BK271.out 5).trans rfl; have hcz14_6 : w13.cell? ⟨gb271, 6, none⟩ = some (.string a0_6) := (kC BK271.out 6).trans rfl; have hcz14_7 : w13.cell? ⟨gb271, 7, none⟩ = some (.bool a0_7) := (kC BK271.out 7).trans rfl; have hcz14_8 : w13.cell? ⟨gb271, 8, none⟩ = some (.int .i64 a0_8) := (kC BK271.out 8).trans rfl; have hcz14_9 : w13.cell? ⟨gb271, 9, none⟩ = some (.int .i64 a0_9) := (kC BK271.out 9).trans rfl; have hcz14_10 : w13.cell? ⟨gb271, 10, none⟩ = some (.int .i64 a0_10) := (kC BK271.out 10).trans rfl; have hcz14_11 : w13.cell? ⟨gb271, 11, none⟩ = some (.string a0_11) := (kC BK271.out 11).trans rfl; have hcz14_12 : w13.cell? ⟨gb271, 12, none⟩ = some (.string a0_12) := (kC BK271.out 12).trans rfl; have hcz14_13 : w13.cell? ⟨gb271, 13, none⟩ = some (.int .i64 a0_13) := (kC BK271.out 13).trans rfl; have hcz14_14 : w13.cell? ⟨gb271, 14, none⟩ = some (.int .i64 a0_14) := (kC BK271.out 14).trans rfl; have hcz14_15 : w13.cell? ⟨gb271, 15, none⟩ = some (.int .i64 a0_15) := (kC BK271.out 15).trans rfl; have hcz14_16 : w13.cell? ⟨gb271, 16, none⟩ = some (.bool a0_16) := (kC BK271.out 16).trans rfl; have hfz14_0 := kF BK271.out 0; have hfz14_1 := kF BK271.out 1; have hfz14_2 := kF BK271.out 2; have hfz14_3 := kF BK271.out 3; have hfz14_4 := kF BK271.out 4; have hfz14_5 := kF BK271.out 5; have hfz14_6 := kF BK271.out 6; have hfz14_7 := kF BK271.out 7; have hfz14_8 := kF BK271.out 8; have hfz14_9 := kF BK271.out 9; have hfz14_10 := kF BK271.out 10; have hfz14_11 := kF BK271.out 11; have hfz14_12 := kF BK271.out 12; have hfz14_13 := kF BK271.out 13; have hfz14_14 := kF BK271.out 14; have hfz14_15 := kF BK271.out 15; have hfz14_16 := kF BK271.out 16) | ((with_reducible refine gate_callee (f := 74) rfl ?_); refine goesL_ (some 5) rfl rfl Tryz.func74 (by kernel_rfl) rfl #[.int .i64 a0_9] rfl (by (try simp only [List.map_toArray, List.map_cons, List.map_nil]); first | done | rfl | (simp only [List.length_drop, List.length_take]; rfl)) ?_; (with_reducible refine (octroiref18_Output.calls a0_9 false _ A2.out).mono ?_); rintro e w' ⟨rfl, ⟨nd, rfl⟩⟩; refine ⟨_, rfl, ?_⟩))
  go_ret
  exact ⟨by first | rfl | (simp [errW_none, errW_some] <;> rfl) | (simp [*, errW_none, errW_some] <;> rfl), by repeat (first | (with_reducible first | exact HB.out | apply bA | apply bN | apply bD | refine bS ?_ GE271.out) | exact HB.out)⟩

/-! ### octroiref25_Field: function 39 -/
def octroiref25_Field.f (a0_0 : Int) (a0_1 : Int) (a0_2 : Int) (a0_3 : Int) (a0_4 : Int) (a0_5 : Int) (a0_6 : ByteArray) (a0_7 : Bool) (a0_8 : Int) (a0_9 : Int) (a0_10 : Int) (a0_11 : ByteArray) (a0_12 : ByteArray) (a0_13 : Int) (a0_14 : Int) (a0_15 : Int) (a0_16 : Bool) (a1 : ByteArray) : Option (Int × Bool) := if a1.toList = ([98, 97, 115, 101] : List UInt8) then (some (a0_13, true)) else (if a1.toList = ([116, 97, 120] : List UInt8) then (some (a0_14, true)) else (if a1.toList = ([111, 117, 116] : List UInt8) then ((octroiref25_Owed.f a0_0 a0_1 a0_2 a0_3 a0_4 a0_5 a0_6 a0_7 a0_8 a0_9 a0_10 a0_11 a0_12 a0_13 a0_14 a0_15 a0_16).bind fun t275 => (some (t275, true))) else (if a1.toList = ([105, 110] : List UInt8) then (some (a0_15, true)) else (some (0, false)))))
set_option maxHeartbeats 8000000 in
set_option maxRecDepth 100000 in
theorem octroiref25_Field.calls (a0_0 : Int) (a0_1 : Int) (a0_2 : Int) (a0_3 : Int) (a0_4 : Int) (a0_5 : Int) (a0_6 : ByteArray) (a0_7 : Bool) (a0_8 : Int) (a0_9 : Int) (a0_10 : Int) (a0_11 : ByteArray) (a0_12 : ByteArray) (a0_13 : Int) (a0_14 : Int) (a0_15 : Int) (a0_16 : Bool) (a1 : ByteArray) (r1 : Int) (r2 : Bool) (w : World) (h : octroiref25_Field.f a0_0 a0_1 a0_2 a0_3 a0_4 a0_5 a0_6 a0_7 a0_8 a0_9 a0_10 a0_11 a0_12 a0_13 a0_14 a0_15 a0_16 a1 = some (r1, r2)) :
  Calls Tryz.prog 39 #[.agg #[.int .i64 a0_0, .int .i64 a0_1, .int .i64 a0_2, .int .i64 a0_3, .int .i64 a0_4, .int .i64 a0_5, .string a0_6, .bool a0_7, .int .i64 a0_8, .int .i64 a0_9, .int .i64 a0_10, .string a0_11, .string a0_12, .int .i64 a0_13, .int .i64 a0_14, .int .i64 a0_15, .bool a0_16], .string a1] w fun e w' => e = .returned (.tuple #[.int .i64 r1, .bool r2]) ∧ Below w.heap.size w w' := by
 have hu72 := Tryz.underlying72
 have HB := A0m (Below.refl w.heap.size w)
 have H : (if a1.toList = ([98, 97, 115, 101] : List UInt8) then (some (a0_13, true)) else (if a1.toList = ([116, 97, 120] : List UInt8) then (some (a0_14, true)) else (if a1.toList = ([111, 117, 116] : List UInt8) then ((octroiref25_Owed.f a0_0 a0_1 a0_2 a0_3 a0_4 a0_5 a0_6 a0_7 a0_8 a0_9 a0_10 a0_11 a0_12 a0_13 a0_14 a0_15 a0_16).bind fun t275 => (some (t275, true))) else (if a1.toList = ([105, 110] : List UInt8) then (some (a0_15, true)) else (some (0, false)))))) = some (r1, r2) := h
 clear h
 by_cases c3 : a1.toList = ([98, 97, 115, 101] : List UInt8)
 ·rw [if_pos c3] at H
  have c3b0 : (a1.toList == ([98, 97, 115, 101] : List UInt8)) = true := beq_iff_eq.mpr c3
  have c3b1 : (a1.toList != ([98, 97, 115, 101] : List UInt8)) = false := bne_eq_false_iff_eq.mpr c3
  clear c3
  simp only [Option.some.injEq, Prod.mk.injEq] at H
  obtain ⟨rfl, rfl⟩ := H
  go_enter Tryz.func39, Tryz.ntmps39
  go_wp2_with (first | ((with_reducible refine gate_dst (N := 2) rfl ?_); refine box_event ?hg (N := 2) ?hd (cs := #[.int .i64 a0_0, .int .i64 a0_1, .int .i64 a0_2, .int .i64 a0_3, .int .i64 a0_4, .int .i64 a0_5, .string a0_6, .bool a0_7, .int .i64 a0_8, .int .i64 a0_9, .int .i64 a0_10, .string a0_11, .string a0_12, .int .i64 a0_13, .int .i64 a0_14, .int .i64 a0_15, .bool a0_16]) (t := 72) ?hr ?_; (case hd => rfl); (case hg => rfl); (case hr => first | (go_simp; done) | (go_simp; rfl)); intro gb274 hg w4 hbox hb; have n0_ := A0m (below_step (by repeat (first | (with_reducible first | exact HB.out | apply bA | apply bN | apply bD) | exact HB.out)) hb); have n1_ := A0m (hbox); have n2_ := A0m ((by rw [hg]; exact (below_size (by repeat (first | (with_reducible first | exact HB.out | apply bA | apply bN | apply bD) | exact HB.out))) : w.heap.size ≤ gb274)); have n3_ := A0m ((by rw [hg]; exact (below_size (by repeat (first | (with_reducible first | exact HB.out | apply bA | apply bN | apply bD) | exact HB.out))) : w.heap.size ≤ gb274)); clear HB; have HB := n0_; have BK274 := n1_; have GW274 := n2_; have GE274 := n3_; clear n0_ n1_ n2_ n3_; clear hb hbox hg; have hcz5_0 : w4.cell? ⟨gb274, 0, none⟩ = some (.int .i64 a0_0) := (kC BK274.out 0).trans rfl; have hcz5_1 : w4.cell? ⟨gb274, 1, none⟩ = some (.int .i64 a0_1) := (kC BK274.out 1).trans rfl; have hcz5_2 : w4.cell? ⟨gb274, 2, none⟩ = some (.int .i64 a0_2) := (kC BK274.out 2).trans rfl; have hcz5_3 : w4.cell? ⟨gb274, 3, none⟩ = some (.int .i64 a0_3) := (kC BK274.out 3).trans rfl; have hcz5_4 : w4.cell? ⟨gb274, 4, none⟩ = some (.int .i64 a0_4) := (kC BK274.out 4).trans rfl; have hcz5_5 : w4.cell? ⟨gb274, 5, none⟩ = some (.int .i64 a0_5) := (kC BK274.out 5).trans rfl; have hcz5_6 : w4.cell? ⟨gb274, 6, none⟩ = some (.string a0_6) := (kC BK274.out 6).trans rfl; have hcz5_7 : w4.cell? ⟨gb274, 7, none⟩ = some (.bool a0_7) := (kC BK274.out 7).trans rfl; have hcz5_8 : w4.cell? ⟨gb274, 8, none⟩ = some (.int .i64 a0_8) := (kC BK274.out 8).trans rfl; have hcz5_9 : w4.cell? ⟨gb274, 9, none⟩ = some (.int .i64 a0_9) := (kC BK274.out 9).trans rfl; have hcz5_10 : w4.cell? ⟨gb274, 10, none⟩ = some (.int .i64 a0_10) := (kC BK274.out 10).trans rfl; have hcz5_11 : w4.cell? ⟨gb274, 11, none⟩ = some (.string a0_11) := (kC BK274.out 11).trans rfl; have hcz5_12 : w4.cell? ⟨gb274, 12, none⟩ = some (.string a0_12) := (kC BK274.out 12).trans rfl; have hcz5_13 : w4.cell? ⟨gb274, 13, none⟩ = some (.int .i64 a0_13) := (kC BK274.out 13).trans rfl; have hcz5_14 : w4.cell? ⟨gb274, 14, none⟩ = some (.int .i64 a0_14) := (kC BK274.out 14).trans rfl; have hcz5_15 : w4.cell? ⟨gb274, 15, none⟩ = some (.int .i64 a0_15) := (kC BK274.out 15).trans rfl; have hcz5_16 : w4.cell? ⟨gb274, 16, none⟩ = some (.bool a0_16) := (kC BK274.out 16).trans rfl; have hfz5_0 := kF BK274.out 0; have hfz5_1 := kF BK274.out 1; have hfz5_2 := kF BK274.out 2; have hfz5_3 := kF BK274.out 3; have hfz5_4 := kF BK274.out 4; have hfz5_5 := kF BK274.out 5; have hfz5_6 := kF BK274.out 6; have hfz5_7 := kF BK274.out 7; have hfz5_8 := kF BK274.out 8; have hfz5_9 := kF BK274.out 9; have hfz5_10 := kF BK274.out 10; have hfz5_11 := kF BK274.out 11; have hfz5_12 := kF BK274.out 12; have hfz5_13 := kF BK274.out 13; have hfz5_14 := kF BK274.out 14; have hfz5_15 := kF BK274.out 15; have hfz5_16 := kF BK274.out 16))
  go_ret2
  exact ⟨by first | rfl | (simp [errW_none, errW_some] <;> rfl) | (simp [*, errW_none, errW_some] <;> rfl), by repeat (first | (with_reducible first | exact HB.out | apply bA | apply bN | apply bD | refine bS ?_ GE274.out) | exact HB.out)⟩
 ·rw [if_neg c3] at H
  have c3b0 : (a1.toList == ([98, 97, 115, 101] : List UInt8)) = false := beq_eq_false_iff_ne.mpr c3
  have c3b1 : (a1.toList != ([98, 97, 115, 101] : List UInt8)) = true := bne_iff_ne.mpr c3
  by_cases c6 : a1.toList = ([116, 97, 120] : List UInt8)
  ·rw [if_pos c6] at H
   have c6b0 : (a1.toList == ([116, 97, 120] : List UInt8)) = true := beq_iff_eq.mpr c6
   have c6b1 : (a1.toList != ([116, 97, 120] : List UInt8)) = false := bne_eq_false_iff_eq.mpr c6
   clear c6
   simp only [Option.some.injEq, Prod.mk.injEq] at H
   obtain ⟨rfl, rfl⟩ := H
   go_enter Tryz.func39, Tryz.ntmps39
   go_wp2_with (first | ((with_reducible refine gate_dst (N := 2) rfl ?_); refine box_event ?hg (N := 2) ?hd (cs := #[.int .i64 a0_0, .int .i64 a0_1, .int .i64 a0_2, .int .i64 a0_3, .int .i64 a0_4, .int .i64 a0_5, .string a0_6, .bool a0_7, .int .i64 a0_8, .int .i64 a0_9, .int .i64 a0_10, .string a0_11, .string a0_12, .int .i64 a0_13, .int .i64 a0_14, .int .i64 a0_15, .bool a0_16]) (t := 72) ?hr ?_; (case hd => rfl); (case hg => rfl); (case hr => first | (go_simp; done) | (go_simp; rfl)); intro gb274 hg w7 hbox hb; have n0_ := A0m (below_step (by repeat (first | (with_reducible first | exact HB.out | apply bA | apply bN | apply bD) | exact HB.out)) hb); have n1_ := A0m (hbox); have n2_ := A0m ((by rw [hg]; exact (below_size (by repeat (first | (with_reducible first | exact HB.out | apply bA | apply bN | apply bD) | exact HB.out))) : w.heap.size ≤ gb274)); have n3_ := A0m ((by rw [hg]; exact (below_size (by repeat (first | (with_reducible first | exact HB.out | apply bA | apply bN | apply bD) | exact HB.out))) : w.heap.size ≤ gb274)); clear HB; have HB := n0_; have BK274 := n1_; have GW274 := n2_; have GE274 := n3_; clear n0_ n1_ n2_ n3_; clear hb hbox hg; have hcz8_0 : w7.cell? ⟨gb274, 0, none⟩ = some (.int .i64 a0_0) := (kC BK274.out 0).trans rfl; have hcz8_1 : w7.cell? ⟨gb274, 1, none⟩ = some (.int .i64 a0_1) := (kC BK274.out 1).trans rfl; have hcz8_2 : w7.cell? ⟨gb274, 2, none⟩ = some (.int .i64 a0_2) := (kC BK274.out 2).trans rfl; have hcz8_3 : w7.cell? ⟨gb274, 3, none⟩ = some (.int .i64 a0_3) := (kC BK274.out 3).trans rfl; have hcz8_4 : w7.cell? ⟨gb274, 4, none⟩ = some (.int .i64 a0_4) := (kC BK274.out 4).trans rfl; have hcz8_5 : w7.cell? ⟨gb274, 5, none⟩ = some (.int .i64 a0_5) := (kC BK274.out 5).trans rfl; have hcz8_6 : w7.cell? ⟨gb274, 6, none⟩ = some (.string a0_6) := (kC BK274.out 6).trans rfl; have hcz8_7 : w7.cell? ⟨gb274, 7, none⟩ = some (.bool a0_7) := (kC BK274.out 7).trans rfl; have hcz8_8 : w7.cell? ⟨gb274, 8, none⟩ = some (.int .i64 a0_8) := (kC BK274.out 8).trans rfl; have hcz8_9 : w7.cell? ⟨gb274, 9, none⟩ = some (.int .i64 a0_9) := (kC BK274.out 9).trans rfl; have hcz8_10 : w7.cell? ⟨gb274, 10, none⟩ = some (.int .i64 a0_10) := (kC BK274.out 10).trans rfl; have hcz8_11 : w7.cell? ⟨gb274, 11, none⟩ = some (.string a0_11) := (kC BK274.out 11).trans rfl; have hcz8_12 : w7.cell? ⟨gb274, 12, none⟩ = some (.string a0_12) := (kC BK274.out 12).trans rfl; have hcz8_13 : w7.cell? ⟨gb274, 13, none⟩ = some (.int .i64 a0_13) := (kC BK274.out 13).trans rfl; have hcz8_14 : w7.cell? ⟨gb274, 14, none⟩ = some (.int .i64 a0_14) := (kC BK274.out 14).trans rfl; have hcz8_15 : w7.cell? ⟨gb274, 15, none⟩ = some (.int .i64 a0_15) := (kC BK274.out 15).trans rfl; have hcz8_16 : w7.cell? ⟨gb274, 16, none⟩ = some (.bool a0_16) := (kC BK274.out 16).trans rfl; have hfz8_0 := kF BK274.out 0; have hfz8_1 := kF BK274.out 1; have hfz8_2 := kF BK274.out 2; have hfz8_3 := kF BK274.out 3; have hfz8_4 := kF BK274.out 4; have hfz8_5 := kF BK274.out 5; have hfz8_6 := kF BK274.out 6; have hfz8_7 := kF BK274.out 7; have hfz8_8 := kF BK274.out 8; have hfz8_9 := kF BK274.out 9; have hfz8_10 := kF BK274.out 10; have hfz8_11 := kF BK274.out 11; have hfz8_12 := kF BK274.out 12; have hfz8_13 := kF BK274.out 13; have hfz8_14 := kF BK274.out 14; have hfz8_15 := kF BK274.out 15; have hfz8_16 := kF BK274.out 16))
   go_ret2
   exact ⟨by first | rfl | (simp [errW_none, errW_some] <;> rfl) | (simp [*, errW_none, errW_some] <;> rfl), by repeat (first | (with_reducible first | exact HB.out | apply bA | apply bN | apply bD | refine bS ?_ GE274.out) | exact HB.out)⟩
  ·rw [if_neg c6] at H
   have c6b0 : (a1.toList == ([116, 97, 120] : List UInt8)) = false := beq_eq_false_iff_ne.mpr c6
   have c6b1 : (a1.toList != ([116, 97, 120] : List UInt8)) = true := bne_iff_ne.mpr c6
   by_cases c9 : a1.toList = ([111, 117, 116] : List UInt8)
   ·rw [if_pos c9] at H
    have c9b0 : (a1.toList == ([111, 117, 116] : List UInt8)) = true := beq_iff_eq.mpr c9
    have c9b1 : (a1.toList != ([111, 117, 116] : List UInt8)) = false := bne_eq_false_iff_eq.mpr c9
    clear c9
    replace H := Option.bind_eq_some_iff.mp H
    obtain ⟨t275, A100, H⟩ := H
    replace H : (some (t275, true)) = some (r1, r2) := H
    have A10 := A0m A100
    clear A100
    simp only [Option.some.injEq, Prod.mk.injEq] at H
    obtain ⟨rfl, rfl⟩ := H
    go_enter Tryz.func39, Tryz.ntmps39
    go_wp2_with (first | ((with_reducible refine gate_dst (N := 2) rfl ?_); refine box_event ?hg (N := 2) ?hd (cs := #[.int .i64 a0_0, .int .i64 a0_1, .int .i64 a0_2, .int .i64 a0_3, .int .i64 a0_4, .int .i64 a0_5, .string a0_6, .bool a0_7, .int .i64 a0_8, .int .i64 a0_9, .int .i64 a0_10, .string a0_11, .string a0_12, .int .i64 a0_13, .int .i64 a0_14, .int .i64 a0_15, .bool a0_16]) (t := 72) ?hr ?_; (case hd => rfl); (case hg => rfl); (case hr => first | (go_simp; done) | (go_simp; rfl)); intro gb274 hg w11 hbox hb; have n0_ := A0m (below_step (by repeat (first | (with_reducible first | exact HB.out | apply bA | apply bN | apply bD) | exact HB.out)) hb); have n1_ := A0m (hbox); have n2_ := A0m ((by rw [hg]; exact (below_size (by repeat (first | (with_reducible first | exact HB.out | apply bA | apply bN | apply bD) | exact HB.out))) : w.heap.size ≤ gb274)); have n3_ := A0m ((by rw [hg]; exact (below_size (by repeat (first | (with_reducible first | exact HB.out | apply bA | apply bN | apply bD) | exact HB.out))) : w.heap.size ≤ gb274)); clear HB; have HB := n0_; have BK274 := n1_; have GW274 := n2_; have GE274 := n3_; clear n0_ n1_ n2_ n3_; clear hb hbox hg; have hcz12_0 : w11.cell? ⟨gb274, 0, none⟩ = some (.int .i64 a0_0) := (kC BK274.out 0).trans rfl; have hcz12_1 : w11.cell? ⟨gb274, 1, none⟩ = some (.int .i64 a0_1) := (kC BK274.out 1).trans rfl; have hcz12_2 : w11.cell? ⟨gb274, 2, none⟩ = some (.int .i64 a0_2) := (kC BK274.out 2).trans rfl; have hcz12_3 : w11.cell? ⟨gb274, 3, none⟩ = some (.int .i64 a0_3) := (kC BK274.out 3).trans rfl; have hcz12_4 : w11.cell? ⟨gb274, 4, none⟩ = some (.int .i64 a0_4) := (kC BK274.out 4).trans rfl; have hcz12_5 : w11.cell? ⟨gb274, 5, none⟩ = some (.int .i64 a0_5) := (kC BK274.out 5).trans rfl; have hcz12_6 : w11.cell? ⟨gb274, 6, none⟩ = some (.string a0_6) := (kC BK274.out 6).trans rfl; have hcz12_7 : w11.cell? ⟨gb274, 7, none⟩ = some (.bool a0_7) := (kC BK274.out 7).trans rfl; have hcz12_8 : w11.cell? ⟨gb274, 8, none⟩ = some (.int .i64 a0_8) := (kC BK274.out 8).trans rfl; have hcz12_9 : w11.cell? ⟨gb274, 9, none⟩ = some (.int .i64 a0_9) := (kC BK274.out 9).trans rfl; have hcz12_10 : w11.cell? ⟨gb274, 10, none⟩ = some (.int .i64 a0_10) := (kC BK274.out 10).trans rfl; have hcz12_11 : w11.cell? ⟨gb274, 11, none⟩ = some (.string a0_11) := (kC BK274.out 11).trans rfl; have hcz12_12 : w11.cell? ⟨gb274, 12, none⟩ = some (.string a0_12) := (kC BK274.out 12).trans rfl; have hcz12_13 : w11.cell? ⟨gb274, 13, none⟩ = some (.int .i64 a0_13) := (kC BK274.out 13).trans rfl; have hcz12_14 : w11.cell? ⟨gb274, 14, none⟩ = some (.int .i64 a0_14) := (kC BK274.out 14).trans rfl; have hcz12_15 : w11.cell? ⟨gb274, 15, none⟩ = some (.int .i64 a0_15) := (kC BK274.out 15).trans rfl; have hcz12_16 : w11.cell? ⟨gb274, 16, none⟩ = some (.bool a0_16) := (kC BK274.out 16).trans rfl; have hfz12_0 := kF BK274.out 0; have hfz12_1 := kF BK274.out 1; have hfz12_2 := kF BK274.out 2; have hfz12_3 := kF BK274.out 3; have hfz12_4 := kF BK274.out 4; have hfz12_5 := kF BK274.out 5; have hfz12_6 := kF BK274.out 6; have hfz12_7 := kF BK274.out 7; have hfz12_8 := kF BK274.out 8; have hfz12_9 := kF BK274.out 9; have hfz12_10 := kF BK274.out 10; have hfz12_11 := kF BK274.out 11; have hfz12_12 := kF BK274.out 12; have hfz12_13 := kF BK274.out 13; have hfz12_14 := kF BK274.out 14; have hfz12_15 := kF BK274.out 15; have hfz12_16 := kF BK274.out 16) | ((with_reducible refine gate_callee (f := 62) rfl ?_); refine goesL_ (some 18) rfl rfl Tryz.func62 (by kernel_rfl) rfl #[.agg #[.int .i64 a0_0, .int .i64 a0_1, .int .i64 a0_2, .int .i64 a0_3, .int .i64 a0_4, .int .i64 a0_5, .string a0_6, .bool a0_7, .int .i64 a0_8, .int .i64 a0_9, .int .i64 a0_10, .string a0_11, .string a0_12, .int .i64 a0_13, .int .i64 a0_14, .int .i64 a0_15, .bool a0_16]] rfl (by (try simp only [List.map_toArray, List.map_cons, List.map_nil]); first | done | rfl | (simp only [List.length_drop, List.length_take]; rfl)) ?_; (with_reducible refine (octroiref25_Owed.calls a0_0 a0_1 a0_2 a0_3 a0_4 a0_5 a0_6 a0_7 a0_8 a0_9 a0_10 a0_11 a0_12 a0_13 a0_14 a0_15 a0_16 t275 _ A10.out).mono ?_); rintro e w13 ⟨rfl, hb⟩; refine ⟨_, rfl, ?_⟩; have n0_ := A0m (blk_below (g := gb274) (o := .cells #[.int .i64 a0_0, .int .i64 a0_1, .int .i64 a0_2, .int .i64 a0_3, .int .i64 a0_4, .int .i64 a0_5, .string a0_6, .bool a0_7, .int .i64 a0_8, .int .i64 a0_9, .int .i64 a0_10, .string a0_11, .string a0_12, .int .i64 a0_13, .int .i64 a0_14, .int .i64 a0_15, .bool a0_16] 72 (0, 0)) (by (with_reducible repeat (first | refine kN ?_ _ | refine kD ?_ | refine kA ?_ _)); exact BK274.out) hb); have n1_ := A0m (below_step (by repeat (first | (with_reducible first | exact HB.out | apply bA | apply bN | apply bD | refine bS ?_ GE274.out) | exact HB.out)) hb); clear BK274; clear HB; have BK274 := n0_; have HB := n1_; clear n0_ n1_; (try clear hb); (try clear hb2); (try clear hk); (try clear hi)))
    go_ret2
    exact ⟨by first | rfl | (simp [errW_none, errW_some] <;> rfl) | (simp [*, errW_none, errW_some] <;> rfl), by repeat (first | (with_reducible first | exact HB.out | apply bA | apply bN | apply bD | refine bS ?_ GE274.out) | exact HB.out)⟩
   ·rw [if_neg c9] at H
    have c9b0 : (a1.toList == ([111, 117, 116] : List UInt8)) = false := beq_eq_false_iff_ne.mpr c9
    have c9b1 : (a1.toList != ([111, 117, 116] : List UInt8)) = true := bne_iff_ne.mpr c9
    by_cases c14 : a1.toList = ([105, 110] : List UInt8)
    ·rw [if_pos c14] at H
     have c14b0 : (a1.toList == ([105, 110] : List UInt8)) = true := beq_iff_eq.mpr c14
     have c14b1 : (a1.toList != ([105, 110] : List UInt8)) = false := bne_eq_false_iff_eq.mpr c14
     clear c14
     simp only [Option.some.injEq, Prod.mk.injEq] at H
     obtain ⟨rfl, rfl⟩ := H
     go_enter Tryz.func39, Tryz.ntmps39
     go_wp2_with (first | ((with_reducible refine gate_dst (N := 2) rfl ?_); refine box_event ?hg (N := 2) ?hd (cs := #[.int .i64 a0_0, .int .i64 a0_1, .int .i64 a0_2, .int .i64 a0_3, .int .i64 a0_4, .int .i64 a0_5, .string a0_6, .bool a0_7, .int .i64 a0_8, .int .i64 a0_9, .int .i64 a0_10, .string a0_11, .string a0_12, .int .i64 a0_13, .int .i64 a0_14, .int .i64 a0_15, .bool a0_16]) (t := 72) ?hr ?_; (case hd => rfl); (case hg => rfl); (case hr => first | (go_simp; done) | (go_simp; rfl)); intro gb274 hg w15 hbox hb; have n0_ := A0m (below_step (by repeat (first | (with_reducible first | exact HB.out | apply bA | apply bN | apply bD) | exact HB.out)) hb); have n1_ := A0m (hbox); have n2_ := A0m ((by rw [hg]; exact (below_size (by repeat (first | (with_reducible first | exact HB.out | apply bA | apply bN | apply bD) | exact HB.out))) : w.heap.size ≤ gb274)); have n3_ := A0m ((by rw [hg]; exact (below_size (by repeat (first | (with_reducible first | exact HB.out | apply bA | apply bN | apply bD) | exact HB.out))) : w.heap.size ≤ gb274)); clear HB; have HB := n0_; have BK274 := n1_; have GW274 := n2_; have GE274 := n3_; clear n0_ n1_ n2_ n3_; clear hb hbox hg; have hcz16_0 : w15.cell? ⟨gb274, 0, none⟩ = some (.int .i64 a0_0) := (kC BK274.out 0).trans rfl; have hcz16_1 : w15.cell? ⟨gb274, 1, none⟩ = some (.int .i64 a0_1) := (kC BK274.out 1).trans rfl; have hcz16_2 : w15.cell? ⟨gb274, 2, none⟩ = some (.int .i64 a0_2) := (kC BK274.out 2).trans rfl; have hcz16_3 : w15.cell? ⟨gb274, 3, none⟩ = some (.int .i64 a0_3) := (kC BK274.out 3).trans rfl; have hcz16_4 : w15.cell? ⟨gb274, 4, none⟩ = some (.int .i64 a0_4) := (kC BK274.out 4).trans rfl; have hcz16_5 : w15.cell? ⟨gb274, 5, none⟩ = some (.int .i64 a0_5) := (kC BK274.out 5).trans rfl; have hcz16_6 : w15.cell? ⟨gb274, 6, none⟩ = some (.string a0_6) := (kC BK274.out 6).trans rfl; have hcz16_7 : w15.cell? ⟨gb274, 7, none⟩ = some (.bool a0_7) := (kC BK274.out 7).trans rfl; have hcz16_8 : w15.cell? ⟨gb274, 8, none⟩ = some (.int .i64 a0_8) := (kC BK274.out 8).trans rfl; have hcz16_9 : w15.cell? ⟨gb274, 9, none⟩ = some (.int .i64 a0_9) := (kC BK274.out 9).trans rfl; have hcz16_10 : w15.cell? ⟨gb274, 10, none⟩ = some (.int .i64 a0_10) := (kC BK274.out 10).trans rfl; have hcz16_11 : w15.cell? ⟨gb274, 11, none⟩ = some (.string a0_11) := (kC BK274.out 11).trans rfl; have hcz16_12 : w15.cell? ⟨gb274, 12, none⟩ = some (.string a0_12) := (kC BK274.out 12).trans rfl; have hcz16_13 : w15.cell? ⟨gb274, 13, none⟩ = some (.int .i64 a0_13) := (kC BK274.out 13).trans rfl; have hcz16_14 : w15.cell? ⟨gb274, 14, none⟩ = some (.int .i64 a0_14) := (kC BK274.out 14).trans rfl; have hcz16_15 : w15.cell? ⟨gb274, 15, none⟩ = some (.int .i64 a0_15) := (kC BK274.out 15).trans rfl; have hcz16_16 : w15.cell? ⟨gb274, 16, none⟩ = some (.bool a0_16) := (kC BK274.out 16).trans rfl; have hfz16_0 := kF BK274.out 0; have hfz16_1 := kF BK274.out 1; have hfz16_2 := kF BK274.out 2; have hfz16_3 := kF BK274.out 3; have hfz16_4 := kF BK274.out 4; have hfz16_5 := kF BK274.out 5; have hfz16_6 := kF BK274.out 6; have hfz16_7 := kF BK274.out 7; have hfz16_8 := kF BK274.out 8; have hfz16_9 := kF BK274.out 9; have hfz16_10 := kF BK274.out 10; have hfz16_11 := kF BK274.out 11; have hfz16_12 := kF BK274.out 12; have hfz16_13 := kF BK274.out 13; have hfz16_14 := kF BK274.out 14; have hfz16_15 := kF BK274.out 15; have hfz16_16 := kF BK274.out 16))
     go_ret2
     exact ⟨by first | rfl | (simp [errW_none, errW_some] <;> rfl) | (simp [*, errW_none, errW_some] <;> rfl), by repeat (first | (with_reducible first | exact HB.out | apply bA | apply bN | apply bD | refine bS ?_ GE274.out) | exact HB.out)⟩
    ·rw [if_neg c14] at H
     have c14b0 : (a1.toList == ([105, 110] : List UInt8)) = false := beq_eq_false_iff_ne.mpr c14
     have c14b1 : (a1.toList != ([105, 110] : List UInt8)) = true := bne_iff_ne.mpr c14
     simp only [Option.some.injEq, Prod.mk.injEq] at H
     obtain ⟨rfl, rfl⟩ := H
     go_enter Tryz.func39, Tryz.ntmps39
     go_wp2_with (first | ((with_reducible refine gate_dst (N := 2) rfl ?_); refine box_event ?hg (N := 2) ?hd (cs := #[.int .i64 a0_0, .int .i64 a0_1, .int .i64 a0_2, .int .i64 a0_3, .int .i64 a0_4, .int .i64 a0_5, .string a0_6, .bool a0_7, .int .i64 a0_8, .int .i64 a0_9, .int .i64 a0_10, .string a0_11, .string a0_12, .int .i64 a0_13, .int .i64 a0_14, .int .i64 a0_15, .bool a0_16]) (t := 72) ?hr ?_; (case hd => rfl); (case hg => rfl); (case hr => first | (go_simp; done) | (go_simp; rfl)); intro gb274 hg w17 hbox hb; have n0_ := A0m (below_step (by repeat (first | (with_reducible first | exact HB.out | apply bA | apply bN | apply bD) | exact HB.out)) hb); have n1_ := A0m (hbox); have n2_ := A0m ((by rw [hg]; exact (below_size (by repeat (first | (with_reducible first | exact HB.out | apply bA | apply bN | apply bD) | exact HB.out))) : w.heap.size ≤ gb274)); have n3_ := A0m ((by rw [hg]; exact (below_size (by repeat (first | (with_reducible first | exact HB.out | apply bA | apply bN | apply bD) | exact HB.out))) : w.heap.size ≤ gb274)); clear HB; have HB := n0_; have BK274 := n1_; have GW274 := n2_; have GE274 := n3_; clear n0_ n1_ n2_ n3_; clear hb hbox hg))
     go_ret2
     exact ⟨by first | rfl | (simp [errW_none, errW_some] <;> rfl) | (simp [*, errW_none, errW_some] <;> rfl), by repeat (first | (with_reducible first | exact HB.out | apply bA | apply bN | apply bD | refine bS ?_ GE274.out) | exact HB.out)⟩

/-! ### octroiref25_one: function 63 -/
def octroiref25_one.f (a0 : Bool) : Option (Int) := if a0 = true then (some 1) else (some 0)
set_option maxHeartbeats 8000000 in
set_option maxRecDepth 100000 in
theorem octroiref25_one.calls (a0 : Bool) (r : Int) (w : World) (h : octroiref25_one.f a0 = some r) :
    Calls Tryz.prog 63 #[.bool a0] w fun e w' => e = .returned (.int .i64 r) ∧ Drawn0 w w' := by
  have H : (if a0 = true then (some 1) else (some 0)) = some r := h
  clear h
  by_cases c2 : a0 = true
  · subst c2
    have H1 : (some 1) = some r := by rw [if_pos rfl] at H; exact H
    clear H
    have H := H1
    clear H1
    obtain rfl := Option.some.inj H
    go_enter Tryz.func63, Tryz.ntmps63
    go_wp2
    go_ret
    exact ⟨by first | rfl | (simp; done) | (simp [*]; done), by repeat (first | exact Drawn0.refl _ | apply Drawn0.step)⟩
  · replace c2 := Bool.eq_false_iff.mpr c2
    subst c2
    have H1 : (some 0) = some r := by rw [if_neg (show ¬ (false = true) by decide)] at H; exact H
    clear H
    have H := H1
    clear H1
    obtain rfl := Option.some.inj H
    go_enter Tryz.func63, Tryz.ntmps63
    go_wp2
    go_ret
    exact ⟨by first | rfl | (simp; done) | (simp [*]; done), by repeat (first | exact Drawn0.refl _ | apply Drawn0.step)⟩

/-! ### octroiref25_Late: function 64 -/
def octroiref25_Late.f (a0_0 : Int) (a0_1 : Int) (a0_2 : Int) (a0_3 : Int) (a0_4 : Int) (a0_5 : Int) (a0_6 : ByteArray) (a0_7 : Bool) (a0_8 : Int) (a0_9 : Int) (a0_10 : Int) (a0_11 : ByteArray) (a0_12 : ByteArray) (a0_13 : Int) (a0_14 : Int) (a0_15 : Int) (a0_16 : Bool) : Option (Bool) := some (!(a0_0 == a0_3) || (!(a0_1 == a0_4) || (!(a0_2 == a0_5))))
set_option maxHeartbeats 8000000 in
set_option maxRecDepth 100000 in
theorem octroiref25_Late.calls (a0_0 : Int) (a0_1 : Int) (a0_2 : Int) (a0_3 : Int) (a0_4 : Int) (a0_5 : Int) (a0_6 : ByteArray) (a0_7 : Bool) (a0_8 : Int) (a0_9 : Int) (a0_10 : Int) (a0_11 : ByteArray) (a0_12 : ByteArray) (a0_13 : Int) (a0_14 : Int) (a0_15 : Int) (a0_16 : Bool) (r : Bool) (w : World) (h : octroiref25_Late.f a0_0 a0_1 a0_2 a0_3 a0_4 a0_5 a0_6 a0_7 a0_8 a0_9 a0_10 a0_11 a0_12 a0_13 a0_14 a0_15 a0_16 = some r) :
  Calls Tryz.prog 64 #[.agg #[.int .i64 a0_0, .int .i64 a0_1, .int .i64 a0_2, .int .i64 a0_3, .int .i64 a0_4, .int .i64 a0_5, .string a0_6, .bool a0_7, .int .i64 a0_8, .int .i64 a0_9, .int .i64 a0_10, .string a0_11, .string a0_12, .int .i64 a0_13, .int .i64 a0_14, .int .i64 a0_15, .bool a0_16]] w fun e w' => e = .returned (.bool r) ∧ Below w.heap.size w w' := by
 have hu72 := Tryz.underlying72
 have hu70 := Tryz.underlying70
 have HB := A0m (Below.refl w.heap.size w)
 have H : (some (!(a0_0 == a0_3) || (!(a0_1 == a0_4) || (!(a0_2 == a0_5))))) = some r := h
 clear h
 obtain rfl := Option.some.inj H
 go_enter Tryz.func64, Tryz.ntmps64
 go_wp2_with (first | ((with_reducible refine gate_dst (N := 1) rfl ?_); refine box_event ?hg (N := 1) ?hd (cs := #[.int .i64 a0_0, .int .i64 a0_1, .int .i64 a0_2, .int .i64 a0_3, .int .i64 a0_4, .int .i64 a0_5, .string a0_6, .bool a0_7, .int .i64 a0_8, .int .i64 a0_9, .int .i64 a0_10, .string a0_11, .string a0_12, .int .i64 a0_13, .int .i64 a0_14, .int .i64 a0_15, .bool a0_16]) (t := 72) ?hr ?_; (case hd => rfl); (case hg => rfl); (case hr => first | (go_simp; done) | (go_simp; rfl)); intro gb276 hg w2 hbox hb; have n0_ := A0m (below_step (by repeat (first | (with_reducible first | exact HB.out | apply bA | apply bN | apply bD) | exact HB.out)) hb); have n1_ := A0m (hbox); have n2_ := A0m ((by rw [hg]; exact (below_size (by repeat (first | (with_reducible first | exact HB.out | apply bA | apply bN | apply bD) | exact HB.out))) : w.heap.size ≤ gb276)); have n3_ := A0m ((by rw [hg]; exact (below_size (by repeat (first | (with_reducible first | exact HB.out | apply bA | apply bN | apply bD) | exact HB.out))) : w.heap.size ≤ gb276)); clear HB; have HB := n0_; have BK276 := n1_; have GW276 := n2_; have GE276 := n3_; clear n0_ n1_ n2_ n3_; clear hb hbox hg; have hcz3_0 : w2.cell? ⟨gb276, 0, none⟩ = some (.int .i64 a0_0) := (kC BK276.out 0).trans rfl; have hcz3_1 : w2.cell? ⟨gb276, 1, none⟩ = some (.int .i64 a0_1) := (kC BK276.out 1).trans rfl; have hcz3_2 : w2.cell? ⟨gb276, 2, none⟩ = some (.int .i64 a0_2) := (kC BK276.out 2).trans rfl; have hcz3_3 : w2.cell? ⟨gb276, 3, none⟩ = some (.int .i64 a0_3) := (kC BK276.out 3).trans rfl; have hcz3_4 : w2.cell? ⟨gb276, 4, none⟩ = some (.int .i64 a0_4) := (kC BK276.out 4).trans rfl; have hcz3_5 : w2.cell? ⟨gb276, 5, none⟩ = some (.int .i64 a0_5) := (kC BK276.out 5).trans rfl; have hcz3_6 : w2.cell? ⟨gb276, 6, none⟩ = some (.string a0_6) := (kC BK276.out 6).trans rfl; have hcz3_7 : w2.cell? ⟨gb276, 7, none⟩ = some (.bool a0_7) := (kC BK276.out 7).trans rfl; have hcz3_8 : w2.cell? ⟨gb276, 8, none⟩ = some (.int .i64 a0_8) := (kC BK276.out 8).trans rfl; have hcz3_9 : w2.cell? ⟨gb276, 9, none⟩ = some (.int .i64 a0_9) := (kC BK276.out 9).trans rfl; have hcz3_10 : w2.cell? ⟨gb276, 10, none⟩ = some (.int .i64 a0_10) := (kC BK276.out 10).trans rfl; have hcz3_11 : w2.cell? ⟨gb276, 11, none⟩ = some (.string a0_11) := (kC BK276.out 11).trans rfl; have hcz3_12 : w2.cell? ⟨gb276, 12, none⟩ = some (.string a0_12) := (kC BK276.out 12).trans rfl; have hcz3_13 : w2.cell? ⟨gb276, 13, none⟩ = some (.int .i64 a0_13) := (kC BK276.out 13).trans rfl; have hcz3_14 : w2.cell? ⟨gb276, 14, none⟩ = some (.int .i64 a0_14) := (kC BK276.out 14).trans rfl; have hcz3_15 : w2.cell? ⟨gb276, 15, none⟩ = some (.int .i64 a0_15) := (kC BK276.out 15).trans rfl; have hcz3_16 : w2.cell? ⟨gb276, 16, none⟩ = some (.bool a0_16) := (kC BK276.out 16).trans rfl; have hfz3_0 := kF BK276.out 0; have hfz3_1 := kF BK276.out 1; have hfz3_2 := kF BK276.out 2; have hfz3_3 := kF BK276.out 3; have hfz3_4 := kF BK276.out 4; have hfz3_5 := kF BK276.out 5; have hfz3_6 := kF BK276.out 6; have hfz3_7 := kF BK276.out 7; have hfz3_8 := kF BK276.out 8; have hfz3_9 := kF BK276.out 9; have hfz3_10 := kF BK276.out 10; have hfz3_11 := kF BK276.out 11; have hfz3_12 := kF BK276.out 12; have hfz3_13 := kF BK276.out 13; have hfz3_14 := kF BK276.out 14; have hfz3_15 := kF BK276.out 15; have hfz3_16 := kF BK276.out 16))
 go_ret
 exact ⟨by first | rfl | (simp [errW_none, errW_some] <;> rfl) | (simp [*, errW_none, errW_some] <;> rfl), by repeat (first | (with_reducible first | exact HB.out | apply bA | apply bN | apply bD | refine bS ?_ GE276.out) | exact HB.out)⟩

/-! ### octroiref25_Tag: function 40 -/
def octroiref25_Tag.f (a0_0 : Int) (a0_1 : Int) (a0_2 : Int) (a0_3 : Int) (a0_4 : Int) (a0_5 : Int) (a0_6 : ByteArray) (a0_7 : Bool) (a0_8 : Int) (a0_9 : Int) (a0_10 : Int) (a0_11 : ByteArray) (a0_12 : ByteArray) (a0_13 : Int) (a0_14 : Int) (a0_15 : Int) (a0_16 : Bool) (a1 : ByteArray) : Option (Int × Bool) := if a1.toList = ([116, 114, 101, 97, 116] : List UInt8) then (some (a0_9, true)) else (if a1.toList = ([114, 97, 116, 101] : List UInt8) then (some (a0_10, true)) else (if a1.toList = ([115, 117, 112, 112, 108, 121] : List UInt8) then (some (a0_8, true)) else (if a1.toList = ([115, 97, 108, 101] : List UInt8) then ((octroiref25_one.f a0_7).bind fun t278 => (some (t278, true))) else (if a1.toList = ([108, 97, 116, 101] : List UInt8) then ((octroiref25_Late.f a0_0 a0_1 a0_2 a0_3 a0_4 a0_5 a0_6 a0_7 a0_8 a0_9 a0_10 a0_11 a0_12 a0_13 a0_14 a0_15 a0_16).bind fun t279 => ((octroiref25_one.f t279).bind fun t280 => (some (t280, true)))) else (if a1.toList = ([109, 105, 120, 101, 100] : List UInt8) then ((octroiref25_one.f a0_16).bind fun t281 => (some (t281, true))) else (some (0, false)))))))
set_option maxHeartbeats 8000000 in
set_option maxRecDepth 100000 in
theorem octroiref25_Tag.calls (a0_0 : Int) (a0_1 : Int) (a0_2 : Int) (a0_3 : Int) (a0_4 : Int) (a0_5 : Int) (a0_6 : ByteArray) (a0_7 : Bool) (a0_8 : Int) (a0_9 : Int) (a0_10 : Int) (a0_11 : ByteArray) (a0_12 : ByteArray) (a0_13 : Int) (a0_14 : Int) (a0_15 : Int) (a0_16 : Bool) (a1 : ByteArray) (r1 : Int) (r2 : Bool) (w : World) (h : octroiref25_Tag.f a0_0 a0_1 a0_2 a0_3 a0_4 a0_5 a0_6 a0_7 a0_8 a0_9 a0_10 a0_11 a0_12 a0_13 a0_14 a0_15 a0_16 a1 = some (r1, r2)) :
  Calls Tryz.prog 40 #[.agg #[.int .i64 a0_0, .int .i64 a0_1, .int .i64 a0_2, .int .i64 a0_3, .int .i64 a0_4, .int .i64 a0_5, .string a0_6, .bool a0_7, .int .i64 a0_8, .int .i64 a0_9, .int .i64 a0_10, .string a0_11, .string a0_12, .int .i64 a0_13, .int .i64 a0_14, .int .i64 a0_15, .bool a0_16], .string a1] w fun e w' => e = .returned (.tuple #[.int .i64 r1, .bool r2]) ∧ Below w.heap.size w w' := by
 have hu72 := Tryz.underlying72
 have HB := A0m (Below.refl w.heap.size w)
 have H : (if a1.toList = ([116, 114, 101, 97, 116] : List UInt8) then (some (a0_9, true)) else (if a1.toList = ([114, 97, 116, 101] : List UInt8) then (some (a0_10, true)) else (if a1.toList = ([115, 117, 112, 112, 108, 121] : List UInt8) then (some (a0_8, true)) else (if a1.toList = ([115, 97, 108, 101] : List UInt8) then ((octroiref25_one.f a0_7).bind fun t278 => (some (t278, true))) else (if a1.toList = ([108, 97, 116, 101] : List UInt8) then ((octroiref25_Late.f a0_0 a0_1 a0_2 a0_3 a0_4 a0_5 a0_6 a0_7 a0_8 a0_9 a0_10 a0_11 a0_12 a0_13 a0_14 a0_15 a0_16).bind fun t279 => ((octroiref25_one.f t279).bind fun t280 => (some (t280, true)))) else (if a1.toList = ([109, 105, 120, 101, 100] : List UInt8) then ((octroiref25_one.f a0_16).bind fun t281 => (some (t281, true))) else (some (0, false)))))))) = some (r1, r2) := h
 clear h
 by_cases c3 : a1.toList = ([116, 114, 101, 97, 116] : List UInt8)
 ·rw [if_pos c3] at H
  have c3b0 : (a1.toList == ([116, 114, 101, 97, 116] : List UInt8)) = true := beq_iff_eq.mpr c3
  have c3b1 : (a1.toList != ([116, 114, 101, 97, 116] : List UInt8)) = false := bne_eq_false_iff_eq.mpr c3
  clear c3
  simp only [Option.some.injEq, Prod.mk.injEq] at H
  obtain ⟨rfl, rfl⟩ := H
  go_enter Tryz.func40, Tryz.ntmps40
  go_wp2_with (first | ((with_reducible refine gate_dst (N := 2) rfl ?_); refine box_event ?hg (N := 2) ?hd (cs := #[.int .i64 a0_0, .int .i64 a0_1, .int .i64 a0_2, .int .i64 a0_3, .int .i64 a0_4, .int .i64 a0_5, .string a0_6, .bool a0_7, .int .i64 a0_8, .int .i64 a0_9, .int .i64 a0_10, .string a0_11, .string a0_12, .int .i64 a0_13, .int .i64 a0_14, .int .i64 a0_15, .bool a0_16]) (t := 72) ?hr ?_; (case hd => rfl); (case hg => rfl); (case hr => first | (go_simp; done) | (go_simp; rfl)); intro gb277 hg w4 hbox hb; have n0_ := A0m (below_step (by repeat (first | (with_reducible first | exact HB.out | apply bA | apply bN | apply bD) | exact HB.out)) hb); have n1_ := A0m (hbox); have n2_ := A0m ((by rw [hg]; exact (below_size (by repeat (first | (with_reducible first | exact HB.out | apply bA | apply bN | apply bD) | exact HB.out))) : w.heap.size ≤ gb277)); have n3_ := A0m ((by rw [hg]; exact (below_size (by repeat (first | (with_reducible first | exact HB.out | apply bA | apply bN | apply bD) | exact HB.out))) : w.heap.size ≤ gb277)); clear HB; have HB := n0_; have BK277 := n1_; have GW277 := n2_; have GE277 := n3_; clear n0_ n1_ n2_ n3_; clear hb hbox hg; have hcz5_0 : w4.cell? ⟨gb277, 0, none⟩ = some (.int .i64 a0_0) := (kC BK277.out 0).trans rfl; have hcz5_1 : w4.cell? ⟨gb277, 1, none⟩ = some (.int .i64 a0_1) := (kC BK277.out 1).trans rfl; have hcz5_2 : w4.cell? ⟨gb277, 2, none⟩ = some (.int .i64 a0_2) := (kC BK277.out 2).trans rfl; have hcz5_3 : w4.cell? ⟨gb277, 3, none⟩ = some (.int .i64 a0_3) := (kC BK277.out 3).trans rfl; have hcz5_4 : w4.cell? ⟨gb277, 4, none⟩ = some (.int .i64 a0_4) := (kC BK277.out 4).trans rfl; have hcz5_5 : w4.cell? ⟨gb277, 5, none⟩ = some (.int .i64 a0_5) := (kC BK277.out 5).trans rfl; have hcz5_6 : w4.cell? ⟨gb277, 6, none⟩ = some (.string a0_6) := (kC BK277.out 6).trans rfl; have hcz5_7 : w4.cell? ⟨gb277, 7, none⟩ = some (.bool a0_7) := (kC BK277.out 7).trans rfl; have hcz5_8 : w4.cell? ⟨gb277, 8, none⟩ = some (.int .i64 a0_8) := (kC BK277.out 8).trans rfl; have hcz5_9 : w4.cell? ⟨gb277, 9, none⟩ = some (.int .i64 a0_9) := (kC BK277.out 9).trans rfl; have hcz5_10 : w4.cell? ⟨gb277, 10, none⟩ = some (.int .i64 a0_10) := (kC BK277.out 10).trans rfl; have hcz5_11 : w4.cell? ⟨gb277, 11, none⟩ = some (.string a0_11) := (kC BK277.out 11).trans rfl; have hcz5_12 : w4.cell? ⟨gb277, 12, none⟩ = some (.string a0_12) := (kC BK277.out 12).trans rfl; have hcz5_13 : w4.cell? ⟨gb277, 13, none⟩ = some (.int .i64 a0_13) := (kC BK277.out 13).trans rfl; have hcz5_14 : w4.cell? ⟨gb277, 14, none⟩ = some (.int .i64 a0_14) := (kC BK277.out 14).trans rfl; have hcz5_15 : w4.cell? ⟨gb277, 15, none⟩ = some (.int .i64 a0_15) := (kC BK277.out 15).trans rfl; have hcz5_16 : w4.cell? ⟨gb277, 16, none⟩ = some (.bool a0_16) := (kC BK277.out 16).trans rfl; have hfz5_0 := kF BK277.out 0; have hfz5_1 := kF BK277.out 1; have hfz5_2 := kF BK277.out 2; have hfz5_3 := kF BK277.out 3; have hfz5_4 := kF BK277.out 4; have hfz5_5 := kF BK277.out 5; have hfz5_6 := kF BK277.out 6; have hfz5_7 := kF BK277.out 7; have hfz5_8 := kF BK277.out 8; have hfz5_9 := kF BK277.out 9; have hfz5_10 := kF BK277.out 10; have hfz5_11 := kF BK277.out 11; have hfz5_12 := kF BK277.out 12; have hfz5_13 := kF BK277.out 13; have hfz5_14 := kF BK277.out 14; have hfz5_15 := kF BK277.out 15; have hfz5_16 := kF BK277.out 16))
  go_ret2
  exact ⟨by first | rfl | (simp [errW_none, errW_some] <;> rfl) | (simp [*, errW_none, errW_some] <;> rfl), by repeat (first | (with_reducible first | exact HB.out | apply bA | apply bN | apply bD | refine bS ?_ GE277.out) | exact HB.out)⟩
 ·rw [if_neg c3] at H
  have c3b0 : (a1.toList == ([116, 114, 101, 97, 116] : List UInt8)) = false := beq_eq_false_iff_ne.mpr c3
  have c3b1 : (a1.toList != ([116, 114, 101, 97, 116] : List UInt8)) = true := bne_iff_ne.mpr c3
  by_cases c6 : a1.toList = ([114, 97, 116, 101] : List UInt8)
  ·rw [if_pos c6] at H
   have c6b0 : (a1.toList == ([114, 97, 116, 101] : List UInt8)) = true := beq_iff_eq.mpr c6
   have c6b1 : (a1.toList != ([114, 97, 116, 101] : List UInt8)) = false := bne_eq_false_iff_eq.mpr c6
   clear c6
   simp only [Option.some.injEq, Prod.mk.injEq] at H
   obtain ⟨rfl, rfl⟩ := H
   go_enter Tryz.func40, Tryz.ntmps40
   go_wp2_with (first | ((with_reducible refine gate_dst (N := 2) rfl ?_); refine box_event ?hg (N := 2) ?hd (cs := #[.int .i64 a0_0, .int .i64 a0_1, .int .i64 a0_2, .int .i64 a0_3, .int .i64 a0_4, .int .i64 a0_5, .string a0_6, .bool a0_7, .int .i64 a0_8, .int .i64 a0_9, .int .i64 a0_10, .string a0_11, .string a0_12, .int .i64 a0_13, .int .i64 a0_14, .int .i64 a0_15, .bool a0_16]) (t := 72) ?hr ?_; (case hd => rfl); (case hg => rfl); (case hr => first | (go_simp; done) | (go_simp; rfl)); intro gb277 hg w7 hbox hb; have n0_ := A0m (below_step (by repeat (first | (with_reducible first | exact HB.out | apply bA | apply bN | apply bD) | exact HB.out)) hb); have n1_ := A0m (hbox); have n2_ := A0m ((by rw [hg]; exact (below_size (by repeat (first | (with_reducible first | exact HB.out | apply bA | apply bN | apply bD) | exact HB.out))) : w.heap.size ≤ gb277)); have n3_ := A0m ((by rw [hg]; exact (below_size (by repeat (first | (with_reducible first | exact HB.out | apply bA | apply bN | apply bD) | exact HB.out))) : w.heap.size ≤ gb277)); clear HB; have HB := n0_; have BK277 := n1_; have GW277 := n2_; have GE277 := n3_; clear n0_ n1_ n2_ n3_; clear hb hbox hg; have hcz8_0 : w7.cell? ⟨gb277, 0, none⟩ = some (.int .i64 a0_0) := (kC BK277.out 0).trans rfl; have hcz8_1 : w7.cell? ⟨gb277, 1, none⟩ = some (.int .i64 a0_1) := (kC BK277.out 1).trans rfl; have hcz8_2 : w7.cell? ⟨gb277, 2, none⟩ = some (.int .i64 a0_2) := (kC BK277.out 2).trans rfl; have hcz8_3 : w7.cell? ⟨gb277, 3, none⟩ = some (.int .i64 a0_3) := (kC BK277.out 3).trans rfl; have hcz8_4 : w7.cell? ⟨gb277, 4, none⟩ = some (.int .i64 a0_4) := (kC BK277.out 4).trans rfl; have hcz8_5 : w7.cell? ⟨gb277, 5, none⟩ = some (.int .i64 a0_5) := (kC BK277.out 5).trans rfl; have hcz8_6 : w7.cell? ⟨gb277, 6, none⟩ = some (.string a0_6) := (kC BK277.out 6).trans rfl; have hcz8_7 : w7.cell? ⟨gb277, 7, none⟩ = some (.bool a0_7) := (kC BK277.out 7).trans rfl; have hcz8_8 : w7.cell? ⟨gb277, 8, none⟩ = some (.int .i64 a0_8) := (kC BK277.out 8).trans rfl; have hcz8_9 : w7.cell? ⟨gb277, 9, none⟩ = some (.int .i64 a0_9) := (kC BK277.out 9).trans rfl; have hcz8_10 : w7.cell? ⟨gb277, 10, none⟩ = some (.int .i64 a0_10) := (kC BK277.out 10).trans rfl; have hcz8_11 : w7.cell? ⟨gb277, 11, none⟩ = some (.string a0_11) := (kC BK277.out 11).trans rfl; have hcz8_12 : w7.cell? ⟨gb277, 12, none⟩ = some (.string a0_12) := (kC BK277.out 12).trans rfl; have hcz8_13 : w7.cell? ⟨gb277, 13, none⟩ = some (.int .i64 a0_13) := (kC BK277.out 13).trans rfl; have hcz8_14 : w7.cell? ⟨gb277, 14, none⟩ = some (.int .i64 a0_14) := (kC BK277.out 14).trans rfl; have hcz8_15 : w7.cell? ⟨gb277, 15, none⟩ = some (.int .i64 a0_15) := (kC BK277.out 15).trans rfl; have hcz8_16 : w7.cell? ⟨gb277, 16, none⟩ = some (.bool a0_16) := (kC BK277.out 16).trans rfl; have hfz8_0 := kF BK277.out 0; have hfz8_1 := kF BK277.out 1; have hfz8_2 := kF BK277.out 2; have hfz8_3 := kF BK277.out 3; have hfz8_4 := kF BK277.out 4; have hfz8_5 := kF BK277.out 5; have hfz8_6 := kF BK277.out 6; have hfz8_7 := kF BK277.out 7; have hfz8_8 := kF BK277.out 8; have hfz8_9 := kF BK277.out 9; have hfz8_10 := kF BK277.out 10; have hfz8_11 := kF BK277.out 11; have hfz8_12 := kF BK277.out 12; have hfz8_13 := kF BK277.out 13; have hfz8_14 := kF BK277.out 14; have hfz8_15 := kF BK277.out 15; have hfz8_16 := kF BK277.out 16))
   go_ret2
   exact ⟨by first | rfl | (simp [errW_none, errW_some] <;> rfl) | (simp [*, errW_none, errW_some] <;> rfl), by repeat (first | (with_reducible first | exact HB.out | apply bA | apply bN | apply bD | refine bS ?_ GE277.out) | exact HB.out)⟩
  ·rw [if_neg c6] at H
   have c6b0 : (a1.toList == ([114, 97, 116, 101] : List UInt8)) = false := beq_eq_false_iff_ne.mpr c6
   have c6b1 : (a1.toList != ([114, 97, 116, 101] : List UInt8)) = true := bne_iff_ne.mpr c6
   by_cases c9 : a1.toList = ([115, 117, 112, 112, 108, 121] : List UInt8)
   ·rw [if_pos c9] at H
    have c9b0 : (a1.toList == ([115, 117, 112, 112, 108, 121] : List UInt8)) = true := beq_iff_eq.mpr c9
    have c9b1 : (a1.toList != ([115, 117, 112, 112, 108, 121] : List UInt8)) = false := bne_eq_false_iff_eq.mpr c9
    clear c9
    simp only [Option.some.injEq, Prod.mk.injEq] at H
    obtain ⟨rfl, rfl⟩ := H
    go_enter Tryz.func40, Tryz.ntmps40
    go_wp2_with (first | ((with_reducible refine gate_dst (N := 2) rfl ?_); refine box_event ?hg (N := 2) ?hd (cs := #[.int .i64 a0_0, .int .i64 a0_1, .int .i64 a0_2, .int .i64 a0_3, .int .i64 a0_4, .int .i64 a0_5, .string a0_6, .bool a0_7, .int .i64 a0_8, .int .i64 a0_9, .int .i64 a0_10, .string a0_11, .string a0_12, .int .i64 a0_13, .int .i64 a0_14, .int .i64 a0_15, .bool a0_16]) (t := 72) ?hr ?_; (case hd => rfl); (case hg => rfl); (case hr => first | (go_simp; done) | (go_simp; rfl)); intro gb277 hg w10 hbox hb; have n0_ := A0m (below_step (by repeat (first | (with_reducible first | exact HB.out | apply bA | apply bN | apply bD) | exact HB.out)) hb); have n1_ := A0m (hbox); have n2_ := A0m ((by rw [hg]; exact (below_size (by repeat (first | (with_reducible first | exact HB.out | apply bA | apply bN | apply bD) | exact HB.out))) : w.heap.size ≤ gb277)); have n3_ := A0m ((by rw [hg]; exact (below_size (by repeat (first | (with_reducible first | exact HB.out | apply bA | apply bN | apply bD) | exact HB.out))) : w.heap.size ≤ gb277)); clear HB; have HB := n0_; have BK277 := n1_; have GW277 := n2_; have GE277 := n3_; clear n0_ n1_ n2_ n3_; clear hb hbox hg; have hcz11_0 : w10.cell? ⟨gb277, 0, none⟩ = some (.int .i64 a0_0) := (kC BK277.out 0).trans rfl; have hcz11_1 : w10.cell? ⟨gb277, 1, none⟩ = some (.int .i64 a0_1) := (kC BK277.out 1).trans rfl; have hcz11_2 : w10.cell? ⟨gb277, 2, none⟩ = some (.int .i64 a0_2) := (kC BK277.out 2).trans rfl; have hcz11_3 : w10.cell? ⟨gb277, 3, none⟩ = some (.int .i64 a0_3) := (kC BK277.out 3).trans rfl; have hcz11_4 : w10.cell? ⟨gb277, 4, none⟩ = some (.int .i64 a0_4) := (kC BK277.out 4).trans rfl; have hcz11_5 : w10.cell? ⟨gb277, 5, none⟩ = some (.int .i64 a0_5) := (kC BK277.out 5).trans rfl; have hcz11_6 : w10.cell? ⟨gb277, 6, none⟩ = some (.string a0_6) := (kC BK277.out 6).trans rfl; have hcz11_7 : w10.cell? ⟨gb277, 7, none⟩ = some (.bool a0_7) := (kC BK277.out 7).trans rfl; have hcz11_8 : w10.cell? ⟨gb277, 8, none⟩ = some (.int .i64 a0_8) := (kC BK277.out 8).trans rfl; have hcz11_9 : w10.cell? ⟨gb277, 9, none⟩ = some (.int .i64 a0_9) := (kC BK277.out 9).trans rfl; have hcz11_10 : w10.cell? ⟨gb277, 10, none⟩ = some (.int .i64 a0_10) := (kC BK277.out 10).trans rfl; have hcz11_11 : w10.cell? ⟨gb277, 11, none⟩ = some (.string a0_11) := (kC BK277.out 11).trans rfl; have hcz11_12 : w10.cell? ⟨gb277, 12, none⟩ = some (.string a0_12) := (kC BK277.out 12).trans rfl; have hcz11_13 : w10.cell? ⟨gb277, 13, none⟩ = some (.int .i64 a0_13) := (kC BK277.out 13).trans rfl; have hcz11_14 : w10.cell? ⟨gb277, 14, none⟩ = some (.int .i64 a0_14) := (kC BK277.out 14).trans rfl; have hcz11_15 : w10.cell? ⟨gb277, 15, none⟩ = some (.int .i64 a0_15) := (kC BK277.out 15).trans rfl; have hcz11_16 : w10.cell? ⟨gb277, 16, none⟩ = some (.bool a0_16) := (kC BK277.out 16).trans rfl; have hfz11_0 := kF BK277.out 0; have hfz11_1 := kF BK277.out 1; have hfz11_2 := kF BK277.out 2; have hfz11_3 := kF BK277.out 3; have hfz11_4 := kF BK277.out 4; have hfz11_5 := kF BK277.out 5; have hfz11_6 := kF BK277.out 6; have hfz11_7 := kF BK277.out 7; have hfz11_8 := kF BK277.out 8; have hfz11_9 := kF BK277.out 9; have hfz11_10 := kF BK277.out 10; have hfz11_11 := kF BK277.out 11; have hfz11_12 := kF BK277.out 12; have hfz11_13 := kF BK277.out 13; have hfz11_14 := kF BK277.out 14; have hfz11_15 := kF BK277.out 15; have hfz11_16 := kF BK277.out 16))
    go_ret2
    exact ⟨by first | rfl | (simp [errW_none, errW_some] <;> rfl) | (simp [*, errW_none, errW_some] <;> rfl), by repeat (first | (with_reducible first | exact HB.out | apply bA | apply bN | apply bD | refine bS ?_ GE277.out) | exact HB.out)⟩
   ·rw [if_neg c9] at H
    have c9b0 : (a1.toList == ([115, 117, 112, 112, 108, 121] : List UInt8)) = false := beq_eq_false_iff_ne.mpr c9
    have c9b1 : (a1.toList != ([115, 117, 112, 112, 108, 121] : List UInt8)) = true := bne_iff_ne.mpr c9
    by_cases c12 : a1.toList = ([115, 97, 108, 101] : List UInt8)
    ·rw [if_pos c12] at H
     have c12b0 : (a1.toList == ([115, 97, 108, 101] : List UInt8)) = true := beq_iff_eq.mpr c12
     have c12b1 : (a1.toList != ([115, 97, 108, 101] : List UInt8)) = false := bne_eq_false_iff_eq.mpr c12
     clear c12
     replace H := Option.bind_eq_some_iff.mp H
     obtain ⟨t278, A130, H⟩ := H
     replace H : (some (t278, true)) = some (r1, r2) := H
     have A13 := A0m A130
     clear A130
     simp only [Option.some.injEq, Prod.mk.injEq] at H
     obtain ⟨rfl, rfl⟩ := H
     go_enter Tryz.func40, Tryz.ntmps40
     go_wp2_with (first | ((with_reducible refine gate_dst (N := 2) rfl ?_); refine box_event ?hg (N := 2) ?hd (cs := #[.int .i64 a0_0, .int .i64 a0_1, .int .i64 a0_2, .int .i64 a0_3, .int .i64 a0_4, .int .i64 a0_5, .string a0_6, .bool a0_7, .int .i64 a0_8, .int .i64 a0_9, .int .i64 a0_10, .string a0_11, .string a0_12, .int .i64 a0_13, .int .i64 a0_14, .int .i64 a0_15, .bool a0_16]) (t := 72) ?hr ?_; (case hd => rfl); (case hg => rfl); (case hr => first | (go_simp; done) | (go_simp; rfl)); intro gb277 hg w14 hbox hb; have n0_ := A0m (below_step (by repeat (first | (with_reducible first | exact HB.out | apply bA | apply bN | apply bD) | exact HB.out)) hb); have n1_ := A0m (hbox); have n2_ := A0m ((by rw [hg]; exact (below_size (by repeat (first | (with_reducible first | exact HB.out | apply bA | apply bN | apply bD) | exact HB.out))) : w.heap.size ≤ gb277)); have n3_ := A0m ((by rw [hg]; exact (below_size (by repeat (first | (with_reducible first | exact HB.out | apply bA | apply bN | apply bD) | exact HB.out))) : w.heap.size ≤ gb277)); clear HB; have HB := n0_; have BK277 := n1_; have GW277 := n2_; have GE277 := n3_; clear n0_ n1_ n2_ n3_; clear hb hbox hg; have hcz15_0 : w14.cell? ⟨gb277, 0, none⟩ = some (.int .i64 a0_0) := (kC BK277.out 0).trans rfl; have hcz15_1 : w14.cell? ⟨gb277, 1, none⟩ = some (.int .i64 a0_1) := (kC BK277.out 1).trans rfl; have hcz15_2 : w14.cell? ⟨gb277, 2, none⟩ = some (.int .i64 a0_2) := (kC BK277.out 2).trans rfl; have hcz15_3 : w14.cell? ⟨gb277, 3, none⟩ = some (.int .i64 a0_3) := (kC BK277.out 3).trans rfl; have hcz15_4 : w14.cell? ⟨gb277, 4, none⟩ = some (.int .i64 a0_4) := (kC BK277.out 4).trans rfl; have hcz15_5 : w14.cell? ⟨gb277, 5, none⟩ = some (.int .i64 a0_5) := (kC BK277.out 5).trans rfl; have hcz15_6 : w14.cell? ⟨gb277, 6, none⟩ = some (.string a0_6) := (kC BK277.out 6).trans rfl; have hcz15_7 : w14.cell? ⟨gb277, 7, none⟩ = some (.bool a0_7) := (kC BK277.out 7).trans rfl; have hcz15_8 : w14.cell? ⟨gb277, 8, none⟩ = some (.int .i64 a0_8) := (kC BK277.out 8).trans rfl; have hcz15_9 : w14.cell? ⟨gb277, 9, none⟩ = some (.int .i64 a0_9) := (kC BK277.out 9).trans rfl; have hcz15_10 : w14.cell? ⟨gb277, 10, none⟩ = some (.int .i64 a0_10) := (kC BK277.out 10).trans rfl; have hcz15_11 : w14.cell? ⟨gb277, 11, none⟩ = some (.string a0_11) := (kC BK277.out 11).trans rfl; have hcz15_12 : w14.cell? ⟨gb277, 12, none⟩ = some (.string a0_12) := (kC BK277.out 12).trans rfl; have hcz15_13 : w14.cell? ⟨gb277, 13, none⟩ = some (.int .i64 a0_13) := (kC BK277.out 13).trans rfl; have hcz15_14 : w14.cell? ⟨gb277, 14, none⟩ = some (.int .i64 a0_14) := (kC BK277.out 14).trans rfl; have hcz15_15 : w14.cell? ⟨gb277, 15, none⟩ = some (.int .i64 a0_15) := (kC BK277.out 15).trans rfl; have hcz15_16 : w14.cell? ⟨gb277, 16, none⟩ = some (.bool a0_16) := (kC BK277.out 16).trans rfl; have hfz15_0 := kF BK277.out 0; have hfz15_1 := kF BK277.out 1; have hfz15_2 := kF BK277.out 2; have hfz15_3 := kF BK277.out 3; have hfz15_4 := kF BK277.out 4; have hfz15_5 := kF BK277.out 5; have hfz15_6 := kF BK277.out 6; have hfz15_7 := kF BK277.out 7; have hfz15_8 := kF BK277.out 8; have hfz15_9 := kF BK277.out 9; have hfz15_10 := kF BK277.out 10; have hfz15_11 := kF BK277.out 11; have hfz15_12 := kF BK277.out 12; have hfz15_13 := kF BK277.out 13; have hfz15_14 := kF BK277.out 14; have hfz15_15 := kF BK277.out 15; have hfz15_16 := kF BK277.out 16) | ((with_reducible refine gate_callee (f := 63) rfl ?_); refine goesL_ (some 23) rfl rfl Tryz.func63 (by kernel_rfl) rfl #[.bool a0_7] rfl (by (try simp only [List.map_toArray, List.map_cons, List.map_nil]); first | done | rfl | (simp only [List.length_drop, List.length_take]; rfl)) ?_; (with_reducible refine (octroiref25_one.calls a0_7 t278 _ A13.out).mono ?_); rintro e w' ⟨rfl, ⟨nd, rfl⟩⟩; refine ⟨_, rfl, ?_⟩))
     go_ret2
     exact ⟨by first | rfl | (simp [errW_none, errW_some] <;> rfl) | (simp [*, errW_none, errW_some] <;> rfl), by repeat (first | (with_reducible first | exact HB.out | apply bA | apply bN | apply bD | refine bS ?_ GE277.out) | exact HB.out)⟩
    ·rw [if_neg c12] at H
     have c12b0 : (a1.toList == ([115, 97, 108, 101] : List UInt8)) = false := beq_eq_false_iff_ne.mpr c12
     have c12b1 : (a1.toList != ([115, 97, 108, 101] : List UInt8)) = true := bne_iff_ne.mpr c12
     by_cases c16 : a1.toList = ([108, 97, 116, 101] : List UInt8)
     ·rw [if_pos c16] at H
      have c16b0 : (a1.toList == ([108, 97, 116, 101] : List UInt8)) = true := beq_iff_eq.mpr c16
      have c16b1 : (a1.toList != ([108, 97, 116, 101] : List UInt8)) = false := bne_eq_false_iff_eq.mpr c16
      clear c16
      replace H := Option.bind_eq_some_iff.mp H
      obtain ⟨t279, A170, H⟩ := H
      replace H : ((octroiref25_one.f t279).bind fun t280 => (some (t280, true))) = some (r1, r2) := H
      have A17 := A0m A170
      clear A170
      replace H := Option.bind_eq_some_iff.mp H
      obtain ⟨t280, A180, H⟩ := H
      replace H : (some (t280, true)) = some (r1, r2) := H
      have A18 := A0m A180
      clear A180
      simp only [Option.some.injEq, Prod.mk.injEq] at H
      obtain ⟨rfl, rfl⟩ := H
      go_enter Tryz.func40, Tryz.ntmps40
      go_wp2_with (first | ((with_reducible refine gate_dst (N := 2) rfl ?_); refine box_event ?hg (N := 2) ?hd (cs := #[.int .i64 a0_0, .int .i64 a0_1, .int .i64 a0_2, .int .i64 a0_3, .int .i64 a0_4, .int .i64 a0_5, .string a0_6, .bool a0_7, .int .i64 a0_8, .int .i64 a0_9, .int .i64 a0_10, .string a0_11, .string a0_12, .int .i64 a0_13, .int .i64 a0_14, .int .i64 a0_15, .bool a0_16]) (t := 72) ?hr ?_; (case hd => rfl); (case hg => rfl); (case hr => first | (go_simp; done) | (go_simp; rfl)); intro gb277 hg w19 hbox hb; have n0_ := A0m (below_step (by repeat (first | (with_reducible first | exact HB.out | apply bA | apply bN | apply bD) | exact HB.out)) hb); have n1_ := A0m (hbox); have n2_ := A0m ((by rw [hg]; exact (below_size (by repeat (first | (with_reducible first | exact HB.out | apply bA | apply bN | apply bD) | exact HB.out))) : w.heap.size ≤ gb277)); have n3_ := A0m ((by rw [hg]; exact (below_size (by repeat (first | (with_reducible first | exact HB.out | apply bA | apply bN | apply bD) | exact HB.out))) : w.heap.size ≤ gb277)); clear HB; have HB := n0_; have BK277 := n1_; have GW277 := n2_; have GE277 := n3_; clear n0_ n1_ n2_ n3_; clear hb hbox hg; have hcz20_0 : w19.cell? ⟨gb277, 0, none⟩ = some (.int .i64 a0_0) := (kC BK277.out 0).trans rfl; have hcz20_1 : w19.cell? ⟨gb277, 1, none⟩ = some (.int .i64 a0_1) := (kC BK277.out 1).trans rfl; have hcz20_2 : w19.cell? ⟨gb277, 2, none⟩ = some (.int .i64 a0_2) := (kC BK277.out 2).trans rfl; have hcz20_3 : w19.cell? ⟨gb277, 3, none⟩ = some (.int .i64 a0_3) := (kC BK277.out 3).trans rfl; have hcz20_4 : w19.cell? ⟨gb277, 4, none⟩ = some (.int .i64 a0_4) := (kC BK277.out 4).trans rfl; have hcz20_5 : w19.cell? ⟨gb277, 5, none⟩ = some (.int .i64 a0_5) := (kC BK277.out 5).trans rfl; have hcz20_6 : w19.cell? ⟨gb277, 6, none⟩ = some (.string a0_6) := (kC BK277.out 6).trans rfl; have hcz20_7 : w19.cell? ⟨gb277, 7, none⟩ = some (.bool a0_7) := (kC BK277.out 7).trans rfl; have hcz20_8 : w19.cell? ⟨gb277, 8, none⟩ = some (.int .i64 a0_8) := (kC BK277.out 8).trans rfl; have hcz20_9 : w19.cell? ⟨gb277, 9, none⟩ = some (.int .i64 a0_9) := (kC BK277.out 9).trans rfl; have hcz20_10 : w19.cell? ⟨gb277, 10, none⟩ = some (.int .i64 a0_10) := (kC BK277.out 10).trans rfl; have hcz20_11 : w19.cell? ⟨gb277, 11, none⟩ = some (.string a0_11) := (kC BK277.out 11).trans rfl; have hcz20_12 : w19.cell? ⟨gb277, 12, none⟩ = some (.string a0_12) := (kC BK277.out 12).trans rfl; have hcz20_13 : w19.cell? ⟨gb277, 13, none⟩ = some (.int .i64 a0_13) := (kC BK277.out 13).trans rfl; have hcz20_14 : w19.cell? ⟨gb277, 14, none⟩ = some (.int .i64 a0_14) := (kC BK277.out 14).trans rfl; have hcz20_15 : w19.cell? ⟨gb277, 15, none⟩ = some (.int .i64 a0_15) := (kC BK277.out 15).trans rfl; have hcz20_16 : w19.cell? ⟨gb277, 16, none⟩ = some (.bool a0_16) := (kC BK277.out 16).trans rfl; have hfz20_0 := kF BK277.out 0; have hfz20_1 := kF BK277.out 1; have hfz20_2 := kF BK277.out 2; have hfz20_3 := kF BK277.out 3; have hfz20_4 := kF BK277.out 4; have hfz20_5 := kF BK277.out 5; have hfz20_6 := kF BK277.out 6; have hfz20_7 := kF BK277.out 7; have hfz20_8 := kF BK277.out 8; have hfz20_9 := kF BK277.out 9; have hfz20_10 := kF BK277.out 10; have hfz20_11 := kF BK277.out 11; have hfz20_12 := kF BK277.out 12; have hfz20_13 := kF BK277.out 13; have hfz20_14 := kF BK277.out 14; have hfz20_15 := kF BK277.out 15; have hfz20_16 := kF BK277.out 16) | ((with_reducible refine gate_callee (f := 64) rfl ?_); refine goesL_ (some 27) rfl rfl Tryz.func64 (by kernel_rfl) rfl #[.agg #[.int .i64 a0_0, .int .i64 a0_1, .int .i64 a0_2, .int .i64 a0_3, .int .i64 a0_4, .int .i64 a0_5, .string a0_6, .bool a0_7, .int .i64 a0_8, .int .i64 a0_9, .int .i64 a0_10, .string a0_11, .string a0_12, .int .i64 a0_13, .int .i64 a0_14, .int .i64 a0_15, .bool a0_16]] rfl (by (try simp only [List.map_toArray, List.map_cons, List.map_nil]); first | done | rfl | (simp only [List.length_drop, List.length_take]; rfl)) ?_; (with_reducible refine (octroiref25_Late.calls a0_0 a0_1 a0_2 a0_3 a0_4 a0_5 a0_6 a0_7 a0_8 a0_9 a0_10 a0_11 a0_12 a0_13 a0_14 a0_15 a0_16 t279 _ A17.out).mono ?_); rintro e w21 ⟨rfl, hb⟩; refine ⟨_, rfl, ?_⟩; have n0_ := A0m (blk_below (g := gb277) (o := .cells #[.int .i64 a0_0, .int .i64 a0_1, .int .i64 a0_2, .int .i64 a0_3, .int .i64 a0_4, .int .i64 a0_5, .string a0_6, .bool a0_7, .int .i64 a0_8, .int .i64 a0_9, .int .i64 a0_10, .string a0_11, .string a0_12, .int .i64 a0_13, .int .i64 a0_14, .int .i64 a0_15, .bool a0_16] 72 (0, 0)) (by (with_reducible repeat (first | refine kN ?_ _ | refine kD ?_ | refine kA ?_ _)); exact BK277.out) hb); have n1_ := A0m (below_step (by repeat (first | (with_reducible first | exact HB.out | apply bA | apply bN | apply bD | refine bS ?_ GE277.out) | exact HB.out)) hb); clear BK277; clear HB; have BK277 := n0_; have HB := n1_; clear n0_ n1_; (try clear hb); (try clear hb2); (try clear hk); (try clear hi)) | ((with_reducible refine gate_callee (f := 63) rfl ?_); refine goesL_ (some 28) rfl rfl Tryz.func63 (by kernel_rfl) rfl #[.bool t279] rfl (by (try simp only [List.map_toArray, List.map_cons, List.map_nil]); first | done | rfl | (simp only [List.length_drop, List.length_take]; rfl)) ?_; (with_reducible refine (octroiref25_one.calls t279 t280 _ A18.out).mono ?_); rintro e w' ⟨rfl, ⟨nd, rfl⟩⟩; refine ⟨_, rfl, ?_⟩))
      go_ret2
      exact ⟨by first | rfl | (simp [errW_none, errW_some] <;> rfl) | (simp [*, errW_none, errW_some] <;> rfl), by repeat (first | (with_reducible first | exact HB.out | apply bA | apply bN | apply bD | refine bS ?_ GE277.out) | exact HB.out)⟩
     ·rw [if_neg c16] at H
      have c16b0 : (a1.toList == ([108, 97, 116, 101] : List UInt8)) = false := beq_eq_false_iff_ne.mpr c16
      have c16b1 : (a1.toList != ([108, 97, 116, 101] : List UInt8)) = true := bne_iff_ne.mpr c16
      by_cases c22 : a1.toList = ([109, 105, 120, 101, 100] : List UInt8)
      ·rw [if_pos c22] at H
       have c22b0 : (a1.toList == ([109, 105, 120, 101, 100] : List UInt8)) = true := beq_iff_eq.mpr c22
       have c22b1 : (a1.toList != ([109, 105, 120, 101, 100] : List UInt8)) = false := bne_eq_false_iff_eq.mpr c22
       clear c22
       replace H := Option.bind_eq_some_iff.mp H
       obtain ⟨t281, A230, H⟩ := H
       replace H : (some (t281, true)) = some (r1, r2) := H
       have A23 := A0m A230
       clear A230
       simp only [Option.some.injEq, Prod.mk.injEq] at H
       obtain ⟨rfl, rfl⟩ := H
       go_enter Tryz.func40, Tryz.ntmps40
       go_wp2_with (first | ((with_reducible refine gate_dst (N := 2) rfl ?_); refine box_event ?hg (N := 2) ?hd (cs := #[.int .i64 a0_0, .int .i64 a0_1, .int .i64 a0_2, .int .i64 a0_3, .int .i64 a0_4, .int .i64 a0_5, .string a0_6, .bool a0_7, .int .i64 a0_8, .int .i64 a0_9, .int .i64 a0_10, .string a0_11, .string a0_12, .int .i64 a0_13, .int .i64 a0_14, .int .i64 a0_15, .bool a0_16]) (t := 72) ?hr ?_; (case hd => rfl); (case hg => rfl); (case hr => first | (go_simp; done) | (go_simp; rfl)); intro gb277 hg w24 hbox hb; have n0_ := A0m (below_step (by repeat (first | (with_reducible first | exact HB.out | apply bA | apply bN | apply bD) | exact HB.out)) hb); have n1_ := A0m (hbox); have n2_ := A0m ((by rw [hg]; exact (below_size (by repeat (first | (with_reducible first | exact HB.out | apply bA | apply bN | apply bD) | exact HB.out))) : w.heap.size ≤ gb277)); have n3_ := A0m ((by rw [hg]; exact (below_size (by repeat (first | (with_reducible first | exact HB.out | apply bA | apply bN | apply bD) | exact HB.out))) : w.heap.size ≤ gb277)); clear HB; have HB := n0_; have BK277 := n1_; have GW277 := n2_; have GE277 := n3_; clear n0_ n1_ n2_ n3_; clear hb hbox hg; have hcz25_0 : w24.cell? ⟨gb277, 0, none⟩ = some (.int .i64 a0_0) := (kC BK277.out 0).trans rfl; have hcz25_1 : w24.cell? ⟨gb277, 1, none⟩ = some (.int .i64 a0_1) := (kC BK277.out 1).trans rfl; have hcz25_2 : w24.cell? ⟨gb277, 2, none⟩ = some (.int .i64 a0_2) := (kC BK277.out 2).trans rfl; have hcz25_3 : w24.cell? ⟨gb277, 3, none⟩ = some (.int .i64 a0_3) := (kC BK277.out 3).trans rfl; have hcz25_4 : w24.cell? ⟨gb277, 4, none⟩ = some (.int .i64 a0_4) := (kC BK277.out 4).trans rfl; have hcz25_5 : w24.cell? ⟨gb277, 5, none⟩ = some (.int .i64 a0_5) := (kC BK277.out 5).trans rfl; have hcz25_6 : w24.cell? ⟨gb277, 6, none⟩ = some (.string a0_6) := (kC BK277.out 6).trans rfl; have hcz25_7 : w24.cell? ⟨gb277, 7, none⟩ = some (.bool a0_7) := (kC BK277.out 7).trans rfl; have hcz25_8 : w24.cell? ⟨gb277, 8, none⟩ = some (.int .i64 a0_8) := (kC BK277.out 8).trans rfl; have hcz25_9 : w24.cell? ⟨gb277, 9, none⟩ = some (.int .i64 a0_9) := (kC BK277.out 9).trans rfl; have hcz25_10 : w24.cell? ⟨gb277, 10, none⟩ = some (.int .i64 a0_10) := (kC BK277.out 10).trans rfl; have hcz25_11 : w24.cell? ⟨gb277, 11, none⟩ = some (.string a0_11) := (kC BK277.out 11).trans rfl; have hcz25_12 : w24.cell? ⟨gb277, 12, none⟩ = some (.string a0_12) := (kC BK277.out 12).trans rfl; have hcz25_13 : w24.cell? ⟨gb277, 13, none⟩ = some (.int .i64 a0_13) := (kC BK277.out 13).trans rfl; have hcz25_14 : w24.cell? ⟨gb277, 14, none⟩ = some (.int .i64 a0_14) := (kC BK277.out 14).trans rfl; have hcz25_15 : w24.cell? ⟨gb277, 15, none⟩ = some (.int .i64 a0_15) := (kC BK277.out 15).trans rfl; have hcz25_16 : w24.cell? ⟨gb277, 16, none⟩ = some (.bool a0_16) := (kC BK277.out 16).trans rfl; have hfz25_0 := kF BK277.out 0; have hfz25_1 := kF BK277.out 1; have hfz25_2 := kF BK277.out 2; have hfz25_3 := kF BK277.out 3; have hfz25_4 := kF BK277.out 4; have hfz25_5 := kF BK277.out 5; have hfz25_6 := kF BK277.out 6; have hfz25_7 := kF BK277.out 7; have hfz25_8 := kF BK277.out 8; have hfz25_9 := kF BK277.out 9; have hfz25_10 := kF BK277.out 10; have hfz25_11 := kF BK277.out 11; have hfz25_12 := kF BK277.out 12; have hfz25_13 := kF BK277.out 13; have hfz25_14 := kF BK277.out 14; have hfz25_15 := kF BK277.out 15; have hfz25_16 := kF BK277.out 16) | ((with_reducible refine gate_callee (f := 63) rfl ?_); refine goesL_ (some 33) rfl rfl Tryz.func63 (by kernel_rfl) rfl #[.bool a0_16] rfl (by (try simp only [List.map_toArray, List.map_cons, List.map_nil]); first | done | rfl | (simp only [List.length_drop, List.length_take]; rfl)) ?_; (with_reducible refine (octroiref25_one.calls a0_16 t281 _ A23.out).mono ?_); rintro e w' ⟨rfl, ⟨nd, rfl⟩⟩; refine ⟨_, rfl, ?_⟩))
       go_ret2
       exact ⟨by first | rfl | (simp [errW_none, errW_some] <;> rfl) | (simp [*, errW_none, errW_some] <;> rfl), by repeat (first | (with_reducible first | exact HB.out | apply bA | apply bN | apply bD | refine bS ?_ GE277.out) | exact HB.out)⟩
      ·rw [if_neg c22] at H
       have c22b0 : (a1.toList == ([109, 105, 120, 101, 100] : List UInt8)) = false := beq_eq_false_iff_ne.mpr c22
       have c22b1 : (a1.toList != ([109, 105, 120, 101, 100] : List UInt8)) = true := bne_iff_ne.mpr c22
       simp only [Option.some.injEq, Prod.mk.injEq] at H
       obtain ⟨rfl, rfl⟩ := H
       go_enter Tryz.func40, Tryz.ntmps40
       go_wp2_with (first | ((with_reducible refine gate_dst (N := 2) rfl ?_); refine box_event ?hg (N := 2) ?hd (cs := #[.int .i64 a0_0, .int .i64 a0_1, .int .i64 a0_2, .int .i64 a0_3, .int .i64 a0_4, .int .i64 a0_5, .string a0_6, .bool a0_7, .int .i64 a0_8, .int .i64 a0_9, .int .i64 a0_10, .string a0_11, .string a0_12, .int .i64 a0_13, .int .i64 a0_14, .int .i64 a0_15, .bool a0_16]) (t := 72) ?hr ?_; (case hd => rfl); (case hg => rfl); (case hr => first | (go_simp; done) | (go_simp; rfl)); intro gb277 hg w26 hbox hb; have n0_ := A0m (below_step (by repeat (first | (with_reducible first | exact HB.out | apply bA | apply bN | apply bD) | exact HB.out)) hb); have n1_ := A0m (hbox); have n2_ := A0m ((by rw [hg]; exact (below_size (by repeat (first | (with_reducible first | exact HB.out | apply bA | apply bN | apply bD) | exact HB.out))) : w.heap.size ≤ gb277)); have n3_ := A0m ((by rw [hg]; exact (below_size (by repeat (first | (with_reducible first | exact HB.out | apply bA | apply bN | apply bD) | exact HB.out))) : w.heap.size ≤ gb277)); clear HB; have HB := n0_; have BK277 := n1_; have GW277 := n2_; have GE277 := n3_; clear n0_ n1_ n2_ n3_; clear hb hbox hg))
       go_ret2
       exact ⟨by first | rfl | (simp [errW_none, errW_some] <;> rfl) | (simp [*, errW_none, errW_some] <;> rfl), by repeat (first | (with_reducible first | exact HB.out | apply bA | apply bN | apply bD | refine bS ?_ GE277.out) | exact HB.out)⟩

/-! ### octroiref33_Names: function 10 -/
mutual
def octroiref33_Names.l0 : Nat → Bool → Int → Int → Int → ByteArray → List (S62) → List (S33) → Option (Bool)
 | 0, _, _, _, _, _, _, _ => none
 | k + 1, x4, x5, x283000, x283001, x283002, x283003, x283004 => if x5 < (x283003.length : Int) then (if 0 ≤ x5 then ((octroiref25_Tag.f 0 0 0 0 0 0 (⟨#[]⟩ : ByteArray) false 0 0 0 (⟨#[]⟩ : ByteArray) (⟨#[]⟩ : ByteArray) 0 0 0 false ((rd_T62 x283003 x5).f0)).bind fun bt286 => (if x4 = true then (octroiref33_Names.l0 k bt286.2 (wrap64 (x5 + 1)) x283000 x283001 x283002 x283003 x283004) else (octroiref33_Names.l0 k false (wrap64 (x5 + 1)) x283000 x283001 x283002 x283003 x283004))) else (none)) else (some x4)
def octroiref33_Names.l1 : Nat → Int → Int → Int → ByteArray → List (S62) → List (S33) → Option (Bool)
 | 0, _, _, _, _, _, _ => none
 | k + 1, x8, x283000, x283001, x283002, x283003, x283004 => if x8 < (x283004.length : Int) then (if 0 ≤ x8 then ((octroiref33_Names.f k ((rd_T33 x283004 x8).f0) ((rd_T33 x283004 x8).f1) ((rd_T33 x283004 x8).f2) ((rd_T33 x283004 x8).f3) ((rd_T33 x283004 x8).f4)).bind fun t289 => (if t289 = true then (octroiref33_Names.l1 k (wrap64 (x8 + 1)) x283000 x283001 x283002 x283003 x283004) else (some false))) else (none)) else (some true)
def octroiref33_Names.f : Nat → Int → Int → ByteArray → List (S62) → List (S33) → Option (Bool)
 | 0, _, _, _, _, _ => none
 | k + 1, a0_0, a0_1, a0_2, l0_3, l0_4 => if a0_0 = 3 then ((octroiref25_Field.f 0 0 0 0 0 0 (⟨#[]⟩ : ByteArray) false 0 0 0 (⟨#[]⟩ : ByteArray) (⟨#[]⟩ : ByteArray) 0 0 0 false a0_2).bind fun bt283 => (octroiref33_Names.l0 k bt283.2 0 a0_0 a0_1 a0_2 l0_3 l0_4)) else (octroiref33_Names.l1 k 0 a0_0 a0_1 a0_2 l0_3 l0_4)
end
theorem octroiref33_Names.mono_l : ∀ k, (∀ y0 y1 y2 y3 y4, LeO (octroiref33_Names.f k y0 y1 y2 y3 y4) (octroiref33_Names.f (k + 1) y0 y1 y2 y3 y4)) ∧ (∀ y0 y1 y2 y3 y4 y5 y6, LeO (octroiref33_Names.l0 k y0 y1 y2 y3 y4 y5 y6) (octroiref33_Names.l0 (k + 1) y0 y1 y2 y3 y4 y5 y6)) ∧ (∀ y0 y1 y2 y3 y4 y5, LeO (octroiref33_Names.l1 k y0 y1 y2 y3 y4 y5) (octroiref33_Names.l1 (k + 1) y0 y1 y2 y3 y4 y5))
 | 0 => ⟨fun _ _ _ _ _ r h => by simp [octroiref33_Names.f] at h, fun _ _ _ _ _ _ _ r h => by simp [octroiref33_Names.l0] at h, fun _ _ _ _ _ _ r h => by simp [octroiref33_Names.l1] at h⟩
 | k + 1 => by
  obtain ⟨ih0, ih1, ih2⟩ := octroiref33_Names.mono_l k
  refine ⟨?_, ?_, ?_⟩
  ·intro y0 y1 y2 y3 y4
   unfold octroiref33_Names.f
   repeat' first
   | (with_reducible exact ih0 _ _ _ _ _)
   | (with_reducible exact ih1 _ _ _ _ _ _ _)
   | (with_reducible exact ih2 _ _ _ _ _ _)
   | (with_reducible exact LeO.refl _)
   | (with_reducible exact LeO.none _)
   | (with_reducible refine LeO.ite ?_ ?_)
   | (with_reducible refine LeO.bind ?_ (fun _ => ?_))
   | exact ih0 _ _ _ _ _
   | exact ih1 _ _ _ _ _ _ _
   | exact ih2 _ _ _ _ _ _
   | exact LeO.none _
   | refine LeO.ite ?_ ?_
   | refine LeO.bind ?_ (fun _ => ?_)
  ·intro y0 y1 y2 y3 y4 y5 y6
   unfold octroiref33_Names.l0
   repeat' first
   | (with_reducible exact ih0 _ _ _ _ _)
   | (with_reducible exact ih1 _ _ _ _ _ _ _)
   | (with_reducible exact ih2 _ _ _ _ _ _)
   | (with_reducible exact LeO.refl _)
   | (with_reducible exact LeO.none _)
   | (with_reducible refine LeO.ite ?_ ?_)
   | (with_reducible refine LeO.bind ?_ (fun _ => ?_))
   | exact ih0 _ _ _ _ _
   | exact ih1 _ _ _ _ _ _ _
   | exact ih2 _ _ _ _ _ _
   | exact LeO.none _
   | refine LeO.ite ?_ ?_
   | refine LeO.bind ?_ (fun _ => ?_)
  ·intro y0 y1 y2 y3 y4 y5
   unfold octroiref33_Names.l1
   repeat' first
   | (with_reducible exact ih0 _ _ _ _ _)
   | (with_reducible exact ih1 _ _ _ _ _ _ _)
   | (with_reducible exact ih2 _ _ _ _ _ _)
   | (with_reducible exact LeO.refl _)
   | (with_reducible exact LeO.none _)
   | (with_reducible refine LeO.ite ?_ ?_)
   | (with_reducible refine LeO.bind ?_ (fun _ => ?_))
   | exact ih0 _ _ _ _ _
   | exact ih1 _ _ _ _ _ _ _
   | exact ih2 _ _ _ _ _ _
   | exact LeO.none _
   | refine LeO.ite ?_ ?_
   | refine LeO.bind ?_ (fun _ => ?_)
theorem octroiref33_Names.mono : ∀ a0 a1 a2 a3 a4 k, LeO (octroiref33_Names.f k a0 a1 a2 a3 a4) (octroiref33_Names.f (k + 1) a0 a1 a2 a3 a4) := by
 intro a0 a1 a2 a3 a4 k
 obtain ⟨ih0, ih1, ih2⟩ := octroiref33_Names.mono_l k
 exact ih0 a0 a1 a2 a3 a4
set_option maxHeartbeats 8000000 in
set_option maxRecDepth 100000 in
theorem octroiref33_Names.calls (k : Nat) : ∀ (a0_0 : Int) (a0_1 : Int) (a0_2 : ByteArray) (A0_3 : Option Addr) (c0_3 : Nat) (l0_3 : List (S62)) (A0_4 : Option Addr) (c0_4 : Nat) (l0_4 : List (S33)) (r : Bool) (w : World) (hr0_3 : Kd.C k62 w A0_3 l0_3.length l0_3) (hc0_3 : l0_3.length ≤ c0_3) (hr0_4 : Kd.C k33 w A0_4 l0_4.length l0_4) (hc0_4 : l0_4.length ≤ c0_4) (h : octroiref33_Names.f k a0_0 a0_1 a0_2 l0_3 l0_4 = some r),
  Calls Tryz.prog 10 #[.agg #[.int .i64 a0_0, .int .i64 a0_1, .string a0_2, .slice A0_3 l0_3.length c0_3, .slice A0_4 l0_4.length c0_4]] w fun e w' => e = .returned (.bool r) ∧ Below w.heap.size w w' := by
 induction k using Nat.strongRecOn with
 | _ k ih =>
 intro a0_0 a0_1 a0_2 A0_3 c0_3 l0_3 A0_4 c0_4 l0_4 r w hr0_3 hc0_3 hr0_4 hc0_4 h
 cases k with
 | zero => exact absurd h (by simp [octroiref33_Names.f])
 | succ k =>
 simp only [octroiref33_Names.f] at h
 have hu33 := Tryz.underlying33
 have hu72 := Tryz.underlying72
 have HR0_3 := A0m hr0_3
 have HC0_3 := A0m hc0_3
 clear hr0_3 hc0_3
 have HR0_4 := A0m hr0_4
 have HC0_4 := A0m hc0_4
 clear hr0_4 hc0_4
 have HB := A0m (Below.refl w.heap.size w)
 have H : (if a0_0 = 3 then ((octroiref25_Field.f 0 0 0 0 0 0 (⟨#[]⟩ : ByteArray) false 0 0 0 (⟨#[]⟩ : ByteArray) (⟨#[]⟩ : ByteArray) 0 0 0 false a0_2).bind fun bt283 => (octroiref33_Names.l0 k bt283.2 0 a0_0 a0_1 a0_2 l0_3 l0_4)) else (octroiref33_Names.l1 k 0 a0_0 a0_1 a0_2 l0_3 l0_4)) = some r := h
 clear h
 by_cases c2 : a0_0 = 3
 ·rw [if_pos c2] at H
  have c2b0 : (a0_0 == 3) = true := beq_iff_eq.mpr c2
  have c2b1 : (a0_0 != 3) = false := bne_eq_false_iff_eq.mpr c2
  clear c2
  replace H := Option.bind_eq_some_iff.mp H
  obtain ⟨⟨t283, t284⟩, A30, H⟩ := H
  replace H : (octroiref33_Names.l0 k t284 0 a0_0 a0_1 a0_2 l0_3 l0_4) = some r := H
  have A3 := A0m A30
  clear A30
  have H' := A0m H
  clear H
  go_enter Tryz.func10, Tryz.ntmps10
  go_wp2_with (first | ((with_reducible refine gate_dst (N := 1) rfl ?_); refine box_event ?hg (N := 1) ?hd (cs := #[.int .i64 a0_0, .int .i64 a0_1, .string a0_2, .slice A0_3 l0_3.length c0_3, .slice A0_4 l0_4.length c0_4]) (t := 33) ?hr ?_; (case hd => rfl); (case hg => rfl); (case hr => first | (go_simp; done) | (go_simp; rfl)); intro gb282 hg w4 hbox hb; have n0_ := A0m (below_step (by repeat (first | (with_reducible first | exact HB.out | apply bA | apply bN | apply bD) | exact HB.out)) hb); have n1_ := A0m (hbox); have n2_ := A0m ((by rw [hg]; exact (below_size (by repeat (first | (with_reducible first | exact HB.out | apply bA | apply bN | apply bD) | exact HB.out))) : w.heap.size ≤ gb282)); have n3_ := A0m ((by rw [hg]; exact (below_size (by repeat (first | (with_reducible first | exact HB.out | apply bA | apply bN | apply bD) | exact HB.out))) : w.heap.size ≤ gb282)); clear HB; have HB := n0_; have BK282 := n1_; have GW282 := n2_; have GE282 := n3_; clear n0_ n1_ n2_ n3_; clear hb hbox hg; have hcz5_0 : w4.cell? ⟨gb282, 0, none⟩ = some (.int .i64 a0_0) := (kC BK282.out 0).trans rfl; have hcz5_1 : w4.cell? ⟨gb282, 1, none⟩ = some (.int .i64 a0_1) := (kC BK282.out 1).trans rfl; have hcz5_2 : w4.cell? ⟨gb282, 2, none⟩ = some (.string a0_2) := (kC BK282.out 2).trans rfl; have hcz5_3 : w4.cell? ⟨gb282, 3, none⟩ = some (.slice A0_3 l0_3.length c0_3) := (kC BK282.out 3).trans rfl; have hcz5_4 : w4.cell? ⟨gb282, 4, none⟩ = some (.slice A0_4 l0_4.length c0_4) := (kC BK282.out 4).trans rfl; have hfz5_0 := kF BK282.out 0; have hfz5_1 := kF BK282.out 1; have hfz5_2 := kF BK282.out 2; have hfz5_3 := kF BK282.out 3; have hfz5_4 := kF BK282.out 4) | ((with_reducible refine gate_callee (f := 39) rfl ?_); refine goesL_ (some 16) rfl rfl Tryz.func39 (by kernel_rfl) rfl #[.agg #[.int .i64 0, .int .i64 0, .int .i64 0, .int .i64 0, .int .i64 0, .int .i64 0, .string (⟨#[]⟩ : ByteArray), .bool false, .int .i64 0, .int .i64 0, .int .i64 0, .string (⟨#[]⟩ : ByteArray), .string (⟨#[]⟩ : ByteArray), .int .i64 0, .int .i64 0, .int .i64 0, .bool false], .string a0_2] rfl (by (try simp only [List.map_toArray, List.map_cons, List.map_nil]); first | done | rfl | (simp only [List.length_drop, List.length_take]; rfl)) ?_; (with_reducible refine (octroiref25_Field.calls 0 0 0 0 0 0 (⟨#[]⟩ : ByteArray) false 0 0 0 (⟨#[]⟩ : ByteArray) (⟨#[]⟩ : ByteArray) 0 0 0 false a0_2 t283 t284 _ A3.out).mono ?_); rintro e w6 ⟨rfl, hb⟩; refine ⟨_, rfl, ?_⟩; have n0_ := A0m (blk_below (g := gb282) (o := .cells #[.int .i64 a0_0, .int .i64 a0_1, .string a0_2, .slice A0_3 l0_3.length c0_3, .slice A0_4 l0_4.length c0_4] 33 (0, 0)) (by (with_reducible repeat (first | refine kN ?_ _ | refine kD ?_ | refine kA ?_ _)); exact BK282.out) hb); have n1_ := A0m (below_step (by repeat (first | (with_reducible first | exact HB.out | apply bA | apply bN | apply bD | refine bS ?_ GE282.out) | exact HB.out)) hb); clear BK282; clear HB; have BK282 := n0_; have HB := n1_; clear n0_ n1_; (try clear hb); (try clear hb2); (try clear hk); (try clear hi)))
  go_loopg [4, 5] k (fun kq v4 v5 w' => ∃ (x4_1 : Bool) (x5_1 : Int), v4 = .bool x4_1 ∧ v5 = .int .i64 x5_1 ∧ Aside0 (octroiref33_Names.l0 kq x4_1 x5_1 a0_0 a0_1 a0_2 l0_3 l0_4 = some r) ∧ Aside0 (kq ≤ k) ∧ Aside0 (w'.heap[gb282]? = some (.cells #[.int .i64 a0_0, .int .i64 a0_1, .string a0_2, (.slice A0_3 l0_3.length c0_3), (.slice A0_4 l0_4.length c0_4)] 33 (0, 0))) ∧ Aside0 (Below w.heap.size w w'))
  case atStart => exact ⟨(t284), (0), (by first | rfl | (simp; done) | (simp [*]; done)), (by first | rfl | (simp; done) | (simp [*]; done)), H', ⟨Nat.le_refl _⟩, ⟨by (with_reducible repeat (first | refine kN ?_ _ | refine kD ?_ | refine kA ?_ _)); exact BK282.out⟩, ⟨by repeat (first | (with_reducible first | exact HB.out | apply bA | apply bN | apply bD | refine bS ?_ GE282.out) | exact HB.out)⟩⟩
  case round =>
   clear H'
   try clear c1
   try clear c2
   try clear c2b0
   try clear c2b1
   try clear p2
   try clear c3
   try clear hcz5_0
   try clear hcz5_1
   try clear hcz5_2
   try clear hcz5_3
   try clear hcz5_4
   try clear hfz5_0
   try clear hfz5_1
   try clear hfz5_2
   try clear hfz5_3
   try clear hfz5_4
   obtain ⟨x4_1, x5_1, rfl, rfl, HA, HK1, BK282, HB⟩ := hrel
   cases gk with
   | zero => exact absurd HA.out (by simp [octroiref33_Names.l0])
   | succ k1 =>
    have H := HA.out
    clear HA
    simp only [octroiref33_Names.l0] at H
    by_cases c7 : x5_1 < (l0_3.length : Int)
    ·rw [if_pos c7] at H
     have c7b0 : decide (x5_1 < (l0_3.length : Int)) = true := decide_eq_true c7
     clear c7
     by_cases c8 : 0 ≤ x5_1
     ·rw [if_pos c8] at H
      have c8b0 : decide (0 ≤ x5_1) = true := decide_eq_true c8
      clear c8
      replace H := Option.bind_eq_some_iff.mp H
      obtain ⟨⟨t286, t287⟩, A90, H⟩ := H
      replace H : (if x4_1 = true then (octroiref33_Names.l0 k1 t287 (wrap64 (x5_1 + 1)) a0_0 a0_1 a0_2 l0_3 l0_4) else (octroiref33_Names.l0 k1 false (wrap64 (x5_1 + 1)) a0_0 a0_1 a0_2 l0_3 l0_4)) = some r := H
      have A9 := A0m A90
      clear A90
      by_cases c10 : x4_1 = true
      ·subst c10
       have H1 : (octroiref33_Names.l0 k1 t287 (wrap64 (x5_1 + 1)) a0_0 a0_1 a0_2 l0_3 l0_4) = some r := by rw [if_pos rfl] at H; exact H
       clear H
       have H := H1
       clear H1
       have H' := A0m H
       clear H
       have hcz11_0 : wr.cell? ⟨gb282, 0, none⟩ = some (.int .i64 a0_0) := (kC BK282.out 0).trans rfl
       have hcz11_1 : wr.cell? ⟨gb282, 1, none⟩ = some (.int .i64 a0_1) := (kC BK282.out 1).trans rfl
       have hcz11_2 : wr.cell? ⟨gb282, 2, none⟩ = some (.string a0_2) := (kC BK282.out 2).trans rfl
       have hcz11_3 : wr.cell? ⟨gb282, 3, none⟩ = some (.slice A0_3 l0_3.length c0_3) := (kC BK282.out 3).trans rfl
       have hcz11_4 : wr.cell? ⟨gb282, 4, none⟩ = some (.slice A0_4 l0_4.length c0_4) := (kC BK282.out 4).trans rfl
       have hfz11_0 := kF BK282.out 0
       have hfz11_1 := kF BK282.out 1
       have hfz11_2 := kF BK282.out 2
       have hfz11_3 := kF BK282.out 3
       have hfz11_4 := kF BK282.out 4
       have p285 : 0 ≤ (x5_1 : Int) := dT (by first | (with_reducible assumption) | assumption)
       have q285 : x5_1 < (l0_3.length : Int) := dT (by first | (with_reducible assumption) | assumption)
       obtain ⟨ad285, e285, hx285_0, hx285_1, hx285_2⟩ := at_T62 HR0_3.out x5_1 p285 q285
       cases e285
       replace hx285_0 := (HB.out.cell (wL w _ hx285_0)).trans hx285_0
       replace hx285_1 := (HB.out.cell (wL w _ hx285_1)).trans hx285_1
       replace hx285_2 := (HB.out.cell (wL w _ hx285_2)).trans hx285_2
       replace p285 := eq_true p285
       replace q285 := eq_true q285
       go_wp2_with (first | ((with_reducible refine gate_callee (f := 40) rfl ?_); refine goesL_ (some 34) rfl rfl Tryz.func40 (by kernel_rfl) rfl #[.agg #[.int .i64 0, .int .i64 0, .int .i64 0, .int .i64 0, .int .i64 0, .int .i64 0, .string (⟨#[]⟩ : ByteArray), .bool false, .int .i64 0, .int .i64 0, .int .i64 0, .string (⟨#[]⟩ : ByteArray), .string (⟨#[]⟩ : ByteArray), .int .i64 0, .int .i64 0, .int .i64 0, .bool false], .string ((rd_T62 l0_3 x5_1).f0)] rfl (by (try simp only [List.map_toArray, List.map_cons, List.map_nil]); first | done | rfl | (simp only [List.length_drop, List.length_take]; rfl)) ?_; (with_reducible refine (octroiref25_Tag.calls 0 0 0 0 0 0 (⟨#[]⟩ : ByteArray) false 0 0 0 (⟨#[]⟩ : ByteArray) (⟨#[]⟩ : ByteArray) 0 0 0 false ((rd_T62 l0_3 x5_1).f0) t286 t287 _ A9.out).mono ?_); rintro e w12 ⟨rfl, hb⟩; refine ⟨_, rfl, ?_⟩; have n0_ := A0m (blk_below (g := gb282) (o := .cells #[.int .i64 a0_0, .int .i64 a0_1, .string a0_2, .slice (some ad285) l0_3.length c0_3, .slice A0_4 l0_4.length c0_4] 33 (0, 0)) (by (with_reducible repeat (first | refine kN ?_ _ | refine kD ?_ | refine kA ?_ _)); exact BK282.out) hb); have n1_ := A0m (below_step (by repeat (first | (with_reducible first | exact HB.out | apply bA | apply bN | apply bD | refine bS ?_ GE282.out) | exact HB.out)) hb); clear BK282; clear HB; have BK282 := n0_; have HB := n1_; clear n0_ n1_; (try clear hb); (try clear hb2); (try clear hk); (try clear hi)))
       go_roundg k1
       case measure => have := HK1.out; omega
       case rel => exact ⟨(t287), (wrap64 (x5_1 + 1)), (by first | rfl | (simp; done) | (simp [*]; done)), (by first | rfl | (simp; done) | (simp [*]; done)), H', ⟨by have := HK1.out; omega⟩, ⟨by (with_reducible repeat (first | refine kN ?_ _ | refine kD ?_ | refine kA ?_ _)); exact BK282.out⟩, ⟨by repeat (first | (with_reducible first | exact HB.out | apply bA | apply bN | apply bD | refine bS ?_ GE282.out) | exact HB.out)⟩⟩
      ·replace c10 := Bool.eq_false_iff.mpr c10
       subst c10
       have H1 : (octroiref33_Names.l0 k1 false (wrap64 (x5_1 + 1)) a0_0 a0_1 a0_2 l0_3 l0_4) = some r := by rw [if_neg (show ¬ (false = true) by decide)] at H; exact H
       clear H
       have H := H1
       clear H1
       have H' := A0m H
       clear H
       have hcz13_0 : wr.cell? ⟨gb282, 0, none⟩ = some (.int .i64 a0_0) := (kC BK282.out 0).trans rfl
       have hcz13_1 : wr.cell? ⟨gb282, 1, none⟩ = some (.int .i64 a0_1) := (kC BK282.out 1).trans rfl
       have hcz13_2 : wr.cell? ⟨gb282, 2, none⟩ = some (.string a0_2) := (kC BK282.out 2).trans rfl
       have hcz13_3 : wr.cell? ⟨gb282, 3, none⟩ = some (.slice A0_3 l0_3.length c0_3) := (kC BK282.out 3).trans rfl
       have hcz13_4 : wr.cell? ⟨gb282, 4, none⟩ = some (.slice A0_4 l0_4.length c0_4) := (kC BK282.out 4).trans rfl
       have hfz13_0 := kF BK282.out 0
       have hfz13_1 := kF BK282.out 1
       have hfz13_2 := kF BK282.out 2
       have hfz13_3 := kF BK282.out 3
       have hfz13_4 := kF BK282.out 4
       have p285 : 0 ≤ (x5_1 : Int) := dT (by first | (with_reducible assumption) | assumption)
       have q285 : x5_1 < (l0_3.length : Int) := dT (by first | (with_reducible assumption) | assumption)
       obtain ⟨ad285, e285, hx285_0, hx285_1, hx285_2⟩ := at_T62 HR0_3.out x5_1 p285 q285
       cases e285
       replace hx285_0 := (HB.out.cell (wL w _ hx285_0)).trans hx285_0
       replace hx285_1 := (HB.out.cell (wL w _ hx285_1)).trans hx285_1
       replace hx285_2 := (HB.out.cell (wL w _ hx285_2)).trans hx285_2
       replace p285 := eq_true p285
       replace q285 := eq_true q285
       go_wp2_with (first | ((with_reducible refine gate_callee (f := 40) rfl ?_); refine goesL_ (some 34) rfl rfl Tryz.func40 (by kernel_rfl) rfl #[.agg #[.int .i64 0, .int .i64 0, .int .i64 0, .int .i64 0, .int .i64 0, .int .i64 0, .string (⟨#[]⟩ : ByteArray), .bool false, .int .i64 0, .int .i64 0, .int .i64 0, .string (⟨#[]⟩ : ByteArray), .string (⟨#[]⟩ : ByteArray), .int .i64 0, .int .i64 0, .int .i64 0, .bool false], .string ((rd_T62 l0_3 x5_1).f0)] rfl (by (try simp only [List.map_toArray, List.map_cons, List.map_nil]); first | done | rfl | (simp only [List.length_drop, List.length_take]; rfl)) ?_; (with_reducible refine (octroiref25_Tag.calls 0 0 0 0 0 0 (⟨#[]⟩ : ByteArray) false 0 0 0 (⟨#[]⟩ : ByteArray) (⟨#[]⟩ : ByteArray) 0 0 0 false ((rd_T62 l0_3 x5_1).f0) t286 t287 _ A9.out).mono ?_); rintro e w14 ⟨rfl, hb⟩; refine ⟨_, rfl, ?_⟩; have n0_ := A0m (blk_below (g := gb282) (o := .cells #[.int .i64 a0_0, .int .i64 a0_1, .string a0_2, .slice (some ad285) l0_3.length c0_3, .slice A0_4 l0_4.length c0_4] 33 (0, 0)) (by (with_reducible repeat (first | refine kN ?_ _ | refine kD ?_ | refine kA ?_ _)); exact BK282.out) hb); have n1_ := A0m (below_step (by repeat (first | (with_reducible first | exact HB.out | apply bA | apply bN | apply bD | refine bS ?_ GE282.out) | exact HB.out)) hb); clear BK282; clear HB; have BK282 := n0_; have HB := n1_; clear n0_ n1_; (try clear hb); (try clear hb2); (try clear hk); (try clear hi)))
       go_roundg k1
       case measure => have := HK1.out; omega
       case rel => exact ⟨(false), (wrap64 (x5_1 + 1)), (by first | rfl | (simp; done) | (simp [*]; done)), (by first | rfl | (simp; done) | (simp [*]; done)), H', ⟨by have := HK1.out; omega⟩, ⟨by (with_reducible repeat (first | refine kN ?_ _ | refine kD ?_ | refine kA ?_ _)); exact BK282.out⟩, ⟨by repeat (first | (with_reducible first | exact HB.out | apply bA | apply bN | apply bD | refine bS ?_ GE282.out) | exact HB.out)⟩⟩
     ·rw [if_neg c8] at H
      exact absurd H (by simp)
    ·rw [if_neg c7] at H
     have c7b0 : decide (x5_1 < (l0_3.length : Int)) = false := decide_eq_false c7
     clear c7
     obtain rfl := Option.some.inj H
     have hcz15_0 : wr.cell? ⟨gb282, 0, none⟩ = some (.int .i64 a0_0) := (kC BK282.out 0).trans rfl
     have hcz15_1 : wr.cell? ⟨gb282, 1, none⟩ = some (.int .i64 a0_1) := (kC BK282.out 1).trans rfl
     have hcz15_2 : wr.cell? ⟨gb282, 2, none⟩ = some (.string a0_2) := (kC BK282.out 2).trans rfl
     have hcz15_3 : wr.cell? ⟨gb282, 3, none⟩ = some (.slice A0_3 l0_3.length c0_3) := (kC BK282.out 3).trans rfl
     have hcz15_4 : wr.cell? ⟨gb282, 4, none⟩ = some (.slice A0_4 l0_4.length c0_4) := (kC BK282.out 4).trans rfl
     have hfz15_0 := kF BK282.out 0
     have hfz15_1 := kF BK282.out 1
     have hfz15_2 := kF BK282.out 2
     have hfz15_3 := kF BK282.out 3
     have hfz15_4 := kF BK282.out 4
     go_wp2
     go_ret
     exact ⟨by first | rfl | (simp [errW_none, errW_some] <;> rfl) | (simp [*, errW_none, errW_some] <;> rfl), by repeat (first | (with_reducible first | exact HB.out | apply bA | apply bN | apply bD | refine bS ?_ GE282.out) | exact HB.out)⟩
 ·rw [if_neg c2] at H
  have c2b0 : (a0_0 == 3) = false := beq_eq_false_iff_ne.mpr c2
  have c2b1 : (a0_0 != 3) = true := bne_iff_ne.mpr c2
  have H' := A0m H
  clear H
  go_enter Tryz.func10, Tryz.ntmps10
  go_wp2_with (first | ((with_reducible refine gate_dst (N := 1) rfl ?_); refine box_event ?hg (N := 1) ?hd (cs := #[.int .i64 a0_0, .int .i64 a0_1, .string a0_2, .slice A0_3 l0_3.length c0_3, .slice A0_4 l0_4.length c0_4]) (t := 33) ?hr ?_; (case hd => rfl); (case hg => rfl); (case hr => first | (go_simp; done) | (go_simp; rfl)); intro gb282 hg w16 hbox hb; have n0_ := A0m (below_step (by repeat (first | (with_reducible first | exact HB.out | apply bA | apply bN | apply bD) | exact HB.out)) hb); have n1_ := A0m (hbox); have n2_ := A0m ((by rw [hg]; exact (below_size (by repeat (first | (with_reducible first | exact HB.out | apply bA | apply bN | apply bD) | exact HB.out))) : w.heap.size ≤ gb282)); have n3_ := A0m ((by rw [hg]; exact (below_size (by repeat (first | (with_reducible first | exact HB.out | apply bA | apply bN | apply bD) | exact HB.out))) : w.heap.size ≤ gb282)); clear HB; have HB := n0_; have BK282 := n1_; have GW282 := n2_; have GE282 := n3_; clear n0_ n1_ n2_ n3_; clear hb hbox hg; have hcz17_0 : w16.cell? ⟨gb282, 0, none⟩ = some (.int .i64 a0_0) := (kC BK282.out 0).trans rfl; have hcz17_1 : w16.cell? ⟨gb282, 1, none⟩ = some (.int .i64 a0_1) := (kC BK282.out 1).trans rfl; have hcz17_2 : w16.cell? ⟨gb282, 2, none⟩ = some (.string a0_2) := (kC BK282.out 2).trans rfl; have hcz17_3 : w16.cell? ⟨gb282, 3, none⟩ = some (.slice A0_3 l0_3.length c0_3) := (kC BK282.out 3).trans rfl; have hcz17_4 : w16.cell? ⟨gb282, 4, none⟩ = some (.slice A0_4 l0_4.length c0_4) := (kC BK282.out 4).trans rfl; have hfz17_0 := kF BK282.out 0; have hfz17_1 := kF BK282.out 1; have hfz17_2 := kF BK282.out 2; have hfz17_3 := kF BK282.out 3; have hfz17_4 := kF BK282.out 4))
  go_loopg [8] k (fun kq v8 w' => ∃ (x8_1 : Int), v8 = .int .i64 x8_1 ∧ Aside0 (octroiref33_Names.l1 kq x8_1 a0_0 a0_1 a0_2 l0_3 l0_4 = some r) ∧ Aside0 (kq ≤ k) ∧ Aside0 (w'.heap[gb282]? = some (.cells #[.int .i64 a0_0, .int .i64 a0_1, .string a0_2, (.slice A0_3 l0_3.length c0_3), (.slice A0_4 l0_4.length c0_4)] 33 (0, 0))) ∧ Aside0 (Below w.heap.size w w'))
  case atStart => exact ⟨(0), (by first | rfl | (simp; done) | (simp [*]; done)), H', ⟨Nat.le_refl _⟩, ⟨by (with_reducible repeat (first | refine kN ?_ _ | refine kD ?_ | refine kA ?_ _)); exact BK282.out⟩, ⟨by repeat (first | (with_reducible first | exact HB.out | apply bA | apply bN | apply bD | refine bS ?_ GE282.out) | exact HB.out)⟩⟩
  case round =>
   clear H'
   try clear c1
   try clear c2
   try clear c2b0
   try clear c2b1
   try clear p2
   try clear q2
   try clear hx2
   try clear c3
   try clear c4
   try clear p6
   try clear c7
   try clear c7b0
   try clear c8
   try clear c8b0
   try clear c10
   try clear hcz11_0
   try clear hcz11_1
   try clear hcz11_2
   try clear hcz11_3
   try clear hcz11_4
   try clear hcz13_0
   try clear hcz13_1
   try clear hcz13_2
   try clear hcz13_3
   try clear hcz13_4
   try clear hcz15_0
   try clear hcz15_1
   try clear hcz15_2
   try clear hcz15_3
   try clear hcz15_4
   try clear hcz17_0
   try clear hcz17_1
   try clear hcz17_2
   try clear hcz17_3
   try clear hcz17_4
   try clear hcz5_0
   try clear hcz5_1
   try clear hcz5_2
   try clear hcz5_3
   try clear hcz5_4
   try clear hfz11_0
   try clear hfz11_1
   try clear hfz11_2
   try clear hfz11_3
   try clear hfz11_4
   try clear hfz13_0
   try clear hfz13_1
   try clear hfz13_2
   try clear hfz13_3
   try clear hfz13_4
   try clear hfz15_0
   try clear hfz15_1
   try clear hfz15_2
   try clear hfz15_3
   try clear hfz15_4
   try clear hfz17_0
   try clear hfz17_1
   try clear hfz17_2
   try clear hfz17_3
   try clear hfz17_4
   try clear hfz5_0
   try clear hfz5_1
   try clear hfz5_2
   try clear hfz5_3
   try clear hfz5_4
   try clear hx285_0
   try clear hx285_1
   try clear hx285_2
   try clear p2
   try clear p285
   try clear q285
   obtain ⟨x8_1, rfl, HA, HK1, BK282, HB⟩ := hrel
   cases gk with
   | zero => exact absurd HA.out (by simp [octroiref33_Names.l1])
   | succ k1 =>
    have H := HA.out
    clear HA
    simp only [octroiref33_Names.l1] at H
    by_cases c18 : x8_1 < (l0_4.length : Int)
    ·rw [if_pos c18] at H
     have c18b0 : decide (x8_1 < (l0_4.length : Int)) = true := decide_eq_true c18
     clear c18
     by_cases c19 : 0 ≤ x8_1
     ·rw [if_pos c19] at H
      have c19b0 : decide (0 ≤ x8_1) = true := decide_eq_true c19
      clear c19
      replace H := Option.bind_eq_some_iff.mp H
      obtain ⟨t289, A200, H⟩ := H
      replace H : (if t289 = true then (octroiref33_Names.l1 k1 (wrap64 (x8_1 + 1)) a0_0 a0_1 a0_2 l0_3 l0_4) else (some false)) = some r := H
      have A20 := A0m A200
      clear A200
      by_cases c21 : t289 = true
      ·subst c21
       have H1 : (octroiref33_Names.l1 k1 (wrap64 (x8_1 + 1)) a0_0 a0_1 a0_2 l0_3 l0_4) = some r := by rw [if_pos rfl] at H; exact H
       clear H
       have H := H1
       clear H1
       have H' := A0m H
       clear H
       have hcz22_0 : wr.cell? ⟨gb282, 0, none⟩ = some (.int .i64 a0_0) := (kC BK282.out 0).trans rfl
       have hcz22_1 : wr.cell? ⟨gb282, 1, none⟩ = some (.int .i64 a0_1) := (kC BK282.out 1).trans rfl
       have hcz22_2 : wr.cell? ⟨gb282, 2, none⟩ = some (.string a0_2) := (kC BK282.out 2).trans rfl
       have hcz22_3 : wr.cell? ⟨gb282, 3, none⟩ = some (.slice A0_3 l0_3.length c0_3) := (kC BK282.out 3).trans rfl
       have hcz22_4 : wr.cell? ⟨gb282, 4, none⟩ = some (.slice A0_4 l0_4.length c0_4) := (kC BK282.out 4).trans rfl
       have hfz22_0 := kF BK282.out 0
       have hfz22_1 := kF BK282.out 1
       have hfz22_2 := kF BK282.out 2
       have hfz22_3 := kF BK282.out 3
       have hfz22_4 := kF BK282.out 4
       have p288 : 0 ≤ (x8_1 : Int) := dT (by first | (with_reducible assumption) | assumption)
       have q288 : x8_1 < (l0_4.length : Int) := dT (by first | (with_reducible assumption) | assumption)
       obtain ⟨ad288, A288_3, c288_3, A288_4, c288_4, e288, hx288_0, hx288_1, hx288_2, hx288_3, hx288_4, hl288_3, hi288_3, hl288_4, hi288_4⟩ := at_T33 HR0_4.out x8_1 p288 q288
       cases e288
       replace hx288_0 := (HB.out.cell (wL w _ hx288_0)).trans hx288_0
       replace hx288_1 := (HB.out.cell (wL w _ hx288_1)).trans hx288_1
       replace hx288_2 := (HB.out.cell (wL w _ hx288_2)).trans hx288_2
       replace hx288_3 := (HB.out.cell (wL w _ hx288_3)).trans hx288_3
       replace hx288_4 := (HB.out.cell (wL w _ hx288_4)).trans hx288_4
       have HR288_3 := A0m hi288_3
       have HC288_3 := A0m hl288_3
       clear hi288_3 hl288_3
       have HR288_4 := A0m hi288_4
       have HC288_4 := A0m hl288_4
       clear hi288_4 hl288_4
       replace p288 := eq_true p288
       replace q288 := eq_true q288
       go_wp2_with (first | ((with_reducible refine gate_callee (f := 10) rfl ?_); refine goesL_ (some 54) rfl rfl Tryz.func10 (by kernel_rfl) rfl #[.agg #[.int .i64 ((rd_T33 l0_4 x8_1).f0), .int .i64 ((rd_T33 l0_4 x8_1).f1), .string ((rd_T33 l0_4 x8_1).f2), .slice A288_3 ((rd_T33 l0_4 x8_1).f3).length c288_3, .slice A288_4 ((rd_T33 l0_4 x8_1).f4).length c288_4]] rfl (by (try simp only [List.map_toArray, List.map_cons, List.map_nil]); first | done | rfl | (simp only [List.length_drop, List.length_take]; rfl)) ?_; (with_reducible refine (ih k1 (by have := HK1.out; omega) ((rd_T33 l0_4 x8_1).f0) ((rd_T33 l0_4 x8_1).f1) ((rd_T33 l0_4 x8_1).f2) _ _ ((rd_T33 l0_4 x8_1).f3) _ _ ((rd_T33 l0_4 x8_1).f4) true _ ?side1 ?side2 ?side3 ?side4 A20.out).mono ?_); (case side1 => repeat (first | exact (Kd.C_below HR288_3.out HB.out) | (with_reducible refine Kd.C_alloc ?_ _) | (with_reducible refine Kd.C_drewN ?_ _) | (with_reducible refine Kd.C_drew ?_))); (case side2 => exact HC288_3.out); (case side3 => repeat (first | exact (Kd.C_below HR288_4.out HB.out) | (with_reducible refine Kd.C_alloc ?_ _) | (with_reducible refine Kd.C_drewN ?_ _) | (with_reducible refine Kd.C_drew ?_))); (case side4 => exact HC288_4.out); rintro e w23 ⟨rfl, hb⟩; refine ⟨_, rfl, ?_⟩; have n0_ := A0m (blk_below (g := gb282) (o := .cells #[.int .i64 a0_0, .int .i64 a0_1, .string a0_2, .slice A0_3 l0_3.length c0_3, .slice (some ad288) l0_4.length c0_4] 33 (0, 0)) (by (with_reducible repeat (first | refine kN ?_ _ | refine kD ?_ | refine kA ?_ _)); exact BK282.out) hb); have n1_ := A0m (below_step (by repeat (first | (with_reducible first | exact HB.out | apply bA | apply bN | apply bD | refine bS ?_ GE282.out) | exact HB.out)) hb); clear BK282; clear HB; have BK282 := n0_; have HB := n1_; clear n0_ n1_; (try clear hb); (try clear hb2); (try clear hk); (try clear hi)))
       go_roundg k1
       case measure => have := HK1.out; omega
       case rel => exact ⟨(wrap64 (x8_1 + 1)), (by first | rfl | (simp; done) | (simp [*]; done)), H', ⟨by have := HK1.out; omega⟩, ⟨by (with_reducible repeat (first | refine kN ?_ _ | refine kD ?_ | refine kA ?_ _)); exact BK282.out⟩, ⟨by repeat (first | (with_reducible first | exact HB.out | apply bA | apply bN | apply bD | refine bS ?_ GE282.out) | exact HB.out)⟩⟩
      ·replace c21 := Bool.eq_false_iff.mpr c21
       subst c21
       have H1 : (some false) = some r := by rw [if_neg (show ¬ (false = true) by decide)] at H; exact H
       clear H
       have H := H1
       clear H1
       obtain rfl := Option.some.inj H
       have hcz24_0 : wr.cell? ⟨gb282, 0, none⟩ = some (.int .i64 a0_0) := (kC BK282.out 0).trans rfl
       have hcz24_1 : wr.cell? ⟨gb282, 1, none⟩ = some (.int .i64 a0_1) := (kC BK282.out 1).trans rfl
       have hcz24_2 : wr.cell? ⟨gb282, 2, none⟩ = some (.string a0_2) := (kC BK282.out 2).trans rfl
       have hcz24_3 : wr.cell? ⟨gb282, 3, none⟩ = some (.slice A0_3 l0_3.length c0_3) := (kC BK282.out 3).trans rfl
       have hcz24_4 : wr.cell? ⟨gb282, 4, none⟩ = some (.slice A0_4 l0_4.length c0_4) := (kC BK282.out 4).trans rfl
       have hfz24_0 := kF BK282.out 0
       have hfz24_1 := kF BK282.out 1
       have hfz24_2 := kF BK282.out 2
       have hfz24_3 := kF BK282.out 3
       have hfz24_4 := kF BK282.out 4
       have p288 : 0 ≤ (x8_1 : Int) := dT (by first | (with_reducible assumption) | assumption)
       have q288 : x8_1 < (l0_4.length : Int) := dT (by first | (with_reducible assumption) | assumption)
       obtain ⟨ad288, A288_3, c288_3, A288_4, c288_4, e288, hx288_0, hx288_1, hx288_2, hx288_3, hx288_4, hl288_3, hi288_3, hl288_4, hi288_4⟩ := at_T33 HR0_4.out x8_1 p288 q288
       cases e288
       replace hx288_0 := (HB.out.cell (wL w _ hx288_0)).trans hx288_0
       replace hx288_1 := (HB.out.cell (wL w _ hx288_1)).trans hx288_1
       replace hx288_2 := (HB.out.cell (wL w _ hx288_2)).trans hx288_2
       replace hx288_3 := (HB.out.cell (wL w _ hx288_3)).trans hx288_3
       replace hx288_4 := (HB.out.cell (wL w _ hx288_4)).trans hx288_4
       have HR288_3 := A0m hi288_3
       have HC288_3 := A0m hl288_3
       clear hi288_3 hl288_3
       have HR288_4 := A0m hi288_4
       have HC288_4 := A0m hl288_4
       clear hi288_4 hl288_4
       replace p288 := eq_true p288
       replace q288 := eq_true q288
       go_wp2_with (first | ((with_reducible refine gate_callee (f := 10) rfl ?_); refine goesL_ (some 54) rfl rfl Tryz.func10 (by kernel_rfl) rfl #[.agg #[.int .i64 ((rd_T33 l0_4 x8_1).f0), .int .i64 ((rd_T33 l0_4 x8_1).f1), .string ((rd_T33 l0_4 x8_1).f2), .slice A288_3 ((rd_T33 l0_4 x8_1).f3).length c288_3, .slice A288_4 ((rd_T33 l0_4 x8_1).f4).length c288_4]] rfl (by (try simp only [List.map_toArray, List.map_cons, List.map_nil]); first | done | rfl | (simp only [List.length_drop, List.length_take]; rfl)) ?_; (with_reducible refine (ih k1 (by have := HK1.out; omega) ((rd_T33 l0_4 x8_1).f0) ((rd_T33 l0_4 x8_1).f1) ((rd_T33 l0_4 x8_1).f2) _ _ ((rd_T33 l0_4 x8_1).f3) _ _ ((rd_T33 l0_4 x8_1).f4) false _ ?side1 ?side2 ?side3 ?side4 A20.out).mono ?_); (case side1 => repeat (first | exact (Kd.C_below HR288_3.out HB.out) | (with_reducible refine Kd.C_alloc ?_ _) | (with_reducible refine Kd.C_drewN ?_ _) | (with_reducible refine Kd.C_drew ?_))); (case side2 => exact HC288_3.out); (case side3 => repeat (first | exact (Kd.C_below HR288_4.out HB.out) | (with_reducible refine Kd.C_alloc ?_ _) | (with_reducible refine Kd.C_drewN ?_ _) | (with_reducible refine Kd.C_drew ?_))); (case side4 => exact HC288_4.out); rintro e w25 ⟨rfl, hb⟩; refine ⟨_, rfl, ?_⟩; have n0_ := A0m (blk_below (g := gb282) (o := .cells #[.int .i64 a0_0, .int .i64 a0_1, .string a0_2, .slice A0_3 l0_3.length c0_3, .slice (some ad288) l0_4.length c0_4] 33 (0, 0)) (by (with_reducible repeat (first | refine kN ?_ _ | refine kD ?_ | refine kA ?_ _)); exact BK282.out) hb); have n1_ := A0m (below_step (by repeat (first | (with_reducible first | exact HB.out | apply bA | apply bN | apply bD | refine bS ?_ GE282.out) | exact HB.out)) hb); clear BK282; clear HB; have BK282 := n0_; have HB := n1_; clear n0_ n1_; (try clear hb); (try clear hb2); (try clear hk); (try clear hi)))
       go_ret
       exact ⟨by first | rfl | (simp [errW_none, errW_some] <;> rfl) | (simp [*, errW_none, errW_some] <;> rfl), by repeat (first | (with_reducible first | exact HB.out | apply bA | apply bN | apply bD | refine bS ?_ GE282.out) | exact HB.out)⟩
     ·rw [if_neg c19] at H
      exact absurd H (by simp)
    ·rw [if_neg c18] at H
     have c18b0 : decide (x8_1 < (l0_4.length : Int)) = false := decide_eq_false c18
     clear c18
     obtain rfl := Option.some.inj H
     have hcz26_0 : wr.cell? ⟨gb282, 0, none⟩ = some (.int .i64 a0_0) := (kC BK282.out 0).trans rfl
     have hcz26_1 : wr.cell? ⟨gb282, 1, none⟩ = some (.int .i64 a0_1) := (kC BK282.out 1).trans rfl
     have hcz26_2 : wr.cell? ⟨gb282, 2, none⟩ = some (.string a0_2) := (kC BK282.out 2).trans rfl
     have hcz26_3 : wr.cell? ⟨gb282, 3, none⟩ = some (.slice A0_3 l0_3.length c0_3) := (kC BK282.out 3).trans rfl
     have hcz26_4 : wr.cell? ⟨gb282, 4, none⟩ = some (.slice A0_4 l0_4.length c0_4) := (kC BK282.out 4).trans rfl
     have hfz26_0 := kF BK282.out 0
     have hfz26_1 := kF BK282.out 1
     have hfz26_2 := kF BK282.out 2
     have hfz26_3 := kF BK282.out 3
     have hfz26_4 := kF BK282.out 4
     go_wp2
     go_ret
     exact ⟨by first | rfl | (simp [errW_none, errW_some] <;> rfl) | (simp [*, errW_none, errW_some] <;> rfl), by repeat (first | (with_reducible first | exact HB.out | apply bA | apply bN | apply bD | refine bS ?_ GE282.out) | exact HB.out)⟩

/-! ### octroiref33_Find: function 12 -/
def octroiref33_Find.l0 : Nat → List (S35) → Int → Int → Option (Int)
 | 0, _, _, _ => none
 | k + 1, x0, x1, x5 => if x5 < (x0.length : Int) then (if 0 ≤ x5 then (if ((rd_T35 x0 x5).f0) = x1 then (some x5) else (octroiref33_Find.l0 k x0 x1 (wrap64 (x5 + 1)))) else (none)) else (some (-1))
def octroiref33_Find.f (k : Nat) (l0 : List (S35)) (a1 : Int) : Option (Int) := octroiref33_Find.l0 k l0 a1 0
theorem octroiref33_Find.mono_l : ∀ k, (∀ y0 y1 y2, LeO (octroiref33_Find.l0 k y0 y1 y2) (octroiref33_Find.l0 (k + 1) y0 y1 y2))
 | 0 => fun _ _ _ r h => by simp [octroiref33_Find.l0] at h
 | k + 1 => by
  have ih0 := octroiref33_Find.mono_l k
  ·intro y0 y1 y2
   unfold octroiref33_Find.l0
   repeat' first
   | (with_reducible exact ih0 _ _ _)
   | (with_reducible exact LeO.refl _)
   | (with_reducible exact LeO.none _)
   | (with_reducible refine LeO.ite ?_ ?_)
   | (with_reducible refine LeO.bind ?_ (fun _ => ?_))
   | exact ih0 _ _ _
   | exact LeO.none _
   | refine LeO.ite ?_ ?_
   | refine LeO.bind ?_ (fun _ => ?_)
theorem octroiref33_Find.mono : ∀ a0 a1 k, LeO (octroiref33_Find.f k a0 a1) (octroiref33_Find.f (k + 1) a0 a1) := by
 intro a0 a1 k
 have ih0 := octroiref33_Find.mono_l k
 unfold octroiref33_Find.f
 repeat' first
   | (with_reducible exact ih0 _ _ _)
   | (with_reducible exact LeO.refl _)
   | (with_reducible exact LeO.none _)
   | (with_reducible refine LeO.ite ?_ ?_)
   | (with_reducible refine LeO.bind ?_ (fun _ => ?_))
   | exact ih0 _ _ _
   | exact LeO.none _
   | refine LeO.ite ?_ ?_
   | refine LeO.bind ?_ (fun _ => ?_)
set_option maxHeartbeats 8000000 in
set_option maxRecDepth 100000 in
theorem octroiref33_Find.calls (k : Nat) (A0 : Option Addr) (c0 : Nat) (l0 : List (S35)) (a1 : Int) (r : Int) (w : World) (hr0 : Kd.C k35 w A0 l0.length l0) (hc0 : l0.length ≤ c0) (h : octroiref33_Find.f k l0 a1 = some r) :
  Calls Tryz.prog 12 #[.slice A0 l0.length c0, .int .i64 a1] w fun e w' => e = .returned (.int .i64 r) ∧ Drawn0 w w' := by
 have HR0 := A0m hr0
 have HC0 := A0m hc0
 clear hr0 hc0
 have H : (octroiref33_Find.l0 k l0 a1 0) = some r := h
 clear h
 have H' := A0m H
 clear H
 go_enter Tryz.func12, Tryz.ntmps12
 go_wp2
 go_loopg [5] k (fun kq v5 w' => ∃ (x5_1 : Int), v5 = .int .i64 x5_1 ∧ Aside0 (octroiref33_Find.l0 kq l0 a1 x5_1 = some r) ∧ Aside0 (kq ≤ k) ∧ Drawn0 w w')
 case atStart => exact ⟨(0), (by first | rfl | (simp; done) | (simp [*]; done)), H', ⟨Nat.le_refl _⟩, by repeat (first | exact Drawn0.refl _ | apply Drawn0.step)⟩
 case round =>
  clear H'
  try clear c1
  try clear p2
  obtain ⟨x5_1, rfl, HA, HK1, ⟨m1, rfl⟩⟩ := hrel
  cases gk with
  | zero => exact absurd HA.out (by simp [octroiref33_Find.l0])
  | succ k1 =>
   have H := HA.out
   clear HA
   simp only [octroiref33_Find.l0] at H
   by_cases c3 : x5_1 < (l0.length : Int)
   ·rw [if_pos c3] at H
    have c3b0 : decide (x5_1 < (l0.length : Int)) = true := decide_eq_true c3
    clear c3
    by_cases c4 : 0 ≤ x5_1
    ·rw [if_pos c4] at H
     have c4b0 : decide (0 ≤ x5_1) = true := decide_eq_true c4
     clear c4
     by_cases c5 : ((rd_T35 l0 x5_1).f0) = a1
     ·rw [if_pos c5] at H
      have c5b0 : (((rd_T35 l0 x5_1).f0) == a1) = true := beq_iff_eq.mpr c5
      have c5b1 : (((rd_T35 l0 x5_1).f0) != a1) = false := bne_eq_false_iff_eq.mpr c5
      clear c5
      obtain rfl := Option.some.inj H
      have p290 : 0 ≤ (x5_1 : Int) := dT (by first | (with_reducible assumption) | assumption)
      have q290 : x5_1 < (l0.length : Int) := dT (by first | (with_reducible assumption) | assumption)
      obtain ⟨ad290, A290_4, c290_4, A290_5, c290_5, e290, hx290_0, hx290_1, hx290_2, hx290_3, hx290_4, hx290_5, hl290_4, hi290_4, hl290_5, hi290_5⟩ := at_T35 HR0.out x5_1 p290 q290
      cases e290
      have HR290_4 := A0m hi290_4
      have HC290_4 := A0m hl290_4
      clear hi290_4 hl290_4
      have HR290_5 := A0m hi290_5
      have HC290_5 := A0m hl290_5
      clear hi290_5 hl290_5
      replace p290 := eq_true p290
      replace q290 := eq_true q290
      go_wp2
      go_ret
      exact ⟨by first | rfl | (simp; done) | (simp [*]; done), by repeat (first | exact Drawn0.refl _ | apply Drawn0.step)⟩
     ·rw [if_neg c5] at H
      have c5b0 : (((rd_T35 l0 x5_1).f0) == a1) = false := beq_eq_false_iff_ne.mpr c5
      have c5b1 : (((rd_T35 l0 x5_1).f0) != a1) = true := bne_iff_ne.mpr c5
      have H' := A0m H
      clear H
      have p290 : 0 ≤ (x5_1 : Int) := dT (by first | (with_reducible assumption) | assumption)
      have q290 : x5_1 < (l0.length : Int) := dT (by first | (with_reducible assumption) | assumption)
      obtain ⟨ad290, A290_4, c290_4, A290_5, c290_5, e290, hx290_0, hx290_1, hx290_2, hx290_3, hx290_4, hx290_5, hl290_4, hi290_4, hl290_5, hi290_5⟩ := at_T35 HR0.out x5_1 p290 q290
      cases e290
      have HR290_4 := A0m hi290_4
      have HC290_4 := A0m hl290_4
      clear hi290_4 hl290_4
      have HR290_5 := A0m hi290_5
      have HC290_5 := A0m hl290_5
      clear hi290_5 hl290_5
      replace p290 := eq_true p290
      replace q290 := eq_true q290
      go_wp2
      go_roundg k1
      case measure => have := HK1.out; omega
      case rel => exact ⟨(wrap64 (x5_1 + 1)), (by first | rfl | (simp; done) | (simp [*]; done)), H', ⟨by have := HK1.out; omega⟩, by repeat (first | exact Drawn0.refl _ | apply Drawn0.step)⟩
    ·rw [if_neg c4] at H
     exact absurd H (by simp)
   ·rw [if_neg c3] at H
    have c3b0 : decide (x5_1 < (l0.length : Int)) = false := decide_eq_false c3
    clear c3
    obtain rfl := Option.some.inj H
    go_wp2
    go_ret
    exact ⟨by first | rfl | (simp; done) | (simp [*]; done), by repeat (first | exact Drawn0.refl _ | apply Drawn0.step)⟩

/-! ### octroiref31_BoxNumber: function 55 -/
def octroiref31_BoxNumber.f (a0 : Int) : Option (Bool) := if a0 ≥ 1 then (some (decide (a0 ≤ 9999))) else (some false)
set_option maxHeartbeats 8000000 in
set_option maxRecDepth 100000 in
theorem octroiref31_BoxNumber.calls (a0 : Int) (r : Bool) (w : World) (h : octroiref31_BoxNumber.f a0 = some r) :
    Calls Tryz.prog 55 #[.int .i64 a0] w fun e w' => e = .returned (.bool r) ∧ Drawn0 w w' := by
  have H : (if a0 ≥ 1 then (some (decide (a0 ≤ 9999))) else (some false)) = some r := h
  clear h
  by_cases c2 : a0 ≥ 1
  · rw [if_pos c2] at H
    have c2b0 : decide (1 ≤ a0) = true := decide_eq_true c2
    clear c2
    obtain rfl := Option.some.inj H
    go_enter Tryz.func55, Tryz.ntmps55
    go_wp2
    go_ret
    exact ⟨by first | rfl | (simp; done) | (simp [*]; done), by repeat (first | exact Drawn0.refl _ | apply Drawn0.step)⟩
  · rw [if_neg c2] at H
    have c2b0 : decide (1 ≤ a0) = false := decide_eq_false c2
    clear c2
    obtain rfl := Option.some.inj H
    go_enter Tryz.func55, Tryz.ntmps55
    go_wp2
    go_ret
    exact ⟨by first | rfl | (simp; done) | (simp [*]; done), by repeat (first | exact Drawn0.refl _ | apply Drawn0.step)⟩

end Go.Proofs.YtmkalnljclhigaaGreat.XCheckerChecks
