/-
  checker: a plan that no call made.
-/
import Derived.Test.YtepddfkdjdklnaaQCh14
namespace Go.Proofs.Ytepddfkdjdklnaa.Ch
set_option linter.unusedVariables false
set_option linter.unusedSimpArgs false
set_option linter.unnecessarySimpa false
open Go.RowKit Go.Proofs.YtepddfkdjdklnaaK Go.Proofs.Ytepddfkdjdklnaa.PCheckerOrder Go.Proofs.YtepddfkdjdklnaaW.PrintWords Go.Proofs.YtepddfkdjdklnaaW.PrintLast

/-- No plan, or an empty one. -/
def Nob (w : World) (p : Option Addr) : Prop := p = none ∨ ∃ b, p = some ⟨b, 0, none⟩ ∧ w.cell? ⟨b, 1, none⟩ = some (.map none)
set_option maxRecDepth 100000 in
theorem none_nob (w : World) (p : Option Addr) (h : Nob w p) : Calls Try.prog 23 #[.pointer p] w fun e w' => e = .returned (.bool true) ∧ Below w.heap.size w w' := by
  rcases h with rfl | ⟨b, rfl, h1⟩
  · go_enter Try.func23, Try.ntmps23
    go_wp2
    go_ret
    exact ⟨rfl, Below.refl _ _⟩
  · have qT : ∀ (w : World) (r : Option Nat), (binOp .eql 33 (.map r) (.map none)).run Try.prog w = .ok (.bool r.isNone) w := fun w r => run_eql_map_nil w _ _ _ r Try.underlying33
    go_enter Try.func23, Try.ntmps23
    go_wp2
    go_ret
    exact ⟨rfl, Below.refl _ _⟩
theorem len_nob (w : World) (p : Option Addr) (h : Nob w p) : Calls Try.prog 12 #[.pointer p] w fun e w' => e = .returned (.int .i64 0) ∧ Below w.heap.size w w' := by
  have hn := none_nob w p h
  have HN := Lib.hid hn
  clear hn h
  go_enter Try.func12, Try.ntmps12
  go_wp2_with (go_at_call 23; refine HN.out.mono ?_; rintro e w1 ⟨rfl, hb⟩; have HB1 := Lib.hid hb; clear hb)
  go_ret
  exact ⟨rfl, HB1.out⟩
theorem order_nob (w : World) (p : Option Addr) (h : Nob w p) : Calls Try.prog 8 #[.pointer p] w fun e w' => e = .returned (.slice none 0 0) ∧ Below w.heap.size w w' := by
  have hn := none_nob w p h
  have HN := Lib.hid hn
  clear hn h
  go_enter Try.func8, Try.ntmps8
  go_wp2_with (go_at_call 23; refine HN.out.mono ?_; rintro e w1 ⟨rfl, hb⟩; have HB1 := Lib.hid hb; clear hb)
  go_ret
  exact ⟨rfl, HB1.out⟩
theorem find_nob (w : World) (p : Option Addr) (n : Int) (h : Nob w p) : Calls Try.prog 11 #[.pointer p, .int .i64 n] w fun e w' => e = .returned (.tuple #[.int .i64 0, .bool false]) ∧ Below w.heap.size w w' := by
  have hn := none_nob w p h
  have HN := Lib.hid hn
  clear hn h
  go_enter Try.func11, Try.ntmps11
  go_wp2_with (go_at_call 23; refine HN.out.mono ?_; rintro e w1 ⟨rfl, hb⟩; have HB1 := Lib.hid hb; clear hb)
  refine bodyPost_ret (v := .tuple #[.int .i64 0, .bool false]) (by simp [results, Try.results11, go_sem]) rfl ⟨rfl, HB1.out⟩
theorem has_nob (w : World) (p : Option Addr) (i : Int) (h : Nob w p) : Calls Try.prog 25 #[.pointer p, .int .i64 i] w fun e w' => e = .returned (.bool false) ∧ Below w.heap.size w w' := by
  have hn := len_nob w p h
  have HN := Lib.hid hn
  clear hn h
  by_cases hi : 0 ≤ i
  · have d1 : decide (i < 0) = false := decide_eq_false (by omega)
    go_enter Try.func25, Try.ntmps25
    go_wp2_with (go_at_call 12; refine HN.out.mono ?_; rintro e w1 ⟨rfl, hb⟩; have HB1 := Lib.hid hb; clear hb)
    go_ret
    exact ⟨by simp [d1], HB1.out⟩
  · go_enter Try.func25, Try.ntmps25
    go_wp2
    go_ret
    exact ⟨rfl, Below.refl _ _⟩
theorem needs_nob (w : World) (p : Option Addr) (i : Int) (h : Nob w p) : Calls Try.prog 9 #[.pointer p, .int .i64 i] w fun e w' => e = .returned (.slice none 0 0) ∧ Below w.heap.size w w' := by
  have hn := has_nob w p i h
  have HN := Lib.hid hn
  clear hn h
  go_enter Try.func9, Try.ntmps9
  go_wp2_with (go_at_call 25; refine HN.out.mono ?_; rintro e w1 ⟨rfl, hb⟩; have HB1 := Lib.hid hb; clear hb)
  go_ret
  exact ⟨rfl, HB1.out⟩
end Go.Proofs.Ytepddfkdjdklnaa.Ch
