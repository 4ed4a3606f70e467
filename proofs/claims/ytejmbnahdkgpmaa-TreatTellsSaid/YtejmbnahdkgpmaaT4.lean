import Derived.Test.YtejmbnahdkgpmaaT3
import Derived.Handy
import Derived.Lib.Hide
namespace Go.Proofs.Ytejmbnahdkgpmaa
set_option linter.unusedVariables false
set_option linter.unusedSimpArgs false
open Go.RowKit

theorem ret_b {a b : Bool} (h : a = true ↔ b = true) : Ending.returned (.bool a) = .returned (.bool b) := by
  cases a <;> cases b <;> simp_all

def mayP (k f t p l : Int) : Prop := 1 ≤ k ∧ k ≤ 7 ∧ 0 ≤ f ∧ f ≤ 2 ∧ 0 ≤ t ∧ t ≤ 2 ∧ 0 ≤ p ∧ p ≤ 2 ∧ 0 ≤ l ∧ l ≤ 2
instance (k f t p l : Int) : Decidable (mayP k f t p l) := by unfold mayP; exact inferInstance
def mayB (k f t p l : Int) : Bool := decide (mayP k f t p l)
theorem mayB_iff (k f t p l : Int) : mayB k f t p l = true ↔ (1 ≤ k ∧ k ≤ 7 ∧ 0 ≤ f ∧ f ≤ 2 ∧ 0 ≤ t ∧ t ≤ 2 ∧ 0 ≤ p ∧ p ≤ 2 ∧ 0 ≤ l ∧ l ≤ 2) := by
  unfold mayB mayP
  exact decide_eq_true_iff

set_option maxRecDepth 100000 in
set_option maxHeartbeats 4000000 in
theorem may_any (s : Bool) (k : Int) (x : Bool) (f t p l : Int) (b o : Bool) (w : World) :
    Calls Try.prog 18 #[.agg #[.bool s, .int .i64 k, .bool x, .int .i64 f, .int .i64 t, .int .i64 p, .int .i64 l, .bool b, .bool o]] w fun e w' => e = .returned (.bool (mayB k f t p l)) ∧ Below w.heap.size w w' := by
  have i0 : ∀ w : World, (Instr.index 63 (.agg #[.int .i64 f, .int .i64 t, .int .i64 p, .int .i64 l]) (.int .i64 0)).run Try.prog w = .ok (.int .i64 f) w := fun _ => by kernel_rfl
  have i1 : ∀ w : World, (Instr.index 63 (.agg #[.int .i64 f, .int .i64 t, .int .i64 p, .int .i64 l]) (.int .i64 1)).run Try.prog w = .ok (.int .i64 t) w := fun _ => by kernel_rfl
  have i2 : ∀ w : World, (Instr.index 63 (.agg #[.int .i64 f, .int .i64 t, .int .i64 p, .int .i64 l]) (.int .i64 2)).run Try.prog w = .ok (.int .i64 p) w := fun _ => by kernel_rfl
  have i3 : ∀ w : World, (Instr.index 63 (.agg #[.int .i64 f, .int .i64 t, .int .i64 p, .int .i64 l]) (.int .i64 3)).run Try.prog w = .ok (.int .i64 l) w := fun _ => by kernel_rfl
  go_enter Try.func18, Try.ntmps18
  go_wp2
  go_rounds 5
  all_goals
    first
      | (exfalso; omega)
      | (go_ret; refine ⟨ret_b ?_, b_alloc (Below.refl _ _) _⟩; simp only [mayB_iff, Bool.or_eq_true, Bool.and_eq_true, beq_iff_eq, Bool.false_eq_true, true_iff, false_iff, decide_eq_true_eq]; omega)

theorem zone_any (z : Int) (w : World) : Calls Try.prog 43 #[.int .i64 z] w fun e w' => e = .returned (.bool (decide (0 ≤ z ∧ z ≤ 2))) ∧ w = w' := by
  go_enter Try.func43, Try.ntmps43
  go_wp2
  all_goals
    go_ret
    refine ⟨ret_b ?_, rfl⟩
    simp only [Bool.or_eq_true, Bool.and_eq_true, beq_iff_eq, Bool.false_eq_true, true_iff, false_iff, decide_eq_true_eq]; omega

set_option maxRecDepth 100000 in
set_option maxHeartbeats 4000000 in
theorem rmay_any (s : Bool) (k : Int) (x : Bool) (f t p l : Int) (b o : Bool) (w : World) :
    Calls Try.prog 19 #[.agg #[.bool s, .int .i64 k, .bool x, .int .i64 f, .int .i64 t, .int .i64 p, .int .i64 l, .bool b, .bool o]] w fun e w' => e = .returned (.bool (mayB k f t p l)) ∧ Below w.heap.size w w' := by
  go_enter Try.func19, Try.ntmps19
  go_wp2_with (go_at_call 43; refine (zone_any _ _).mono ?_; rintro e w1 ⟨rfl, rfl⟩)
  all_goals
    first
      | (exfalso; omega)
      | (go_ret; refine ⟨ret_b ?_, b_alloc (Below.refl _ _) _⟩; simp only [mayB_iff, Bool.or_eq_true, Bool.and_eq_true, beq_iff_eq, Bool.false_eq_true, true_iff, false_iff, decide_eq_true_eq]; omega)

def outB (t : Int) : Bool := decide (t = 1 ∨ t = 3 ∨ t = 9 ∨ 12 ≤ t ∧ t ≤ 14)
def dedB (t : Int) : Bool := decide (11 ≤ t ∧ t ≤ 14)
def lisB (t : Int) : Bool := decide (t = 4 ∨ t = 6)

theorem out_any (t : Int) (w : World) : Calls Try.prog 24 #[.int .i64 t] w fun e w' => e = .returned (.bool (outB t)) ∧ w = w' := by
  go_enter Try.func24, Try.ntmps24
  go_wp2
  all_goals
    go_ret
    refine ⟨ret_b ?_, rfl⟩
    simp only [outB, Bool.or_eq_true, Bool.and_eq_true, beq_iff_eq, Bool.false_eq_true, true_iff, false_iff, decide_eq_true_eq, beq_eq_false_iff_ne] at *; omega
theorem rout_any (t : Int) (w : World) : Calls Try.prog 25 #[.int .i64 t] w fun e w' => e = .returned (.bool (outB t)) ∧ w = w' := by
  go_enter Try.func25, Try.ntmps25
  go_wp2
  all_goals
    go_ret
    refine ⟨ret_b ?_, rfl⟩
    simp only [outB, Bool.or_eq_true, Bool.and_eq_true, beq_iff_eq, Bool.false_eq_true, true_iff, false_iff, decide_eq_true_eq, beq_eq_false_iff_ne] at *; omega
theorem ded_any (t : Int) (w : World) : Calls Try.prog 26 #[.int .i64 t] w fun e w' => e = .returned (.bool (dedB t)) ∧ w = w' := by
  go_enter Try.func26, Try.ntmps26
  go_wp2
  all_goals
    go_ret
    refine ⟨ret_b ?_, rfl⟩
    simp only [dedB, Bool.or_eq_true, Bool.and_eq_true, beq_iff_eq, Bool.false_eq_true, true_iff, false_iff, decide_eq_true_eq]; omega
theorem rded_any (t : Int) (w : World) : Calls Try.prog 27 #[.int .i64 t] w fun e w' => e = .returned (.bool (dedB t)) ∧ w = w' := by
  go_enter Try.func27, Try.ntmps27
  go_wp2
  all_goals
    go_ret
    refine ⟨ret_b ?_, rfl⟩
    simp only [dedB, Bool.or_eq_true, Bool.and_eq_true, beq_iff_eq, Bool.false_eq_true, true_iff, false_iff, decide_eq_true_eq]; omega
theorem lis_any (t : Int) (w : World) : Calls Try.prog 29 #[.int .i64 t] w fun e w' => e = .returned (.bool (lisB t)) ∧ w = w' := by
  go_enter Try.func29, Try.ntmps29
  go_wp2
  all_goals
    go_ret
    refine ⟨ret_b ?_, rfl⟩
    first | (simp only [lisB, Bool.or_eq_true, Bool.and_eq_true, beq_iff_eq, Bool.false_eq_true, true_iff, false_iff, decide_eq_true_eq, beq_eq_false_iff_ne] at *; done) | (simp only [lisB, Bool.or_eq_true, Bool.and_eq_true, beq_iff_eq, Bool.false_eq_true, true_iff, false_iff, decide_eq_true_eq, beq_eq_false_iff_ne] at *; omega)

end Go.Proofs.Ytejmbnahdkgpmaa
