import Derived.Test.YtejmbnahdkgpmaaT6
import Derived.ProofKit
import Derived.OpenShut
import Derived.ShutString
import Derived.ChangeOld
import Derived.Below
import Derived.SizedLaws
import Derived.Lib.SmallJoins
namespace Go.Proofs.Ytejmbnahdkgpmaa
set_option linter.unusedVariables false
set_option linter.unusedSimpArgs false
open Go.RowKit

set_option maxRecDepth 100000 in
set_option maxHeartbeats 4000000 in
theorem rname_in (t : Int) (h0 : 0 ≤ t) (h1 : t < 16) (w : World) : Calls Try.prog 23 #[.int .i64 t] w fun e w' => e = .returned (.string (nameS t)) ∧ w = w' := by
  have h16 : t = 0 ∨ t = 1 ∨ t = 2 ∨ t = 3 ∨ t = 4 ∨ t = 5 ∨ t = 6 ∨ t = 7 ∨ t = 8 ∨ t = 9 ∨ t = 10 ∨ t = 11 ∨ t = 12 ∨ t = 13 ∨ t = 14 ∨ t = 15 := by omega
  clear h0 h1
  rcases h16 with rfl | rfl | rfl | rfl | rfl | rfl | rfl | rfl | rfl | rfl | rfl | rfl | rfl | rfl | rfl | rfl
  all_goals
    go_enter Try.func23, Try.ntmps23
    go_wp2
    go_ret
    exact ⟨by rfl, rfl⟩
set_option maxRecDepth 100000 in
set_option maxHeartbeats 4000000 in
theorem rname_out (t : Int) (h : ¬ (0 ≤ t ∧ t < 16)) (w : World) : Calls Try.prog 23 #[.int .i64 t] w fun e w' => e = .returned (.string (nameS t)) ∧ w = w' := by
  have hn : nameS t = ⟨#[]⟩ := by simp only [nameS, if_neg h]
  rw [hn]
  have e1 : (t == 1) = false := by rw [beq_eq_false_iff_ne]; omega
  have e2 : (t == 2) = false := by rw [beq_eq_false_iff_ne]; omega
  have e3 : (t == 3) = false := by rw [beq_eq_false_iff_ne]; omega
  have e4 : (t == 4) = false := by rw [beq_eq_false_iff_ne]; omega
  have e5 : (t == 5) = false := by rw [beq_eq_false_iff_ne]; omega
  have e6 : (t == 6) = false := by rw [beq_eq_false_iff_ne]; omega
  have e7 : (t == 7) = false := by rw [beq_eq_false_iff_ne]; omega
  have e8 : (t == 8) = false := by rw [beq_eq_false_iff_ne]; omega
  have e9 : (t == 9) = false := by rw [beq_eq_false_iff_ne]; omega
  have e10 : (t == 10) = false := by rw [beq_eq_false_iff_ne]; omega
  have e11 : (t == 11) = false := by rw [beq_eq_false_iff_ne]; omega
  have e12 : (t == 12) = false := by rw [beq_eq_false_iff_ne]; omega
  have e13 : (t == 13) = false := by rw [beq_eq_false_iff_ne]; omega
  have e14 : (t == 14) = false := by rw [beq_eq_false_iff_ne]; omega
  have e15 : (t == 15) = false := by rw [beq_eq_false_iff_ne]; omega
  clear h hn
  go_enter Try.func23, Try.ntmps23
  go_wp2
  go_ret
  exact ⟨rfl, rfl⟩
theorem rname_any (t : Int) (w : World) : Calls Try.prog 23 #[.int .i64 t] w fun e w' => e = .returned (.string (nameS t)) ∧ w = w' := by
  by_cases h : 0 ≤ t ∧ t < 16
  · exact rname_in t h.1 h.2 w
  · exact rname_out t h w
theorem name_any (t : Int) (w : World) : Calls Try.prog 22 #[.int .i64 t] w fun e w' => e = .returned (.string (nameS t)) ∧ Below w.heap.size w w' := by
  by_cases h : 0 ≤ t ∧ t < 16
  · exact name_in t h.1 h.2 w
  · exact name_out t h w

set_option maxRecDepth 100000 in
set_option maxHeartbeats 4000000 in
theorem lives_any (w : World) : Calls Try.prog 20 #[] w fun e w' => e = .returned (.bool true) ∧ Below w.heap.size w w' := by
  have q1 : ofS true 1 false 0 1 1 0 false true = 8 := by rfl
  have q2 : ofE 1 0 1 1 0 = 0 := by rfl
  have q3 : nameS 8 = ⟨#[100, 105, 115, 116, 97, 110, 99, 101]⟩ := by rfl
  have Q1 := Lib.hid q1
  have Q2 := Lib.hid q2
  have Q3 := Lib.hid q3
  clear q1 q2 q3
  go_enter Try.func20, Try.ntmps20
  go_wp2_with (first
    | (go_at_call 16; refine (of_any _ _ _ _ _ _ _ _ _ _).mono ?_; rintro e w1 ⟨rfl, hb1⟩; rw [Q1.out, Q2.out])
    | (go_at_call 22; refine (name_any _ _).mono ?_; rintro e w1 ⟨rfl, hb2⟩; rw [Q3.out]))
  go_ret
  exact ⟨rfl, b_trans (b_trans (Below.refl _ _) (by assumption)) (by assumption)⟩

end Go.Proofs.Ytejmbnahdkgpmaa
