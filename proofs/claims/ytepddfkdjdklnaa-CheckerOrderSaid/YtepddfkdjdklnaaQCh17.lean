/-
  checker: done.
-/
import Derived.Test.YtepddfkdjdklnaaQCh14
namespace Go.Proofs.Ytepddfkdjdklnaa.Ch
set_option linter.unusedVariables false
set_option linter.unusedSimpArgs false
set_option linter.unnecessarySimpa false
open Go.RowKit Go.Proofs.YtepddfkdjdklnaaK Go.Proofs.Ytepddfkdjdklnaa.PCheckerOrder Go.Proofs.YtepddfkdjdklnaaW.PrintWords Go.Proofs.YtepddfkdjdklnaaW.PrintLast

theorem done_ok (w : World) (p : Option Addr) : Calls Try.prog 22 #[.pointer p, .int .i64 0] w fun e w' => e = .returned (.tuple #[.pointer p, .int .i64 0]) ∧ w' = w := by
  go_enter Try.func22, Try.ntmps22
  go_wp2
  refine bodyPost_ret (v := .tuple #[.pointer p, .int .i64 0]) (by simp [results, Try.results22, go_sem]) rfl ⟨rfl, rfl⟩
theorem done_err (w : World) (p : Option Addr) (e0 : Int) (he : e0 ≠ 0) : Calls Try.prog 22 #[.pointer p, .int .i64 e0] w fun e w' => e = .returned (.tuple #[.pointer none, .int .i64 e0]) ∧ w' = w := by
  have d1 : (e0 == 0) = false := beq_eq_false_iff_ne.2 he
  have d2 : decide (e0 = 0) = false := decide_eq_false he
  go_enter Try.func22, Try.ntmps22
  go_wp2
  refine bodyPost_ret (v := .tuple #[.pointer none, .int .i64 e0]) (by simp [results, Try.results22, go_sem]) rfl ⟨rfl, rfl⟩
end Go.Proofs.Ytepddfkdjdklnaa.Ch
