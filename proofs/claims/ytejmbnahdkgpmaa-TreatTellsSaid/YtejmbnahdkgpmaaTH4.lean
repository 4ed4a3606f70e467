import Derived.Test.YtejmbnahdkgpmaaT3
import Derived.BigGuardPart
namespace Go.Proofs.Ytejmbnahdkgpmaa
set_option linter.unusedVariables false
set_option linter.unusedSimpArgs false
open Go.RowKit

set_option maxRecDepth 100000 in
set_option maxHeartbeats 16000000 in
theorem holds_8 (s : Bool) (k : Int) (x : Bool) (f t p l : Int) (b o : Bool) (w : World) :
    Calls Try.prog 21 #[.int .i64 8, .agg #[.bool s, .int .i64 k, .bool x, .int .i64 f, .int .i64 t, .int .i64 p, .int .i64 l, .bool b, .bool o]] w fun e w' => e = .returned (.bool (holdsB 8 s k x f t p l b o)) ∧ Below w.heap.size w w' := by
  go_enter Try.func21, Try.ntmps21
  go_wp2_with (go_at_call 44; refine (local_any _ _ _ _ _ _ _ _ _ _).mono ?_; rintro e w1 ⟨rfl, hb1⟩; obtain ⟨hc1, hf1⟩ := bcell hb1)
  all_goals
    first
      | (exfalso; omega)
      | (go_ret; refine ⟨?_, by repeat (first | exact Below.refl _ _ | apply b_alloc | refine b_trans ?_ (by assumption))⟩; simp_all [holdsB]; done)

set_option maxRecDepth 100000 in
set_option maxHeartbeats 16000000 in
theorem holds_9 (s : Bool) (k : Int) (x : Bool) (f t p l : Int) (b o : Bool) (w : World) :
    Calls Try.prog 21 #[.int .i64 9, .agg #[.bool s, .int .i64 k, .bool x, .int .i64 f, .int .i64 t, .int .i64 p, .int .i64 l, .bool b, .bool o]] w fun e w' => e = .returned (.bool (holdsB 9 s k x f t p l b o)) ∧ Below w.heap.size w w' := by
  go_enter Try.func21, Try.ntmps21
  go_wp2_with (go_at_call 44; refine (local_any _ _ _ _ _ _ _ _ _ _).mono ?_; rintro e w1 ⟨rfl, hb1⟩; obtain ⟨hc1, hf1⟩ := bcell hb1)
  all_goals
    first
      | (exfalso; omega)
      | (go_ret; refine ⟨?_, by repeat (first | exact Below.refl _ _ | apply b_alloc | refine b_trans ?_ (by assumption))⟩; simp_all [holdsB]; done)

set_option maxRecDepth 100000 in
set_option maxHeartbeats 16000000 in
theorem holds_11 (s : Bool) (k : Int) (x : Bool) (f t p l : Int) (b o : Bool) (w : World) :
    Calls Try.prog 21 #[.int .i64 11, .agg #[.bool s, .int .i64 k, .bool x, .int .i64 f, .int .i64 t, .int .i64 p, .int .i64 l, .bool b, .bool o]] w fun e w' => e = .returned (.bool (holdsB 11 s k x f t p l b o)) ∧ Below w.heap.size w w' := by
  go_enter Try.func21, Try.ntmps21
  go_wp2_with (go_at_call 44; refine (local_any _ _ _ _ _ _ _ _ _ _).mono ?_; rintro e w1 ⟨rfl, hb1⟩; obtain ⟨hc1, hf1⟩ := bcell hb1)
  all_goals
    first
      | (exfalso; omega)
      | (go_ret; refine ⟨?_, by repeat (first | exact Below.refl _ _ | apply b_alloc | refine b_trans ?_ (by assumption))⟩; simp_all [holdsB]; done)


end Go.Proofs.Ytejmbnahdkgpmaa
