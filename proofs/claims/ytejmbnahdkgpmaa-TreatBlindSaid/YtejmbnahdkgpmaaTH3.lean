import Derived.Test.YtejmbnahdkgpmaaT3
import Derived.BigGuardPart
namespace Go.Proofs.Ytejmbnahdkgpmaa
set_option linter.unusedVariables false
set_option linter.unusedSimpArgs false
open Go.RowKit

set_option maxRecDepth 100000 in
set_option maxHeartbeats 16000000 in
theorem holds_2 (s : Bool) (k : Int) (x : Bool) (f t p l : Int) (b o : Bool) (w : World) :
    Calls Try.prog 21 #[.int .i64 2, .agg #[.bool s, .int .i64 k, .bool x, .int .i64 f, .int .i64 t, .int .i64 p, .int .i64 l, .bool b, .bool o]] w fun e w' => e = .returned (.bool (holdsB 2 s k x f t p l b o)) ∧ Below w.heap.size w w' := by
  go_enter Try.func21, Try.ntmps21
  go_wp2_with (go_at_call 44; refine (local_any _ _ _ _ _ _ _ _ _ _).mono ?_; rintro e w1 ⟨rfl, hb1⟩; obtain ⟨hc1, hf1⟩ := bcell hb1)
  all_goals
    first
      | (exfalso; omega)
      | (go_ret; refine ⟨?_, by first | exact b_trans (b_alloc (Below.refl _ _) _) (by assumption) | exact b_alloc (Below.refl _ _) _⟩; simp_all [holdsB]; done)

set_option maxRecDepth 100000 in
set_option maxHeartbeats 16000000 in
theorem holds_3 (s : Bool) (k : Int) (x : Bool) (f t p l : Int) (b o : Bool) (w : World) :
    Calls Try.prog 21 #[.int .i64 3, .agg #[.bool s, .int .i64 k, .bool x, .int .i64 f, .int .i64 t, .int .i64 p, .int .i64 l, .bool b, .bool o]] w fun e w' => e = .returned (.bool (holdsB 3 s k x f t p l b o)) ∧ Below w.heap.size w w' := by
  go_enter Try.func21, Try.ntmps21
  go_wp2_with (go_at_call 44; refine (local_any _ _ _ _ _ _ _ _ _ _).mono ?_; rintro e w1 ⟨rfl, hb1⟩; obtain ⟨hc1, hf1⟩ := bcell hb1)
  all_goals
    first
      | (exfalso; omega)
      | (go_ret; refine ⟨?_, by first | exact b_trans (b_alloc (Below.refl _ _) _) (by assumption) | exact b_alloc (Below.refl _ _) _⟩; simp_all [holdsB]; done)

set_option maxRecDepth 100000 in
set_option maxHeartbeats 16000000 in
theorem holds_4 (s : Bool) (k : Int) (x : Bool) (f t p l : Int) (b o : Bool) (w : World) :
    Calls Try.prog 21 #[.int .i64 4, .agg #[.bool s, .int .i64 k, .bool x, .int .i64 f, .int .i64 t, .int .i64 p, .int .i64 l, .bool b, .bool o]] w fun e w' => e = .returned (.bool (holdsB 4 s k x f t p l b o)) ∧ Below w.heap.size w w' := by
  go_enter Try.func21, Try.ntmps21
  go_wp2_with (go_at_call 44; refine (local_any _ _ _ _ _ _ _ _ _ _).mono ?_; rintro e w1 ⟨rfl, hb1⟩; obtain ⟨hc1, hf1⟩ := bcell hb1)
  all_goals
    first
      | (exfalso; omega)
      | (go_ret; refine ⟨?_, by first | exact b_trans (b_alloc (Below.refl _ _) _) (by assumption) | exact b_alloc (Below.refl _ _) _⟩; simp_all [holdsB]; done)

set_option maxRecDepth 100000 in
set_option maxHeartbeats 16000000 in
theorem holds_5 (s : Bool) (k : Int) (x : Bool) (f t p l : Int) (b o : Bool) (w : World) :
    Calls Try.prog 21 #[.int .i64 5, .agg #[.bool s, .int .i64 k, .bool x, .int .i64 f, .int .i64 t, .int .i64 p, .int .i64 l, .bool b, .bool o]] w fun e w' => e = .returned (.bool (holdsB 5 s k x f t p l b o)) ∧ Below w.heap.size w w' := by
  go_enter Try.func21, Try.ntmps21
  go_wp2_with (go_at_call 44; refine (local_any _ _ _ _ _ _ _ _ _ _).mono ?_; rintro e w1 ⟨rfl, hb1⟩; obtain ⟨hc1, hf1⟩ := bcell hb1)
  all_goals
    first
      | (exfalso; omega)
      | (go_ret; refine ⟨?_, by first | exact b_trans (b_alloc (Below.refl _ _) _) (by assumption) | exact b_alloc (Below.refl _ _) _⟩; simp_all [holdsB]; done)

set_option maxRecDepth 100000 in
set_option maxHeartbeats 16000000 in
theorem holds_6 (s : Bool) (k : Int) (x : Bool) (f t p l : Int) (b o : Bool) (w : World) :
    Calls Try.prog 21 #[.int .i64 6, .agg #[.bool s, .int .i64 k, .bool x, .int .i64 f, .int .i64 t, .int .i64 p, .int .i64 l, .bool b, .bool o]] w fun e w' => e = .returned (.bool (holdsB 6 s k x f t p l b o)) ∧ Below w.heap.size w w' := by
  go_enter Try.func21, Try.ntmps21
  go_wp2_with (go_at_call 44; refine (local_any _ _ _ _ _ _ _ _ _ _).mono ?_; rintro e w1 ⟨rfl, hb1⟩; obtain ⟨hc1, hf1⟩ := bcell hb1)
  all_goals
    first
      | (exfalso; omega)
      | (go_ret; refine ⟨?_, by first | exact b_trans (b_alloc (Below.refl _ _) _) (by assumption) | exact b_alloc (Below.refl _ _) _⟩; simp_all [holdsB]; done)

set_option maxRecDepth 100000 in
set_option maxHeartbeats 16000000 in
theorem holds_7 (s : Bool) (k : Int) (x : Bool) (f t p l : Int) (b o : Bool) (w : World) :
    Calls Try.prog 21 #[.int .i64 7, .agg #[.bool s, .int .i64 k, .bool x, .int .i64 f, .int .i64 t, .int .i64 p, .int .i64 l, .bool b, .bool o]] w fun e w' => e = .returned (.bool (holdsB 7 s k x f t p l b o)) ∧ Below w.heap.size w w' := by
  go_enter Try.func21, Try.ntmps21
  go_wp2_with (go_at_call 44; refine (local_any _ _ _ _ _ _ _ _ _ _).mono ?_; rintro e w1 ⟨rfl, hb1⟩; obtain ⟨hc1, hf1⟩ := bcell hb1)
  all_goals
    first
      | (exfalso; omega)
      | (go_ret; refine ⟨?_, by first | exact b_trans (b_alloc (Below.refl _ _) _) (by assumption) | exact b_alloc (Below.refl _ _) _⟩; simp_all [holdsB]; done)

end Go.Proofs.Ytejmbnahdkgpmaa
