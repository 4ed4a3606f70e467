import Derived.Test.YtejmbnahdkgpmaaT3
import Derived.BigGuardPart
import Derived.Lib.Hide
namespace Go.Proofs.Ytejmbnahdkgpmaa
set_option linter.unusedVariables false
set_option linter.unusedSimpArgs false
open Go.RowKit

set_option maxRecDepth 100000 in
set_option maxHeartbeats 16000000 in
theorem holds_10_f (k : Int) (f t p l : Int) (b o : Bool) (w : World) :
    Calls Try.prog 21 #[.int .i64 10, .agg #[.bool false, .int .i64 k, .bool false, .int .i64 f, .int .i64 t, .int .i64 p, .int .i64 l, .bool b, .bool o]] w fun e w' => e = .returned (.bool (holdsB 10 false k false f t p l b o)) ∧ Below w.heap.size w w' := by
  go_enter Try.func21, Try.ntmps21
  go_wp2_with (first
    | (go_at_call 44; refine (local_any _ _ _ _ _ _ _ _ _ _).mono ?_; rintro e w2 ⟨rfl, hb2⟩; have HB2 := Lib.hid (b_trans HB1.out hb2); obtain ⟨hc2, hf2⟩ := bcell HB2.out; clear hb2)
    | (go_at_call 44; refine (local_any _ _ _ _ _ _ _ _ _ _).mono ?_; rintro e w1 ⟨rfl, hb1⟩; obtain ⟨hc1, hf1⟩ := bcell hb1; have HB1 := Lib.hid hb1; clear hb1))
  all_goals
    first
      | (exfalso; omega)
      | (go_ret; refine ⟨?_, by first | exact b_trans (b_alloc (Below.refl _ _) _) HB2.out | exact b_trans (b_alloc (Below.refl _ _) _) HB1.out | exact b_alloc (Below.refl _ _) _⟩; first | (simp_all [holdsB]; done) | (cases b <;> simp_all [holdsB] <;> done))

end Go.Proofs.Ytejmbnahdkgpmaa
