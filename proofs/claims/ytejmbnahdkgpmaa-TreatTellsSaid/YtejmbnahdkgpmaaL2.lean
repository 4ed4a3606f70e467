import Derived.Test.YtejmbnahdkgpmaaL1
namespace Go.Proofs.Ytejmbnahdkgpmaa
set_option linter.unusedVariables false
set_option linter.unusedSimpArgs false
open Go.RowKit Go.Proofs.YtejmbnahdkgpmaaK

def couB (T E : Int) : Bool := decide (E = 0 ∧ (T = 8 ∨ T = 9))

set_option maxRecDepth 100000 in
set_option maxHeartbeats 4000000 in
theorem cou_any (s : Bool) (k : Int) (x : Bool) (f t p l : Int) (b o : Bool) (w : World) :
    Calls Try.prog 28 #[.agg #[.bool s, .int .i64 k, .bool x, .int .i64 f, .int .i64 t, .int .i64 p, .int .i64 l, .bool b, .bool o]] w fun e w' => e = .returned (.bool (couB (ofS s k x f t p l b o) (ofE k f t p l))) ∧ Below w.heap.size w w' := by
  have h0 := fun wx => of_any s k x f t p l b o wx
  generalize ofS s k x f t p l b o = T at *
  generalize ofE k f t p l = E at *
  have H0 := Lib.hid h0
  clear h0
  go_enter Try.func28, Try.ntmps28
  go_wp2_with (go_at_call 16; refine (H0.out _).mono ?_; rintro e w1 ⟨rfl, hb1⟩; have HB1 := Lib.hid hb1; clear hb1)
  all_goals
    go_ret
    refine ⟨ret_b ?_, b_trans (b_alloc (Below.refl _ _) _) HB1.out⟩
    simp only [couB, Bool.or_eq_true, Bool.and_eq_true, beq_iff_eq, Bool.false_eq_true, true_iff, false_iff, decide_eq_true_eq, beq_eq_false_iff_ne] at *
    try omega

-- what stays of a case's treatment where the threshold turns
theorem blind1 (s : Bool) (k : Int) (x : Bool) (f t p l : Int) (b o : Bool) :
    (ofS s k x f t p l b o != ofS s k x f t p l b (!o) && ofS s k x f t p l b o + ofS s k x f t p l b (!o) != 17) = false := by
  unfold ofS soldS boughtS farS byS
  cases mayB k f t p l <;> cases x <;> cases s <;> cases o <;> simp <;> (repeat' split) <;> simp_all
theorem blind2 (s : Bool) (k : Int) (x : Bool) (b o : Bool) : ofS s k x 0 0 0 0 (!b) o = ofS s k x 0 0 0 0 b o := by
  unfold ofS soldS boughtS farS byS
  cases x <;> cases s <;> cases b <;> simp <;> (repeat' split) <;> simp_all
theorem ofS_bd (s : Bool) (k : Int) (x : Bool) (f t p l : Int) (b o : Bool) : 0 ≤ ofS s k x f t p l b o ∧ ofS s k x f t p l b o ≤ 14 := by
  unfold ofS soldS boughtS farS byS
  constructor <;> repeat' (first | omega | split)

end Go.Proofs.Ytejmbnahdkgpmaa
