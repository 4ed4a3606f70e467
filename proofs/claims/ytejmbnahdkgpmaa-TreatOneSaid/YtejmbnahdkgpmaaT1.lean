import Derived.Test.YtejmbnahdkgpmaaRows
import Derived.WalkKit
import Derived.WalkSpells
import Derived.WalkLawsBesides
namespace Go.Proofs.Ytejmbnahdkgpmaa
set_option linter.unusedVariables false
set_option linter.unusedSimpArgs false
open Go.RowKit

def cv (s : Bool) (k : Int) (x : Bool) (f t p l : Int) (b o : Bool) : Value := .agg #[.bool s, .int .i64 k, .bool x, .int .i64 f, .int .i64 t, .int .i64 p, .int .i64 l, .bool b, .bool o]

def farS (b o : Bool) (n : Int) : Int := if b = true then n else if o = true then 8 else 9

set_option maxHeartbeats 400000 in
theorem far_any (s : Bool) (k : Int) (x : Bool) (f t p l : Int) (b o : Bool) (n : Int) (w : World) :
    Calls Try.prog 56 #[.agg #[.bool s, .int .i64 k, .bool x, .int .i64 f, .int .i64 t, .int .i64 p, .int .i64 l, .bool b, .bool o], .int .i64 n] w fun e w' => e = .returned (.int .i64 (farS b o n)) ∧ Below w.heap.size w w' := by
  go_enter Try.func56, Try.ntmps56
  cases b <;> cases o
  all_goals
    go_wp2
    go_ret
    exact ⟨rfl, (Below.refl _ _).alloc (Nat.le_refl _) _⟩

end Go.Proofs.Ytejmbnahdkgpmaa
