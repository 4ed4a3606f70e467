import Derived.Test.YtejmbnahdkgpmaaTH1
import Derived.Test.YtejmbnahdkgpmaaTH2
import Derived.Test.YtejmbnahdkgpmaaTH3
import Derived.Test.YtejmbnahdkgpmaaTH4
import Derived.Test.YtejmbnahdkgpmaaTH5
import Derived.Test.YtejmbnahdkgpmaaTH6
import Derived.Test.YtejmbnahdkgpmaaTH7
namespace Go.Proofs.Ytejmbnahdkgpmaa
set_option linter.unusedVariables false
set_option linter.unusedSimpArgs false
open Go.RowKit

theorem holds_any (n : Int) (s : Bool) (k : Int) (x : Bool) (f t p l : Int) (b o : Bool) (w : World) (h1 : 1 ≤ n) (h2 : n ≤ 14) :
    Calls Try.prog 21 #[.int .i64 n, .agg #[.bool s, .int .i64 k, .bool x, .int .i64 f, .int .i64 t, .int .i64 p, .int .i64 l, .bool b, .bool o]] w fun e w' => e = .returned (.bool (holdsB n s k x f t p l b o)) ∧ Below w.heap.size w w' := by
  have h : n = 1 ∨ n = 2 ∨ n = 3 ∨ n = 4 ∨ n = 5 ∨ n = 6 ∨ n = 7 ∨ n = 8 ∨ n = 9 ∨ n = 10 ∨ n = 11 ∨ n = 12 ∨ n = 13 ∨ n = 14 := by omega
  rcases h with rfl | rfl | rfl | rfl | rfl | rfl | rfl | rfl | rfl | rfl | rfl | rfl | rfl | rfl
  · exact holds_1 _ _ _ _ _ _ _ _ _ _
  · exact holds_2 _ _ _ _ _ _ _ _ _ _
  · exact holds_3 _ _ _ _ _ _ _ _ _ _
  · exact holds_4 _ _ _ _ _ _ _ _ _ _
  · exact holds_5 _ _ _ _ _ _ _ _ _ _
  · exact holds_6 _ _ _ _ _ _ _ _ _ _
  · exact holds_7 _ _ _ _ _ _ _ _ _ _
  · exact holds_8 _ _ _ _ _ _ _ _ _ _
  · exact holds_9 _ _ _ _ _ _ _ _ _ _
  · cases x
    · cases s
      · exact holds_10_f _ _ _ _ _ _ _ _
      · exact holds_10_t _ _ _ _ _ _ _ _
    · cases s
      · exact holds_10_xf _ _ _ _ _ _ _ _
      · exact holds_10_xt _ _ _ _ _ _ _ _
  · exact holds_11 _ _ _ _ _ _ _ _ _ _
  · exact holds_12 _ _ _ _ _ _ _ _ _ _
  · exact holds_13 _ _ _ _ _ _ _ _ _ _
  · exact holds_14 _ _ _ _ _ _ _ _ _ _

end Go.Proofs.Ytejmbnahdkgpmaa
