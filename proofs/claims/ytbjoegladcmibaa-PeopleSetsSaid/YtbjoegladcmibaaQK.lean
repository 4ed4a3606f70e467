import Derived.Test.YtbjoegladcmibaaRows
import Derived.WalkKit
import Derived.WalkSpells
import Derived.WalkLawsBesides
import Derived.Handy
import Derived.Lib.Hide
import Derived.Deep.QuietTactic
import Derived.BigQuiet
/-! Small words of this session's own: 'Below' chained; a region that draws its order and whose callees make memory, walked once. -/
namespace Go.Proofs.YtbjoegladcmibaaK
set_option linter.unusedVariables false
set_option linter.unusedSimpArgs false
open Go.RowKit

theorem s_trans {w w1 w2 : World} (h : Below w.heap.size w w1) (k : Below w1.heap.size w1 w2) : Below w.heap.size w w2 :=
  h.trans ⟨k.os, k.tape, k.output, k.size, fun i hi => k.block i (Nat.lt_of_lt_of_le hi h.size)⟩
theorem s_drew {B : Nat} {w W : World} (h : Below B w W) : Below B w W.drew := ⟨h.os, h.tape, h.output, h.size, h.block⟩

/-- The worlds that are w below its own blocks. -/
structure Sub (w : World) where
  val : World
  property : Below w.heap.size w val
instance sub_nonempty (w : World) : Nonempty (Sub w) := ⟨⟨w, Below.refl _ _⟩⟩

theorem calls_sub {P : Program} {f : FuncId} {args : Array Value} {w : World} {u : Sub w} {v : Value}
    (h : Calls P f args u.val fun e w' => e = .returned v ∧ Below u.val.heap.size u.val w') : Calls P f args u.val fun e w'' => e = .returned v ∧ ∃ u' : Sub w, w'' = u'.val :=
  h.mono fun _ w' ⟨he, hb⟩ => ⟨he, ⟨w', s_trans u.property hb⟩, rfl⟩

theorem wp_region_sub {P : Program} {id : Nat} {Q : Exit → Act → World → Prop} {a : Act} {w : World} {l : List Oper} (hm : P.follows .mixedOrders = true) (hB : Region.lexB .any l.toArray = true)
    (h : wpQuiet P l.toArray (fun w' => ∃ u : Sub w, w' = u.val) (fun a' => ∀ w', (∃ u : Sub w, w' = u.val) → Q .normal a' w') l a) : (Code.region id l.toArray true).wp P Q a w :=
  wp_region_quiet (C := fun w' => ∃ u : Sub w, w' = u.val) hm hB ⟨⟨_, s_drew (Below.refl w.heap.size w)⟩, rfl⟩ (by simpa using h)

end Go.Proofs.YtbjoegladcmibaaK
