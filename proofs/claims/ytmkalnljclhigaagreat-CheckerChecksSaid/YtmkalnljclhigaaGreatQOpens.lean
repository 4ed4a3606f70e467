/-
  What a value that came in says of a kind (the print's kinds: Kd): read off the row's own reading (trod), kind by kind.
-/
import Derived.Test.YtmkalnljclhigaaGreatQWWords
import Derived.ProofKit
import Derived.OpenShut
import Derived.ChangeOld
import Derived.SizedLaws
import Derived.Deep.Slices
import Derived.Lib.SmallJoins
namespace Go.Proofs.YtmkalnljclhigaaGreat.Opens
set_option linter.unusedVariables false
set_option linter.unusedSimpArgs false
set_option linter.unnecessarySimpa false
open Go.RowKit Go.Proofs.YtmkalnljclhigaaGreatW.PrintWords Go.ChangeShapes Go.WideShapes Go.ChangeAt Go.Deep

/-- At fuel n: cells that are read at type t are of the kind d, and g holds of what they say. -/
def Op {α : Type} (P : Program) (n : Nat) (t : TypeId) (d : Kd α) (g : α → Prop) : Prop :=
  ∀ {H : Type} {enc : TypeId × Value → H} {w : World} {base : Nat} {held : Bool} {cs : List Value} {x : DataW H × List MemPlace},
    DataW.trod enc P w base (fun _ => true) held n t cs = some x → ∃ v, d.K w v cs ∧ g v

theorem Op.int {P : Program} {n : Nat} {t : TypeId} {k : IntKind} (ht : P.underlying t = some (.int k)) : Op P n t (Kd.int k) (fun v => (Lit.int k v).wf = true) := by
  intro H enc w base held cs x h
  obtain ⟨v, h1, _, h2⟩ := DataW.trod_int ht h
  exact ⟨v, h1, h2⟩

theorem cells_get {w : World} {base n : Nat} {a : Addr} {cs : List Value} (h : w.cells? base a n = some cs) : cs.length = n ∧ ∀ i u, cs[i]? = some u → w.cell? (a.add i) = some u := by
  obtain ⟨_, h1, h2⟩ := World.cells?_some h
  refine ⟨h1, fun i u hu => ?_⟩
  have hi : i < n := by
    rw [← h1]
    exact (List.getElem?_eq_some_iff.1 hu).1
  rw [h2 i hi]
  exact hu

end Go.Proofs.YtmkalnljclhigaaGreat.Opens
