/-
  checker: the boxes' places (a map).
-/
import Derived.Test.YtepddfkdjdklnaaQCh17
import Derived.Maps.OwnSet
import Derived.Maps.OwnOps
import Derived.Maps.Views
import Derived.Maps.AppendAt
namespace Go.Proofs.Ytepddfkdjdklnaa.Ch
set_option linter.unusedVariables false
set_option linter.unusedSimpArgs false
set_option linter.unnecessarySimpa false
open Go.RowKit Go.Maps Go.Proofs.YtepddfkdjdklnaaK Go.Proofs.Ytepddfkdjdklnaa.PCheckerOrder Go.Proofs.YtepddfkdjdklnaaW.PrintWords Go.Proofs.YtepddfkdjdklnaaW.PrintLast

theorem lawI : Keyed Try.prog 3 := int_keyed Try.underlying3
theorem zeroI (w : World) : (zeroValue 3).run Try.prog w = .ok (.int .i64 0) w := by kernel_rfl
/-- At m lies a map: T its values (0 where it has none), K its keys. -/
def Pl (w : World) (m n : Nat) (T : Int → Int) (K : Int → Bool) : Prop := ∃ D : DataW Unit, w.ownsMap Try.prog 3 (plainElem Try.prog 3) m n D ∧ IsMap D ∧ (∀ y, (Lit.int .i64 y).wf = true → D.atKey (.int .i64 y) (.lit (.int .i64 0)) = .lit (.int .i64 (T y))) ∧ ∀ y, (Lit.int .i64 y).wf = true → has D (.int .i64 y) = K y
theorem Pl.below {w w1 : World} {m n : Nat} {T : Int → Int} {K : Int → Bool} (h : Pl w m n T K) (hb : Below w.heap.size w w1) : Pl w1 m n T K := by
  obtain ⟨D, ho, hi, hD⟩ := h
  obtain ⟨es, clock, hm, hF, hs, hd⟩ := ho
  exact ⟨D, ⟨es, clock, block_on hb hm, hF, hs, hd⟩, hi, hD⟩
theorem Pl.made (w : World) : Pl (w.alloc (.map #[] 0)) w.heap.size 0 (fun _ => 0) (fun _ => false) := ⟨.map [], World.ownsMap_made _ _ _ _, isMap_empty, fun y _ => rfl, fun y _ => rfl⟩
theorem Pl.look {w : World} {m n : Nat} {T : Int → Int} {K : Int → Bool} (h : Pl w m n T K) (y : Int) (hy : (Lit.int .i64 y).wf = true) :
    (Instr.lookup 33 (.map (some m)) (.int .i64 y) true).run Try.prog w = .ok (.tuple #[.int .i64 (T y), .bool (K y)]) w := by
  obtain ⟨D, ho, hi, hD, hK⟩ := h
  obtain ⟨c, hrun, hat, _⟩ := ho.lookup_int (t := 33) lawI Try.underlying33 Try.underlying3 (zeroI _) (keyOf_int_mk Try.underlying3 hy)
  obtain ⟨v, ps, hrun2, hv⟩ := World.ownsMap.look_ok (t := 33) ho lawI Try.underlying33 (zeroI _) (plainElem_int Try.underlying3 (by decide)) (keyOf_int_mk Try.underlying3 hy)
  obtain ⟨c2, rfl, hc, hwc⟩ := plainElem_int_inv Try.underlying3 hv
  simp only [Prod.mk.injEq] at hc
  rw [hD y hy] at hc
  have : T y = c2 := by simpa using hc.1
  rw [this, ← hK y hy]
  exact hrun2
theorem Pl.put {w : World} {m n : Nat} {T : Int → Int} {K : Int → Bool} (h : Pl w m n T K) (hn : n < maxLen) (y v : Int) (hy : (Lit.int .i64 y).wf = true) (hv : (Lit.int .i64 v).wf = true) :
    ∃ w1, (Instr.mapUpdate 33 (.map (some m)) (.int .i64 y) (.int .i64 v)).run Try.prog w = .ok () w1 ∧ Pl w1 m (n + 1) (fun z => if z = y then v else T z) (fun z => if z = y then true else K z) ∧ w.grownBy w1 (some m) := by
  obtain ⟨D, ho, hi, hD, hK⟩ := h
  obtain ⟨w5, hrun, ho5, hg5⟩ := World.ownsMap.update (t := 33) ho lawI Try.underlying33 hn (keyOf_int_mk Try.underlying3 hy) (plainElem_int Try.underlying3 hv)
  refine ⟨w5, hrun, ⟨_, ho5, hi.put _ _, fun z hz => ?_, fun z hz => ?_⟩, hg5⟩
  · dsimp only
    by_cases e : z = y
    · subst e
      rw [if_pos rfl, atKey_put_same hi (by simp [WideAt.IsKeyLit])]
    · rw [if_neg e, atKey_put_other (by simpa using e), hD z hz]
  · dsimp only
    by_cases e : z = y
    · subst e
      rw [if_pos rfl, has_put_same hi (by simp [WideAt.IsKeyLit])]
    · rw [if_neg e, has_put_other (by simpa using e), hK z hz]
end Go.Proofs.Ytepddfkdjdklnaa.Ch
