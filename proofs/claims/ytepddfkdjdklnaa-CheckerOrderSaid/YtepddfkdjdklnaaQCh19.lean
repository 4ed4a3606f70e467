/-
  checker: find.
-/
import Derived.Test.YtepddfkdjdklnaaQCh18
namespace Go.Proofs.Ytepddfkdjdklnaa.Ch
set_option linter.unusedVariables false
set_option linter.unusedSimpArgs false
set_option linter.unnecessarySimpa false
open Go.RowKit Go.Maps Go.Proofs.YtepddfkdjdklnaaK Go.Proofs.Ytepddfkdjdklnaa.PCheckerOrder Go.Proofs.YtepddfkdjdklnaaW.PrintWords Go.Proofs.YtepddfkdjdklnaaW.PrintLast

def nums (l : List S43) : List Int := l.map fun x => x.f0
/-- Where each number of ns is, from k on (0 where it is not). -/
def tOf : List Int → Int → Int
  | [], _ => 0
  | n :: ns, y => if n = y then 0 else if y ∈ ns then 1 + tOf ns y else 0
def kOf (ns : List Int) (y : Int) : Bool := decide (y ∈ ns)
theorem kOf_snoc (ns : List Int) (n : Int) : kOf (ns ++ [n]) = fun z => if z = n then true else kOf ns z := by
  funext z
  unfold kOf
  by_cases e : z = n
  · simp [e]
  · simp [e]
theorem tOf_snoc : ∀ (ns : List Int) (n : Int), n ∉ ns → tOf (ns ++ [n]) = fun z => if z = n then (ns.length : Int) else tOf ns z
  | [], n, _ => by
    funext z
    by_cases e : z = n
    · subst e; simp [tOf]
    · simp [tOf, e, Ne.symm e]
  | m :: ns, n, h => by
    have hn : n ∉ ns := fun e => h (List.mem_cons_of_mem _ e)
    have hm : m ≠ n := fun e => h (by rw [e]; exact List.mem_cons_self)
    have ih := tOf_snoc ns n hn
    funext z
    rw [List.cons_append, tOf, ih]
    by_cases e : z = n
    · subst e
      simp [hm]; omega
    · by_cases e2 : m = z
      · simp [tOf, e2, e]
      · simp [tOf, e2, e]
def FindP (w0 : World) (p m : Nat) (pc : Array Value) (l : List S43) (e : Ending) (w' : World) : Prop :=
  Below w0.heap.size w0 w' ∧ w'.heap[p]? = some (.cells pc 36 (0, 0)) ∧ (((nums l).Nodup ∧ e = .returned (.int .i64 0) ∧ Pl w' m l.length (tOf (nums l)) (kOf (nums l))) ∨ (¬ (nums l).Nodup ∧ e = .returned (.int .i64 51)))
end Go.Proofs.Ytepddfkdjdklnaa.Ch
