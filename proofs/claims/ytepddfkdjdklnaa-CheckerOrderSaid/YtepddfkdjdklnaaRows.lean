/-
  NARROWER THAN 'FOR EVERY INPUT', by the rows' own cells (each row's printed sentence says how): CheckerOrder: loops.
  DERIVED. THE GIVEN ROWS OF THIS SEAT. 2 by the template 'for every input the law returns true; each argument reads behind the call as it read before'; 0 by the template 'total and deterministic' (their statements: YtepddfkdjdklnaaTotals.lean).
  GIVEN WITH THE SEED: the statements are not yours to turn. If you find one false, say at which input.
  Laid BY PROGRAM, IN A SANDBOX (cutbox-rows.mjs): the forced cells as the released guide's own fill.sh prints them over the translation ec8663208e3f6db0… (all of the seat's roots in one cut). By AI agents, Wed Nov 11 2026. No macro, syntax, notation, axiom, sorry.
-/
import Derived.Test.YtepddfkdjdklnaaChecked
import GoSem.Claim
import GoSem.ClaimJoined
import GoSem.ClaimMapViews
import Derived.JoinedTies
import Derived.KernelRfl
namespace Go.Proofs.Ytepddfkdjdklnaa
/- THE CELL 'sum', in the pinned program and in every row, IS THE sha256 OF THE DUMP (.gsa) THAT YtepddfkdjdklnaaProg.lean LOADS. Nothing in Lean hashes anything: it is a label: what it is worth is what the hold of that sum in a sandbox is worth. -/
noncomputable def Try.pinned : Pinned := { name := "ytepddfkdjdklnaa", sum := "ec8663208e3f6db0ba6e8e7d9e18d8b4ae3bcc2daa13184140a2b5248551ef6e", checked := Try.checked }
namespace Rows
def none {H : Type} : Left H := { results := [], args := [] }

/-- 'octroilaw33.CheckerOrder': WHATEVER THE INPUT: true; the input reads as it did. -/
def checkerOrderSpec : ChangeSpec := { name := "checkerOrder", fn := fun _ => fun
  | [d] => { results := [.lit (.bool true)], args := [d] }
  | _ => none }
def checkerOrderRow : OpenClaim := { program := "ytepddfkdjdklnaa", sum := "ec8663208e3f6db0ba6e8e7d9e18d8b4ae3bcc2daa13184140a2b5248551ef6e", func := "octroi/octroilaw33.CheckerOrder", spec := "checkerOrder", unfollowed := true, recurses := true, loops := true, apart := false }
def CheckerOrderSaid : Prop := checkerOrderRow.holds Try.pinned (OpenSpec.ofChange checkerOrderSpec)

/-- ITS FALSE NEIGHBOUR: 'it returns false'. Refute it at one input. -/
def checkerOrderWrong : ChangeSpec := { name := "checkerOrder", fn := fun _ => fun
  | [d] => { results := [.lit (.bool false)], args := [d] }
  | _ => none }
def CheckerOrderWrongFalsely : Prop := checkerOrderRow.holds Try.pinned (OpenSpec.ofChange checkerOrderWrong)

/-- 'octroilaw33.CheckerNobody': WHATEVER THE INPUT: true; the input reads as it did. -/
def checkerNobodySpec : ChangeSpec := { name := "checkerNobody", fn := fun _ => fun
  | [d] => { results := [.lit (.bool true)], args := [d] }
  | _ => none }
def checkerNobodyRow : OpenClaim := { program := "ytepddfkdjdklnaa", sum := "ec8663208e3f6db0ba6e8e7d9e18d8b4ae3bcc2daa13184140a2b5248551ef6e", func := "octroi/octroilaw33.CheckerNobody", spec := "checkerNobody", unfollowed := true, recurses := true, apart := false }
def CheckerNobodySaid : Prop := checkerNobodyRow.holds Try.pinned (OpenSpec.ofChange checkerNobodySpec)

/-- ITS FALSE NEIGHBOUR: 'it returns false'. Refute it at one input. -/
def checkerNobodyWrong : ChangeSpec := { name := "checkerNobody", fn := fun _ => fun
  | [d] => { results := [.lit (.bool false)], args := [d] }
  | _ => none }
def CheckerNobodyWrongFalsely : Prop := checkerNobodyRow.holds Try.pinned (OpenSpec.ofChange checkerNobodyWrong)

/- THE SECOND FORM. 'bulk': how many values and letters a reading holds, each counted each time it is reached (what is shared counts as often as it is met; a slice's spare places count too). A statement '..UptoSaid' is the law's where the arguments, and the package variables that the reading takes, are together of bulk at most 1048576: NARROWER than '..Said'. Prove '..Said' where nothing that the law and all that it calls make is longer than what came in: it says more and counts as full. Else prove '..UptoSaid'. A law counts once. -/
mutual
def uptoBulk {H : Type} : DataW H → Nat
  | .lit (.string bytes) => bytes.length + 1
  | .lit _ => 1
  | .nil => 1
  | .ptr d => uptoBulk d + 1
  | .slice elems spare => uptoBulkAll elems + uptoBulkAll spare + 1
  | .agg parts => uptoBulkAll parts + 1
  | .iface _ d => uptoBulk d + 1
  | .map entries => uptoBulkEntries entries + 1
  | .held _ => 1
def uptoBulkAll {H : Type} : List (DataW H) → Nat
  | [] => 0
  | d :: r => uptoBulk d + uptoBulkAll r
def uptoBulkEntries {H : Type} : List (Lit × DataW H) → Nat
  | [] => 0
  | x :: r => uptoBulkEntry x + uptoBulkEntries r
def uptoBulkEntry {H : Type} : Lit × DataW H → Nat
  | (.string bytes, d) => bytes.length + uptoBulk d + 1
  | (_, d) => uptoBulk d + 1
 end
def uptoSmall : (H : Type) → List (DataW H) → Bool := fun _ ds => decide (uptoBulkAll ds ≤ 1048576)
def OpenSpec.upto (s : _root_.Go.ChangeSpec) : _root_.Go.OpenSpec := { _root_.Go.OpenSpec.ofChange s with cond := some uptoSmall }

/-- 'octroilaw33.CheckerOrder', WHERE WHAT IT READS IS OF BULK AT MOST 1048576: true; the input reads as it did. -/
def checkerOrderUptoRow : OpenClaim := { program := "ytepddfkdjdklnaa", sum := "ec8663208e3f6db0ba6e8e7d9e18d8b4ae3bcc2daa13184140a2b5248551ef6e", func := "octroi/octroilaw33.CheckerOrder", spec := "checkerOrder", unfollowed := true, recurses := true, loops := true, apart := false, narrowed := true }
def CheckerOrderUptoSaid : Prop := checkerOrderUptoRow.holds Try.pinned (OpenSpec.upto checkerOrderSpec)

/-- 'octroilaw33.CheckerNobody', WHERE WHAT IT READS IS OF BULK AT MOST 1048576: true; the input reads as it did. -/
def checkerNobodyUptoRow : OpenClaim := { program := "ytepddfkdjdklnaa", sum := "ec8663208e3f6db0ba6e8e7d9e18d8b4ae3bcc2daa13184140a2b5248551ef6e", func := "octroi/octroilaw33.CheckerNobody", spec := "checkerNobody", unfollowed := true, recurses := true, apart := false, narrowed := true }
def CheckerNobodyUptoSaid : Prop := checkerNobodyUptoRow.holds Try.pinned (OpenSpec.upto checkerNobodySpec)

end Rows
end Go.Proofs.Ytepddfkdjdklnaa
