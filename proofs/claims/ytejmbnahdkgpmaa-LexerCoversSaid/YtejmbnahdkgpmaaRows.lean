/-
  No cell of these rows narrows 'for every input' (looked for: loops, veiled, ifaces, maps, wideKeys, modest, calm, conditions, laid).
  DERIVED. THE GIVEN ROWS OF THIS SEAT. 8 by the template 'for every input the law returns true; each argument reads behind the call as it read before'; 0 by the template 'total and deterministic' (their statements: YtejmbnahdkgpmaaTotals.lean).
  GIVEN WITH THE SEED: the statements are not yours to turn. If you find one false, say at which input.
  Laid BY PROGRAM, IN A SANDBOX (cutbox-rows.mjs): the forced cells as the released guide's own fill.sh prints them over the translation 1ae4eec62675b24f… (all of the seat's roots in one cut). By AI agents, Wed Nov 11 2026. No macro, syntax, notation, axiom, sorry.
-/
import Derived.Test.YtejmbnahdkgpmaaChecked
import GoSem.Claim
import GoSem.ClaimJoined
import GoSem.ClaimMapViews
import Derived.JoinedTies
import Derived.KernelRfl
namespace Go.Proofs.Ytejmbnahdkgpmaa
/- THE CELL 'sum', in the pinned program and in every row, IS THE sha256 OF THE DUMP (.gsa) THAT YtejmbnahdkgpmaaProg.lean LOADS. Nothing in Lean hashes anything: it is a label: what it is worth is what the hold of that sum in a sandbox is worth. -/
noncomputable def Try.pinned : Pinned := { name := "ytejmbnahdkgpmaa", sum := "1ae4eec62675b24f60f8826cc6bfc1cc11573de253b0df98c2359703ca26e054", checked := Try.checked }
namespace Rows
def none {H : Type} : Left H := { results := [], args := [] }

/-- 'octroilaw19.ThresholdStays': WHATEVER THE INPUT: true; the input reads as it did. -/
def thresholdStaysSpec : ChangeSpec := { name := "thresholdStays", fn := fun _ => fun
  | [d1, d2, d3] => { results := [.lit (.bool true)], args := [d1, d2, d3] }
  | _ => none }
def thresholdStaysRow : OpenClaim := { program := "ytejmbnahdkgpmaa", sum := "1ae4eec62675b24f60f8826cc6bfc1cc11573de253b0df98c2359703ca26e054", func := "octroi/octroilaw19.ThresholdStays", spec := "thresholdStays", inPlace := ["math/bits.Add64"], unfollowed := true, recurses := true, apart := false }
def ThresholdStaysSaid : Prop := thresholdStaysRow.holds Try.pinned (OpenSpec.ofChange thresholdStaysSpec)

/-- ITS FALSE NEIGHBOUR: 'it returns false'. Refute it at one input. -/
def thresholdStaysWrong : ChangeSpec := { name := "thresholdStays", fn := fun _ => fun
  | [d1, d2, d3] => { results := [.lit (.bool false)], args := [d1, d2, d3] }
  | _ => none }
def ThresholdStaysWrongFalsely : Prop := thresholdStaysRow.holds Try.pinned (OpenSpec.ofChange thresholdStaysWrong)

/-- 'octroilaw18.TreatOf': WHATEVER THE INPUT: true; the input reads as it did. -/
def treatOfSpec : ChangeSpec := { name := "treatOf", fn := fun _ => fun
  | [d] => { results := [.lit (.bool true)], args := [d] }
  | _ => none }
def treatOfRow : OpenClaim := { program := "ytejmbnahdkgpmaa", sum := "1ae4eec62675b24f60f8826cc6bfc1cc11573de253b0df98c2359703ca26e054", func := "octroi/octroilaw18.TreatOf", spec := "treatOf", unfollowed := true, recurses := true, apart := false }
def TreatOfSaid : Prop := treatOfRow.holds Try.pinned (OpenSpec.ofChange treatOfSpec)

/-- ITS FALSE NEIGHBOUR: 'it returns false'. Refute it at one input. -/
def treatOfWrong : ChangeSpec := { name := "treatOf", fn := fun _ => fun
  | [d] => { results := [.lit (.bool false)], args := [d] }
  | _ => none }
def TreatOfWrongFalsely : Prop := treatOfRow.holds Try.pinned (OpenSpec.ofChange treatOfWrong)

/-- 'octroilaw18.TreatOne': WHATEVER THE INPUT: true; the input reads as it did. -/
def treatOneSpec : ChangeSpec := { name := "treatOne", fn := fun _ => fun
  | [d] => { results := [.lit (.bool true)], args := [d] }
  | _ => none }
def treatOneRow : OpenClaim := { program := "ytejmbnahdkgpmaa", sum := "1ae4eec62675b24f60f8826cc6bfc1cc11573de253b0df98c2359703ca26e054", func := "octroi/octroilaw18.TreatOne", spec := "treatOne", unfollowed := true, recurses := true, apart := false }
def TreatOneSaid : Prop := treatOneRow.holds Try.pinned (OpenSpec.ofChange treatOneSpec)

/-- ITS FALSE NEIGHBOUR: 'it returns false'. Refute it at one input. -/
def treatOneWrong : ChangeSpec := { name := "treatOne", fn := fun _ => fun
  | [d] => { results := [.lit (.bool false)], args := [d] }
  | _ => none }
def TreatOneWrongFalsely : Prop := treatOneRow.holds Try.pinned (OpenSpec.ofChange treatOneWrong)

/-- 'octroilaw18.TreatBlind': WHATEVER THE INPUT: true; the input reads as it did. -/
def treatBlindSpec : ChangeSpec := { name := "treatBlind", fn := fun _ => fun
  | [d] => { results := [.lit (.bool true)], args := [d] }
  | _ => none }
def treatBlindRow : OpenClaim := { program := "ytejmbnahdkgpmaa", sum := "1ae4eec62675b24f60f8826cc6bfc1cc11573de253b0df98c2359703ca26e054", func := "octroi/octroilaw18.TreatBlind", spec := "treatBlind", unfollowed := true, recurses := true, apart := false }
def TreatBlindSaid : Prop := treatBlindRow.holds Try.pinned (OpenSpec.ofChange treatBlindSpec)

/-- ITS FALSE NEIGHBOUR: 'it returns false'. Refute it at one input. -/
def treatBlindWrong : ChangeSpec := { name := "treatBlind", fn := fun _ => fun
  | [d] => { results := [.lit (.bool false)], args := [d] }
  | _ => none }
def TreatBlindWrongFalsely : Prop := treatBlindRow.holds Try.pinned (OpenSpec.ofChange treatBlindWrong)

/-- 'octroilaw18.TreatTells': WHATEVER THE INPUT: true; the input reads as it did. -/
def treatTellsSpec : ChangeSpec := { name := "treatTells", fn := fun _ => fun
  | [d1, d2] => { results := [.lit (.bool true)], args := [d1, d2] }
  | _ => none }
def treatTellsRow : OpenClaim := { program := "ytejmbnahdkgpmaa", sum := "1ae4eec62675b24f60f8826cc6bfc1cc11573de253b0df98c2359703ca26e054", func := "octroi/octroilaw18.TreatTells", spec := "treatTells", unfollowed := true, recurses := true, apart := false }
def TreatTellsSaid : Prop := treatTellsRow.holds Try.pinned (OpenSpec.ofChange treatTellsSpec)

/-- ITS FALSE NEIGHBOUR: 'it returns false'. Refute it at one input. -/
def treatTellsWrong : ChangeSpec := { name := "treatTells", fn := fun _ => fun
  | [d1, d2] => { results := [.lit (.bool false)], args := [d1, d2] }
  | _ => none }
def TreatTellsWrongFalsely : Prop := treatTellsRow.holds Try.pinned (OpenSpec.ofChange treatTellsWrong)

/-- 'octroilaw30.LexerReads': WHATEVER THE INPUT: true; the input reads as it did. -/
def lexerReadsSpec : ChangeSpec := { name := "lexerReads", fn := fun _ => fun
  | [d1, d2] => { results := [.lit (.bool true)], args := [d1, d2] }
  | _ => none }
def lexerReadsRow : OpenClaim := { program := "ytejmbnahdkgpmaa", sum := "1ae4eec62675b24f60f8826cc6bfc1cc11573de253b0df98c2359703ca26e054", func := "octroi/octroilaw30.LexerReads", spec := "lexerReads", inPlace := ["internal/bytealg.IndexByteString", "internal/abi.NoEscape"], apart := false }
def LexerReadsSaid : Prop := lexerReadsRow.holds Try.pinned (OpenSpec.ofChange lexerReadsSpec)

/-- ITS FALSE NEIGHBOUR: 'it returns false'. Refute it at one input. -/
def lexerReadsWrong : ChangeSpec := { name := "lexerReads", fn := fun _ => fun
  | [d1, d2] => { results := [.lit (.bool false)], args := [d1, d2] }
  | _ => none }
def LexerReadsWrongFalsely : Prop := lexerReadsRow.holds Try.pinned (OpenSpec.ofChange lexerReadsWrong)

/-- 'octroilaw30.LexerAgain': WHATEVER THE INPUT: true; the input reads as it did. -/
def lexerAgainSpec : ChangeSpec := { name := "lexerAgain", fn := fun _ => fun
  | [d] => { results := [.lit (.bool true)], args := [d] }
  | _ => none }
def lexerAgainRow : OpenClaim := { program := "ytejmbnahdkgpmaa", sum := "1ae4eec62675b24f60f8826cc6bfc1cc11573de253b0df98c2359703ca26e054", func := "octroi/octroilaw30.LexerAgain", spec := "lexerAgain", inPlace := ["internal/bytealg.IndexByteString", "internal/abi.NoEscape"], apart := false }
def LexerAgainSaid : Prop := lexerAgainRow.holds Try.pinned (OpenSpec.ofChange lexerAgainSpec)

/-- ITS FALSE NEIGHBOUR: 'it returns false'. Refute it at one input. -/
def lexerAgainWrong : ChangeSpec := { name := "lexerAgain", fn := fun _ => fun
  | [d] => { results := [.lit (.bool false)], args := [d] }
  | _ => none }
def LexerAgainWrongFalsely : Prop := lexerAgainRow.holds Try.pinned (OpenSpec.ofChange lexerAgainWrong)

/-- 'octroilaw30.LexerCovers': WHATEVER THE INPUT: true; the input reads as it did. -/
def lexerCoversSpec : ChangeSpec := { name := "lexerCovers", fn := fun _ => fun
  | [d] => { results := [.lit (.bool true)], args := [d] }
  | _ => none }
def lexerCoversRow : OpenClaim := { program := "ytejmbnahdkgpmaa", sum := "1ae4eec62675b24f60f8826cc6bfc1cc11573de253b0df98c2359703ca26e054", func := "octroi/octroilaw30.LexerCovers", spec := "lexerCovers", inPlace := ["internal/bytealg.IndexByteString", "internal/abi.NoEscape"], apart := false }
def LexerCoversSaid : Prop := lexerCoversRow.holds Try.pinned (OpenSpec.ofChange lexerCoversSpec)

/-- ITS FALSE NEIGHBOUR: 'it returns false'. Refute it at one input. -/
def lexerCoversWrong : ChangeSpec := { name := "lexerCovers", fn := fun _ => fun
  | [d] => { results := [.lit (.bool false)], args := [d] }
  | _ => none }
def LexerCoversWrongFalsely : Prop := lexerCoversRow.holds Try.pinned (OpenSpec.ofChange lexerCoversWrong)

/- THE SECOND FORM. 'bulk': how many values and letters a reading holds, each counted each time it is reached (what is shared counts as often as it is met; a slice's spare places count too). A statement '..UptoSaid' is the law's where the arguments, and the package variables that the reading takes, are together of bulk at most 1048576: NARROWER than '..Said'. Prove '..Said' where nothing that the law and all that it calls make is longer than what came in: it says more and counts as full. Else prove '..UptoSaid'. A law counts once. -/
mutual
def uptoBulk {H : Type} : DataW H → Nat
  | .lit (.string bytes) => bytes.length + 1
  | .lit _ => 1
  | .nil => 1
  | .ptr d => uptoBulk d + 1
  | .slice elems spare => uptoBulkAll elems + uptoBulkAll spare + 1
  | .agg parts => uptoBulkAll parts + 1
  | .iface _ d => uptoBulk d + 1
  | .map entries => uptoBulkEntries entries + 1
  | .held _ => 1
def uptoBulkAll {H : Type} : List (DataW H) → Nat
  | [] => 0
  | d :: r => uptoBulk d + uptoBulkAll r
def uptoBulkEntries {H : Type} : List (Lit × DataW H) → Nat
  | [] => 0
  | x :: r => uptoBulkEntry x + uptoBulkEntries r
def uptoBulkEntry {H : Type} : Lit × DataW H → Nat
  | (.string bytes, d) => bytes.length + uptoBulk d + 1
  | (_, d) => uptoBulk d + 1
 end
def uptoSmall : (H : Type) → List (DataW H) → Bool := fun _ ds => decide (uptoBulkAll ds ≤ 1048576)
def OpenSpec.upto (s : _root_.Go.ChangeSpec) : _root_.Go.OpenSpec := { _root_.Go.OpenSpec.ofChange s with cond := some uptoSmall }

/-- 'octroilaw19.ThresholdStays', WHERE WHAT IT READS IS OF BULK AT MOST 1048576: true; the input reads as it did. -/
def thresholdStaysUptoRow : OpenClaim := { program := "ytejmbnahdkgpmaa", sum := "1ae4eec62675b24f60f8826cc6bfc1cc11573de253b0df98c2359703ca26e054", func := "octroi/octroilaw19.ThresholdStays", spec := "thresholdStays", inPlace := ["math/bits.Add64"], unfollowed := true, recurses := true, apart := false, narrowed := true }
def ThresholdStaysUptoSaid : Prop := thresholdStaysUptoRow.holds Try.pinned (OpenSpec.upto thresholdStaysSpec)

/-- 'octroilaw18.TreatOf', WHERE WHAT IT READS IS OF BULK AT MOST 1048576: true; the input reads as it did. -/
def treatOfUptoRow : OpenClaim := { program := "ytejmbnahdkgpmaa", sum := "1ae4eec62675b24f60f8826cc6bfc1cc11573de253b0df98c2359703ca26e054", func := "octroi/octroilaw18.TreatOf", spec := "treatOf", unfollowed := true, recurses := true, apart := false, narrowed := true }
def TreatOfUptoSaid : Prop := treatOfUptoRow.holds Try.pinned (OpenSpec.upto treatOfSpec)

/-- 'octroilaw18.TreatOne', WHERE WHAT IT READS IS OF BULK AT MOST 1048576: true; the input reads as it did. -/
def treatOneUptoRow : OpenClaim := { program := "ytejmbnahdkgpmaa", sum := "1ae4eec62675b24f60f8826cc6bfc1cc11573de253b0df98c2359703ca26e054", func := "octroi/octroilaw18.TreatOne", spec := "treatOne", unfollowed := true, recurses := true, apart := false, narrowed := true }
def TreatOneUptoSaid : Prop := treatOneUptoRow.holds Try.pinned (OpenSpec.upto treatOneSpec)

/-- 'octroilaw18.TreatBlind', WHERE WHAT IT READS IS OF BULK AT MOST 1048576: true; the input reads as it did. -/
def treatBlindUptoRow : OpenClaim := { program := "ytejmbnahdkgpmaa", sum := "1ae4eec62675b24f60f8826cc6bfc1cc11573de253b0df98c2359703ca26e054", func := "octroi/octroilaw18.TreatBlind", spec := "treatBlind", unfollowed := true, recurses := true, apart := false, narrowed := true }
def TreatBlindUptoSaid : Prop := treatBlindUptoRow.holds Try.pinned (OpenSpec.upto treatBlindSpec)

/-- 'octroilaw18.TreatTells', WHERE WHAT IT READS IS OF BULK AT MOST 1048576: true; the input reads as it did. -/
def treatTellsUptoRow : OpenClaim := { program := "ytejmbnahdkgpmaa", sum := "1ae4eec62675b24f60f8826cc6bfc1cc11573de253b0df98c2359703ca26e054", func := "octroi/octroilaw18.TreatTells", spec := "treatTells", unfollowed := true, recurses := true, apart := false, narrowed := true }
def TreatTellsUptoSaid : Prop := treatTellsUptoRow.holds Try.pinned (OpenSpec.upto treatTellsSpec)

/-- 'octroilaw30.LexerReads', WHERE WHAT IT READS IS OF BULK AT MOST 1048576: true; the input reads as it did. -/
def lexerReadsUptoRow : OpenClaim := { program := "ytejmbnahdkgpmaa", sum := "1ae4eec62675b24f60f8826cc6bfc1cc11573de253b0df98c2359703ca26e054", func := "octroi/octroilaw30.LexerReads", spec := "lexerReads", inPlace := ["internal/bytealg.IndexByteString", "internal/abi.NoEscape"], apart := false, narrowed := true }
def LexerReadsUptoSaid : Prop := lexerReadsUptoRow.holds Try.pinned (OpenSpec.upto lexerReadsSpec)

/-- 'octroilaw30.LexerAgain', WHERE WHAT IT READS IS OF BULK AT MOST 1048576: true; the input reads as it did. -/
def lexerAgainUptoRow : OpenClaim := { program := "ytejmbnahdkgpmaa", sum := "1ae4eec62675b24f60f8826cc6bfc1cc11573de253b0df98c2359703ca26e054", func := "octroi/octroilaw30.LexerAgain", spec := "lexerAgain", inPlace := ["internal/bytealg.IndexByteString", "internal/abi.NoEscape"], apart := false, narrowed := true }
def LexerAgainUptoSaid : Prop := lexerAgainUptoRow.holds Try.pinned (OpenSpec.upto lexerAgainSpec)

/-- 'octroilaw30.LexerCovers', WHERE WHAT IT READS IS OF BULK AT MOST 1048576: true; the input reads as it did. -/
def lexerCoversUptoRow : OpenClaim := { program := "ytejmbnahdkgpmaa", sum := "1ae4eec62675b24f60f8826cc6bfc1cc11573de253b0df98c2359703ca26e054", func := "octroi/octroilaw30.LexerCovers", spec := "lexerCovers", inPlace := ["internal/bytealg.IndexByteString", "internal/abi.NoEscape"], apart := false, narrowed := true }
def LexerCoversUptoSaid : Prop := lexerCoversUptoRow.holds Try.pinned (OpenSpec.upto lexerCoversSpec)

end Rows
end Go.Proofs.Ytejmbnahdkgpmaa
