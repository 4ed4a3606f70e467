/-
  No cell of these rows narrows 'for every input' (looked for: loops, veiled, ifaces, maps, wideKeys, modest, calm, conditions, laid).
  DERIVED. THE GIVEN ROWS OF THIS SEAT. 8 by the template 'for every input the law returns true; each argument reads behind the call as it read before'; 0 by the template 'total and deterministic' (their statements: YtbjoegladcmibaaTotals.lean).
  GIVEN WITH THE SEED: the statements are not yours to turn. If you find one false, say at which input.
  Laid BY PROGRAM, IN A SANDBOX (cutbox-rows.mjs): the forced cells as the released guide's own fill.sh prints them over the translation 48b72ecde8f4d38c… (all of the seat's roots in one cut). By AI agents, Wed Nov 11 2026. No macro, syntax, notation, axiom, sorry.
-/
import Derived.Test.YtbjoegladcmibaaChecked
import GoSem.Claim
import GoSem.ClaimJoined
import GoSem.ClaimMapViews
import Derived.JoinedTies
import Derived.KernelRfl
namespace Go.Proofs.Ytbjoegladcmibaa
/- THE CELL 'sum', in the pinned program and in every row, IS THE sha256 OF THE DUMP (.gsa) THAT YtbjoegladcmibaaProg.lean LOADS. Nothing in Lean hashes anything: it is a label: what it is worth is what the hold of that sum in a sandbox is worth. -/
noncomputable def Try.pinned : Pinned := { name := "ytbjoegladcmibaa", sum := "48b72ecde8f4d38c7d19f087694f7651b7c97ce178d46b0611a8f74cd89e820e", checked := Try.checked }
namespace Rows
def none {H : Type} : Left H := { results := [], args := [] }

/-- 'octroilaw14.RatesApart': WHATEVER THE INPUT: true; the input reads as it did. -/
def ratesApartSpec : ChangeSpec := { name := "ratesApart", fn := fun _ => fun
  | [d1, d2, d3] => { results := [.lit (.bool true)], args := [d1, d2, d3] }
  | _ => none }
def ratesApartRow : OpenClaim := { program := "ytbjoegladcmibaa", sum := "48b72ecde8f4d38c7d19f087694f7651b7c97ce178d46b0611a8f74cd89e820e", func := "octroi/octroilaw14.RatesApart", spec := "ratesApart", inPlace := ["slices.overlaps[octroi/timeline.held[int]]"], unfollowed := true, recurses := true, plainKeys := false, apart := false }
def RatesApartSaid : Prop := ratesApartRow.holds Try.pinned (OpenSpec.ofChange ratesApartSpec)

/-- ITS FALSE NEIGHBOUR: 'it returns false'. Refute it at one input. -/
def ratesApartWrong : ChangeSpec := { name := "ratesApart", fn := fun _ => fun
  | [d1, d2, d3] => { results := [.lit (.bool false)], args := [d1, d2, d3] }
  | _ => none }
def RatesApartWrongFalsely : Prop := ratesApartRow.holds Try.pinned (OpenSpec.ofChange ratesApartWrong)

/-- 'octroilaw15.PeopleThird': WHATEVER THE INPUT: true; the input reads as it did. -/
def peopleThirdSpec : ChangeSpec := { name := "peopleThird", fn := fun _ => fun
  | [d1, d2, d3] => { results := [.lit (.bool true)], args := [d1, d2, d3] }
  | _ => none }
def peopleThirdRow : OpenClaim := { program := "ytbjoegladcmibaa", sum := "48b72ecde8f4d38c7d19f087694f7651b7c97ce178d46b0611a8f74cd89e820e", func := "octroi/octroilaw15.PeopleThird", spec := "peopleThird", inPlace := ["internal/bytealg.IndexByteString", "slices.overlaps[octroi/timeline.held[bool]]"], unfollowed := true, recurses := true, plainKeys := false, apart := false }
def PeopleThirdSaid : Prop := peopleThirdRow.holds Try.pinned (OpenSpec.ofChange peopleThirdSpec)

/-- ITS FALSE NEIGHBOUR: 'it returns false'. Refute it at one input. -/
def peopleThirdWrong : ChangeSpec := { name := "peopleThird", fn := fun _ => fun
  | [d1, d2, d3] => { results := [.lit (.bool false)], args := [d1, d2, d3] }
  | _ => none }
def PeopleThirdWrongFalsely : Prop := peopleThirdRow.holds Try.pinned (OpenSpec.ofChange peopleThirdWrong)

/-- 'octroilaw19.ThresholdAdds': WHATEVER THE INPUT: true; the input reads as it did. -/
def thresholdAddsSpec : ChangeSpec := { name := "thresholdAdds", fn := fun _ => fun
  | [d1, d2, d3] => { results := [.lit (.bool true)], args := [d1, d2, d3] }
  | _ => none }
def thresholdAddsRow : OpenClaim := { program := "ytbjoegladcmibaa", sum := "48b72ecde8f4d38c7d19f087694f7651b7c97ce178d46b0611a8f74cd89e820e", func := "octroi/octroilaw19.ThresholdAdds", spec := "thresholdAdds", inPlace := ["math/bits.Add64", "maps.clone"], unfollowed := true, recurses := true, plainKeys := false, apart := false }
def ThresholdAddsSaid : Prop := thresholdAddsRow.holds Try.pinned (OpenSpec.ofChange thresholdAddsSpec)

/-- ITS FALSE NEIGHBOUR: 'it returns false'. Refute it at one input. -/
def thresholdAddsWrong : ChangeSpec := { name := "thresholdAdds", fn := fun _ => fun
  | [d1, d2, d3] => { results := [.lit (.bool false)], args := [d1, d2, d3] }
  | _ => none }
def ThresholdAddsWrongFalsely : Prop := thresholdAddsRow.holds Try.pinned (OpenSpec.ofChange thresholdAddsWrong)

/-- 'octroilaw19.ThresholdNobody': WHATEVER THE INPUT: true; the input reads as it did. -/
def thresholdNobodySpec : ChangeSpec := { name := "thresholdNobody", fn := fun _ => fun
  | [d1, d2, d3] => { results := [.lit (.bool true)], args := [d1, d2, d3] }
  | _ => none }
def thresholdNobodyRow : OpenClaim := { program := "ytbjoegladcmibaa", sum := "48b72ecde8f4d38c7d19f087694f7651b7c97ce178d46b0611a8f74cd89e820e", func := "octroi/octroilaw19.ThresholdNobody", spec := "thresholdNobody", inPlace := ["maps.clone", "math/bits.Add64"], unfollowed := true, recurses := true, plainKeys := false, apart := false }
def ThresholdNobodySaid : Prop := thresholdNobodyRow.holds Try.pinned (OpenSpec.ofChange thresholdNobodySpec)

/-- ITS FALSE NEIGHBOUR: 'it returns false'. Refute it at one input. -/
def thresholdNobodyWrong : ChangeSpec := { name := "thresholdNobody", fn := fun _ => fun
  | [d1, d2, d3] => { results := [.lit (.bool false)], args := [d1, d2, d3] }
  | _ => none }
def ThresholdNobodyWrongFalsely : Prop := thresholdNobodyRow.holds Try.pinned (OpenSpec.ofChange thresholdNobodyWrong)

/-- 'octroilaw14.RatesSets': WHATEVER THE INPUT: true; the input reads as it did. -/
def ratesSetsSpec : ChangeSpec := { name := "ratesSets", fn := fun _ => fun
  | [d1, d2] => { results := [.lit (.bool true)], args := [d1, d2] }
  | _ => none }
def ratesSetsRow : OpenClaim := { program := "ytbjoegladcmibaa", sum := "48b72ecde8f4d38c7d19f087694f7651b7c97ce178d46b0611a8f74cd89e820e", func := "octroi/octroilaw14.RatesSets", spec := "ratesSets", inPlace := ["slices.overlaps[octroi/timeline.held[int]]", "maps.clone"], unfollowed := true, recurses := true, plainKeys := false, apart := false }
def RatesSetsSaid : Prop := ratesSetsRow.holds Try.pinned (OpenSpec.ofChange ratesSetsSpec)

/-- ITS FALSE NEIGHBOUR: 'it returns false'. Refute it at one input. -/
def ratesSetsWrong : ChangeSpec := { name := "ratesSets", fn := fun _ => fun
  | [d1, d2] => { results := [.lit (.bool false)], args := [d1, d2] }
  | _ => none }
def RatesSetsWrongFalsely : Prop := ratesSetsRow.holds Try.pinned (OpenSpec.ofChange ratesSetsWrong)

/-- 'octroilaw14.RatesNobody': WHATEVER THE INPUT: true; the input reads as it did. -/
def ratesNobodySpec : ChangeSpec := { name := "ratesNobody", fn := fun _ => fun
  | [d] => { results := [.lit (.bool true)], args := [d] }
  | _ => none }
def ratesNobodyRow : OpenClaim := { program := "ytbjoegladcmibaa", sum := "48b72ecde8f4d38c7d19f087694f7651b7c97ce178d46b0611a8f74cd89e820e", func := "octroi/octroilaw14.RatesNobody", spec := "ratesNobody", inPlace := ["slices.overlaps[octroi/timeline.held[int]]", "maps.clone"], unfollowed := true, recurses := true, plainKeys := false, apart := false }
def RatesNobodySaid : Prop := ratesNobodyRow.holds Try.pinned (OpenSpec.ofChange ratesNobodySpec)

/-- ITS FALSE NEIGHBOUR: 'it returns false'. Refute it at one input. -/
def ratesNobodyWrong : ChangeSpec := { name := "ratesNobody", fn := fun _ => fun
  | [d] => { results := [.lit (.bool false)], args := [d] }
  | _ => none }
def RatesNobodyWrongFalsely : Prop := ratesNobodyRow.holds Try.pinned (OpenSpec.ofChange ratesNobodyWrong)

/-- 'octroilaw15.PeopleSets': WHATEVER THE INPUT: true; the input reads as it did. -/
def peopleSetsSpec : ChangeSpec := { name := "peopleSets", fn := fun _ => fun
  | [d1, d2, d3] => { results := [.lit (.bool true)], args := [d1, d2, d3] }
  | _ => none }
def peopleSetsRow : OpenClaim := { program := "ytbjoegladcmibaa", sum := "48b72ecde8f4d38c7d19f087694f7651b7c97ce178d46b0611a8f74cd89e820e", func := "octroi/octroilaw15.PeopleSets", spec := "peopleSets", inPlace := ["internal/bytealg.IndexByteString", "slices.overlaps[octroi/timeline.held[bool]]"], unfollowed := true, recurses := true, plainKeys := false, apart := false }
def PeopleSetsSaid : Prop := peopleSetsRow.holds Try.pinned (OpenSpec.ofChange peopleSetsSpec)

/-- ITS FALSE NEIGHBOUR: 'it returns false'. Refute it at one input. -/
def peopleSetsWrong : ChangeSpec := { name := "peopleSets", fn := fun _ => fun
  | [d1, d2, d3] => { results := [.lit (.bool false)], args := [d1, d2, d3] }
  | _ => none }
def PeopleSetsWrongFalsely : Prop := peopleSetsRow.holds Try.pinned (OpenSpec.ofChange peopleSetsWrong)

/-- 'octroilaw15.PeopleNobody': WHATEVER THE INPUT: true; the input reads as it did. -/
def peopleNobodySpec : ChangeSpec := { name := "peopleNobody", fn := fun _ => fun
  | [d] => { results := [.lit (.bool true)], args := [d] }
  | _ => none }
def peopleNobodyRow : OpenClaim := { program := "ytbjoegladcmibaa", sum := "48b72ecde8f4d38c7d19f087694f7651b7c97ce178d46b0611a8f74cd89e820e", func := "octroi/octroilaw15.PeopleNobody", spec := "peopleNobody", inPlace := ["internal/bytealg.IndexByteString", "slices.overlaps[octroi/timeline.held[bool]]"], unfollowed := true, recurses := true, plainKeys := false, apart := false }
def PeopleNobodySaid : Prop := peopleNobodyRow.holds Try.pinned (OpenSpec.ofChange peopleNobodySpec)

/-- ITS FALSE NEIGHBOUR: 'it returns false'. Refute it at one input. -/
def peopleNobodyWrong : ChangeSpec := { name := "peopleNobody", fn := fun _ => fun
  | [d] => { results := [.lit (.bool false)], args := [d] }
  | _ => none }
def PeopleNobodyWrongFalsely : Prop := peopleNobodyRow.holds Try.pinned (OpenSpec.ofChange peopleNobodyWrong)

/- THE SECOND FORM. 'bulk': how many values and letters a reading holds, each counted each time it is reached (what is shared counts as often as it is met; a slice's spare places count too). A statement '..UptoSaid' is the law's where the arguments, and the package variables that the reading takes, are together of bulk at most 1048576: NARROWER than '..Said'. Prove '..Said' where nothing that the law and all that it calls make is longer than what came in: it says more and counts as full. Else prove '..UptoSaid'. A law counts once. -/
mutual
def uptoBulk {H : Type} : DataW H → Nat
  | .lit (.string bytes) => bytes.length + 1
  | .lit _ => 1
  | .nil => 1
  | .ptr d => uptoBulk d + 1
  | .slice elems spare => uptoBulkAll elems + uptoBulkAll spare + 1
  | .agg parts => uptoBulkAll parts + 1
  | .iface _ d => uptoBulk d + 1
  | .map entries => uptoBulkEntries entries + 1
  | .held _ => 1
def uptoBulkAll {H : Type} : List (DataW H) → Nat
  | [] => 0
  | d :: r => uptoBulk d + uptoBulkAll r
def uptoBulkEntries {H : Type} : List (Lit × DataW H) → Nat
  | [] => 0
  | x :: r => uptoBulkEntry x + uptoBulkEntries r
def uptoBulkEntry {H : Type} : Lit × DataW H → Nat
  | (.string bytes, d) => bytes.length + uptoBulk d + 1
  | (_, d) => uptoBulk d + 1
 end
def uptoSmall : (H : Type) → List (DataW H) → Bool := fun _ ds => decide (uptoBulkAll ds ≤ 1048576)
def OpenSpec.upto (s : _root_.Go.ChangeSpec) : _root_.Go.OpenSpec := { _root_.Go.OpenSpec.ofChange s with cond := some uptoSmall }

/-- 'octroilaw14.RatesApart', WHERE WHAT IT READS IS OF BULK AT MOST 1048576: true; the input reads as it did. -/
def ratesApartUptoRow : OpenClaim := { program := "ytbjoegladcmibaa", sum := "48b72ecde8f4d38c7d19f087694f7651b7c97ce178d46b0611a8f74cd89e820e", func := "octroi/octroilaw14.RatesApart", spec := "ratesApart", inPlace := ["slices.overlaps[octroi/timeline.held[int]]"], unfollowed := true, recurses := true, plainKeys := false, apart := false, narrowed := true }
def RatesApartUptoSaid : Prop := ratesApartUptoRow.holds Try.pinned (OpenSpec.upto ratesApartSpec)

/-- 'octroilaw15.PeopleThird', WHERE WHAT IT READS IS OF BULK AT MOST 1048576: true; the input reads as it did. -/
def peopleThirdUptoRow : OpenClaim := { program := "ytbjoegladcmibaa", sum := "48b72ecde8f4d38c7d19f087694f7651b7c97ce178d46b0611a8f74cd89e820e", func := "octroi/octroilaw15.PeopleThird", spec := "peopleThird", inPlace := ["internal/bytealg.IndexByteString", "slices.overlaps[octroi/timeline.held[bool]]"], unfollowed := true, recurses := true, plainKeys := false, apart := false, narrowed := true }
def PeopleThirdUptoSaid : Prop := peopleThirdUptoRow.holds Try.pinned (OpenSpec.upto peopleThirdSpec)

/-- 'octroilaw19.ThresholdAdds', WHERE WHAT IT READS IS OF BULK AT MOST 1048576: true; the input reads as it did. -/
def thresholdAddsUptoRow : OpenClaim := { program := "ytbjoegladcmibaa", sum := "48b72ecde8f4d38c7d19f087694f7651b7c97ce178d46b0611a8f74cd89e820e", func := "octroi/octroilaw19.ThresholdAdds", spec := "thresholdAdds", inPlace := ["math/bits.Add64", "maps.clone"], unfollowed := true, recurses := true, plainKeys := false, apart := false, narrowed := true }
def ThresholdAddsUptoSaid : Prop := thresholdAddsUptoRow.holds Try.pinned (OpenSpec.upto thresholdAddsSpec)

/-- 'octroilaw19.ThresholdNobody', WHERE WHAT IT READS IS OF BULK AT MOST 1048576: true; the input reads as it did. -/
def thresholdNobodyUptoRow : OpenClaim := { program := "ytbjoegladcmibaa", sum := "48b72ecde8f4d38c7d19f087694f7651b7c97ce178d46b0611a8f74cd89e820e", func := "octroi/octroilaw19.ThresholdNobody", spec := "thresholdNobody", inPlace := ["maps.clone", "math/bits.Add64"], unfollowed := true, recurses := true, plainKeys := false, apart := false, narrowed := true }
def ThresholdNobodyUptoSaid : Prop := thresholdNobodyUptoRow.holds Try.pinned (OpenSpec.upto thresholdNobodySpec)

/-- 'octroilaw14.RatesSets', WHERE WHAT IT READS IS OF BULK AT MOST 1048576: true; the input reads as it did. -/
def ratesSetsUptoRow : OpenClaim := { program := "ytbjoegladcmibaa", sum := "48b72ecde8f4d38c7d19f087694f7651b7c97ce178d46b0611a8f74cd89e820e", func := "octroi/octroilaw14.RatesSets", spec := "ratesSets", inPlace := ["slices.overlaps[octroi/timeline.held[int]]", "maps.clone"], unfollowed := true, recurses := true, plainKeys := false, apart := false, narrowed := true }
def RatesSetsUptoSaid : Prop := ratesSetsUptoRow.holds Try.pinned (OpenSpec.upto ratesSetsSpec)

/-- 'octroilaw14.RatesNobody', WHERE WHAT IT READS IS OF BULK AT MOST 1048576: true; the input reads as it did. -/
def ratesNobodyUptoRow : OpenClaim := { program := "ytbjoegladcmibaa", sum := "48b72ecde8f4d38c7d19f087694f7651b7c97ce178d46b0611a8f74cd89e820e", func := "octroi/octroilaw14.RatesNobody", spec := "ratesNobody", inPlace := ["slices.overlaps[octroi/timeline.held[int]]", "maps.clone"], unfollowed := true, recurses := true, plainKeys := false, apart := false, narrowed := true }
def RatesNobodyUptoSaid : Prop := ratesNobodyUptoRow.holds Try.pinned (OpenSpec.upto ratesNobodySpec)

/-- 'octroilaw15.PeopleSets', WHERE WHAT IT READS IS OF BULK AT MOST 1048576: true; the input reads as it did. -/
def peopleSetsUptoRow : OpenClaim := { program := "ytbjoegladcmibaa", sum := "48b72ecde8f4d38c7d19f087694f7651b7c97ce178d46b0611a8f74cd89e820e", func := "octroi/octroilaw15.PeopleSets", spec := "peopleSets", inPlace := ["internal/bytealg.IndexByteString", "slices.overlaps[octroi/timeline.held[bool]]"], unfollowed := true, recurses := true, plainKeys := false, apart := false, narrowed := true }
def PeopleSetsUptoSaid : Prop := peopleSetsUptoRow.holds Try.pinned (OpenSpec.upto peopleSetsSpec)

/-- 'octroilaw15.PeopleNobody', WHERE WHAT IT READS IS OF BULK AT MOST 1048576: true; the input reads as it did. -/
def peopleNobodyUptoRow : OpenClaim := { program := "ytbjoegladcmibaa", sum := "48b72ecde8f4d38c7d19f087694f7651b7c97ce178d46b0611a8f74cd89e820e", func := "octroi/octroilaw15.PeopleNobody", spec := "peopleNobody", inPlace := ["internal/bytealg.IndexByteString", "slices.overlaps[octroi/timeline.held[bool]]"], unfollowed := true, recurses := true, plainKeys := false, apart := false, narrowed := true }
def PeopleNobodyUptoSaid : Prop := peopleNobodyUptoRow.holds Try.pinned (OpenSpec.upto peopleNobodySpec)

end Rows
end Go.Proofs.Ytbjoegladcmibaa
