/-
  DERIVED. GIVEN WITH THE SEED: THE CARDS: each row of YtnaglnifpejpjaaGreatDoorRows.lean that lists a variable, with what it lists TIED to the program's text (the seventh form; the later family's looks); each row that meets fmt, with fmt's text TOLD by the authors' own Lean function (tested against real Go, not proved from fmt's source: count such statements apart). THE CARD IS WHAT COUNTS. Prove the row's statement (the work); the ties are given (YtnaglnifpejpjaaGreatDoorTie.lean); close each card by the builder's one call (the guide's Derived/Test/ToyasCard.lean, 'card_holds'). Laid BY PROGRAM, IN A SANDBOX (cutbox-door.mjs). By AI agents, Wed Nov 11 2026. No macro, syntax, notation, axiom, sorry.
-/
import Derived.Test.YtnaglnifpejpjaaGreatDoorRows
import GoSem.ClaimSeven
namespace Go.Proofs.YtnaglnifpejpjaaGreatDoor
namespace Rows

/-- THE TIED CARD OF 'octroilaw34.EvalOne'. -/
def evalOneCard : Claim7 := { stood := { row := evalOneRow, standIns := [], harness := (true, "8c8a38d10f5c98067ff4a9895c468678a8c3dd1427bbaac0e691b716db1e436d"), looks := false }, kinds := [], alts := [], laidByText := true, laidKinds := [.data, .data, .data], laidTests := true, laidLooks := .later }
def EvalOneCardSaid : Prop := Claim7.holds Tryz.pinned (.plain (OpenSpec.ofChange evalOneSpec)) evalOneCard

/-- THE TIED CARD OF 'octroilaw34.EvalParts'. -/
def evalPartsCard : Claim7 := { stood := { row := evalPartsRow, standIns := [], harness := (true, "8c8a38d10f5c98067ff4a9895c468678a8c3dd1427bbaac0e691b716db1e436d"), looks := false }, kinds := [], alts := [], laidByText := true, laidKinds := [.data, .data, .data], laidTests := true, laidLooks := .later }
def EvalPartsCardSaid : Prop := Claim7.holds Tryz.pinned (.plain (OpenSpec.ofChange evalPartsSpec)) evalPartsCard

/-- THE TIED CARD OF 'octroilaw34.EvalRuns'. -/
def evalRunsCard : Claim7 := { stood := { row := evalRunsRow, standIns := [], harness := (true, "8c8a38d10f5c98067ff4a9895c468678a8c3dd1427bbaac0e691b716db1e436d"), looks := false }, kinds := [], alts := [], laidByText := true, laidKinds := [.data, .data, .data], laidTests := true, laidLooks := .later }
def EvalRunsCardSaid : Prop := Claim7.holds Tryz.pinned (.plain (OpenSpec.ofChange evalRunsSpec)) evalRunsCard

/-- THE TIED CARD OF 'octroilaw34.EvalOrder'. -/
def evalOrderCard : Claim7 := { stood := { row := evalOrderRow, standIns := [], harness := (true, "8c8a38d10f5c98067ff4a9895c468678a8c3dd1427bbaac0e691b716db1e436d"), looks := false }, kinds := [], alts := [], laidByText := true, laidKinds := [.data, .data, .data], laidTests := true, laidLooks := .later }
def EvalOrderCardSaid : Prop := Claim7.holds Tryz.pinned (.plain (OpenSpec.ofChange evalOrderSpec)) evalOrderCard

/-- THE SECOND FORM's CARD OF 'octroilaw34.EvalOne'. -/
def evalOneUptoCard : Claim7 := { stood := { row := evalOneUptoRow, standIns := [], harness := (true, "8c8a38d10f5c98067ff4a9895c468678a8c3dd1427bbaac0e691b716db1e436d"), looks := false }, kinds := [], alts := [], laidByText := true, laidKinds := [.data, .data, .data], laidTests := true, laidLooks := .later }
def EvalOneUptoCardSaid : Prop := Claim7.holds Tryz.pinned (.plain (OpenSpec.upto evalOneSpec)) evalOneUptoCard

/-- THE SECOND FORM's CARD OF 'octroilaw34.EvalParts'. -/
def evalPartsUptoCard : Claim7 := { stood := { row := evalPartsUptoRow, standIns := [], harness := (true, "8c8a38d10f5c98067ff4a9895c468678a8c3dd1427bbaac0e691b716db1e436d"), looks := false }, kinds := [], alts := [], laidByText := true, laidKinds := [.data, .data, .data], laidTests := true, laidLooks := .later }
def EvalPartsUptoCardSaid : Prop := Claim7.holds Tryz.pinned (.plain (OpenSpec.upto evalPartsSpec)) evalPartsUptoCard

/-- THE SECOND FORM's CARD OF 'octroilaw34.EvalRuns'. -/
def evalRunsUptoCard : Claim7 := { stood := { row := evalRunsUptoRow, standIns := [], harness := (true, "8c8a38d10f5c98067ff4a9895c468678a8c3dd1427bbaac0e691b716db1e436d"), looks := false }, kinds := [], alts := [], laidByText := true, laidKinds := [.data, .data, .data], laidTests := true, laidLooks := .later }
def EvalRunsUptoCardSaid : Prop := Claim7.holds Tryz.pinned (.plain (OpenSpec.upto evalRunsSpec)) evalRunsUptoCard

/-- THE SECOND FORM's CARD OF 'octroilaw34.EvalOrder'. -/
def evalOrderUptoCard : Claim7 := { stood := { row := evalOrderUptoRow, standIns := [], harness := (true, "8c8a38d10f5c98067ff4a9895c468678a8c3dd1427bbaac0e691b716db1e436d"), looks := false }, kinds := [], alts := [], laidByText := true, laidKinds := [.data, .data, .data], laidTests := true, laidLooks := .later }
def EvalOrderUptoCardSaid : Prop := Claim7.holds Tryz.pinned (.plain (OpenSpec.upto evalOrderSpec)) evalOrderUptoCard
end Rows
end Go.Proofs.YtnaglnifpejpjaaGreatDoor
