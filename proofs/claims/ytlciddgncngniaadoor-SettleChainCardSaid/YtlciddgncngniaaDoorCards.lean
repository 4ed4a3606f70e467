/-
  DERIVED. GIVEN WITH THE SEED: THE CARDS: each row of YtlciddgncngniaaDoorRows.lean that lists a variable, with what it lists TIED to the program's text (the seventh form; the later family's looks); each row that meets fmt, with fmt's text TOLD by the authors' own Lean function (tested against real Go, not proved from fmt's source: count such statements apart). THE CARD IS WHAT COUNTS. Prove the row's statement (the work); the ties are given (YtlciddgncngniaaDoorTie.lean); close each card by the builder's one call (the guide's Derived/Test/ToyasCard.lean, 'card_holds'). Laid BY PROGRAM, IN A SANDBOX (cutbox-door.mjs). By AI agents, Wed Nov 11 2026. No macro, syntax, notation, axiom, sorry.
-/
import Derived.Test.YtlciddgncngniaaDoorRows
import GoSem.ClaimSeven
namespace Go.Proofs.YtlciddgncngniaaDoor
namespace Rows

/-- THE TIED CARD OF 'octroilaw25.EntryLines'. -/
def entryLinesCard : Claim7 := { stood := { row := entryLinesRow, standIns := [], harness := (true, "979a57d6e48561853f1091781642b8f967307e112bba8857fbcaeb7348ccd24b"), looks := false }, kinds := [], alts := [], laidByText := true, laidKinds := [.data, .data, .data], laidTests := true, laidLooks := .later }
def EntryLinesCardSaid : Prop := Claim7.holds Tryd.pinned (.plain (OpenSpec.ofChange entryLinesSpec)) entryLinesCard

/-- THE TIED CARD OF 'octroilaw38.SettleChain'. -/
def settleChainCard : Claim7 := { stood := { row := settleChainRow, standIns := [], harness := (true, "979a57d6e48561853f1091781642b8f967307e112bba8857fbcaeb7348ccd24b"), looks := false }, kinds := [], alts := [], laidByText := true, laidKinds := [.data, .data, .data], laidTests := true, laidLooks := .later }
def SettleChainCardSaid : Prop := Claim7.holds Tryd.pinned (.plain (OpenSpec.ofChange settleChainSpec)) settleChainCard

/-- THE TIED CARD OF 'octroilaw38.SettleOf'. -/
def settleOfCard : Claim7 := { stood := { row := settleOfRow, standIns := [], harness := (true, "979a57d6e48561853f1091781642b8f967307e112bba8857fbcaeb7348ccd24b"), looks := false }, kinds := [], alts := [], laidByText := true, laidKinds := [.data, .data, .data], laidTests := true, laidLooks := .later }
def SettleOfCardSaid : Prop := Claim7.holds Tryd.pinned (.plain (OpenSpec.ofChange settleOfSpec)) settleOfCard

/-- THE TIED CARD OF 'octroilaw38.SettleBalance'. -/
def settleBalanceCard : Claim7 := { stood := { row := settleBalanceRow, standIns := [], harness := (true, "979a57d6e48561853f1091781642b8f967307e112bba8857fbcaeb7348ccd24b"), looks := false }, kinds := [], alts := [], laidByText := true, laidKinds := [.data, .data, .data], laidTests := true, laidLooks := .later }
def SettleBalanceCardSaid : Prop := Claim7.holds Tryd.pinned (.plain (OpenSpec.ofChange settleBalanceSpec)) settleBalanceCard

/-- THE TIED CARD OF 'octroilaw25.EntryNames'. -/
def entryNamesCard : Claim7 := { stood := { row := entryNamesRow, standIns := [], harness := (true, "979a57d6e48561853f1091781642b8f967307e112bba8857fbcaeb7348ccd24b"), looks := false }, kinds := [], alts := [], laidByText := true, laidKinds := [.data, .data, .data], laidTests := true, laidLooks := .later }
def EntryNamesCardSaid : Prop := Claim7.holds Tryd.pinned (.plain (OpenSpec.ofChange entryNamesSpec)) entryNamesCard

/-- THE TIED CARD OF 'octroilaw25.EntryKnown'. -/
def entryKnownCard : Claim7 := { stood := { row := entryKnownRow, standIns := [], harness := (true, "979a57d6e48561853f1091781642b8f967307e112bba8857fbcaeb7348ccd24b"), looks := false }, kinds := [], alts := [], laidByText := true, laidKinds := [.data, .data, .data], laidTests := true, laidLooks := .later }
def EntryKnownCardSaid : Prop := Claim7.holds Tryd.pinned (.plain (OpenSpec.ofChange entryKnownSpec)) entryKnownCard

/-- THE TIED CARD OF 'octroilaw31.SyntaxPrints'. -/
def syntaxPrintsCard : Claim7 := { stood := { row := syntaxPrintsRow, standIns := [], harness := (true, "979a57d6e48561853f1091781642b8f967307e112bba8857fbcaeb7348ccd24b"), looks := false }, kinds := [], alts := [], laidByText := true, laidKinds := [.data, .data, .data], laidTests := true, laidLooks := .later }
def SyntaxPrintsCardSaid : Prop := Claim7.holds Tryd.pinned (.plain (OpenSpec.ofChange syntaxPrintsSpec)) syntaxPrintsCard

/-- THE TIED CARD OF 'octroilaw31.SyntaxSame'. -/
def syntaxSameCard : Claim7 := { stood := { row := syntaxSameRow, standIns := [], harness := (true, "979a57d6e48561853f1091781642b8f967307e112bba8857fbcaeb7348ccd24b"), looks := false }, kinds := [], alts := [], laidByText := true, laidKinds := [.data, .data, .data], laidTests := true, laidLooks := .later }
def SyntaxSameCardSaid : Prop := Claim7.holds Tryd.pinned (.plain (OpenSpec.ofChange syntaxSameSpec)) syntaxSameCard

/-- THE SECOND FORM's CARD OF 'octroilaw25.EntryLines'. -/
def entryLinesUptoCard : Claim7 := { stood := { row := entryLinesUptoRow, standIns := [], harness := (true, "979a57d6e48561853f1091781642b8f967307e112bba8857fbcaeb7348ccd24b"), looks := false }, kinds := [], alts := [], laidByText := true, laidKinds := [.data, .data, .data], laidTests := true, laidLooks := .later }
def EntryLinesUptoCardSaid : Prop := Claim7.holds Tryd.pinned (.plain (OpenSpec.upto entryLinesSpec)) entryLinesUptoCard

/-- THE SECOND FORM's CARD OF 'octroilaw38.SettleChain'. -/
def settleChainUptoCard : Claim7 := { stood := { row := settleChainUptoRow, standIns := [], harness := (true, "979a57d6e48561853f1091781642b8f967307e112bba8857fbcaeb7348ccd24b"), looks := false }, kinds := [], alts := [], laidByText := true, laidKinds := [.data, .data, .data], laidTests := true, laidLooks := .later }
def SettleChainUptoCardSaid : Prop := Claim7.holds Tryd.pinned (.plain (OpenSpec.upto settleChainSpec)) settleChainUptoCard

/-- THE SECOND FORM's CARD OF 'octroilaw38.SettleOf'. -/
def settleOfUptoCard : Claim7 := { stood := { row := settleOfUptoRow, standIns := [], harness := (true, "979a57d6e48561853f1091781642b8f967307e112bba8857fbcaeb7348ccd24b"), looks := false }, kinds := [], alts := [], laidByText := true, laidKinds := [.data, .data, .data], laidTests := true, laidLooks := .later }
def SettleOfUptoCardSaid : Prop := Claim7.holds Tryd.pinned (.plain (OpenSpec.upto settleOfSpec)) settleOfUptoCard

/-- THE SECOND FORM's CARD OF 'octroilaw38.SettleBalance'. -/
def settleBalanceUptoCard : Claim7 := { stood := { row := settleBalanceUptoRow, standIns := [], harness := (true, "979a57d6e48561853f1091781642b8f967307e112bba8857fbcaeb7348ccd24b"), looks := false }, kinds := [], alts := [], laidByText := true, laidKinds := [.data, .data, .data], laidTests := true, laidLooks := .later }
def SettleBalanceUptoCardSaid : Prop := Claim7.holds Tryd.pinned (.plain (OpenSpec.upto settleBalanceSpec)) settleBalanceUptoCard

/-- THE SECOND FORM's CARD OF 'octroilaw25.EntryNames'. -/
def entryNamesUptoCard : Claim7 := { stood := { row := entryNamesUptoRow, standIns := [], harness := (true, "979a57d6e48561853f1091781642b8f967307e112bba8857fbcaeb7348ccd24b"), looks := false }, kinds := [], alts := [], laidByText := true, laidKinds := [.data, .data, .data], laidTests := true, laidLooks := .later }
def EntryNamesUptoCardSaid : Prop := Claim7.holds Tryd.pinned (.plain (OpenSpec.upto entryNamesSpec)) entryNamesUptoCard

/-- THE SECOND FORM's CARD OF 'octroilaw25.EntryKnown'. -/
def entryKnownUptoCard : Claim7 := { stood := { row := entryKnownUptoRow, standIns := [], harness := (true, "979a57d6e48561853f1091781642b8f967307e112bba8857fbcaeb7348ccd24b"), looks := false }, kinds := [], alts := [], laidByText := true, laidKinds := [.data, .data, .data], laidTests := true, laidLooks := .later }
def EntryKnownUptoCardSaid : Prop := Claim7.holds Tryd.pinned (.plain (OpenSpec.upto entryKnownSpec)) entryKnownUptoCard

/-- THE SECOND FORM's CARD OF 'octroilaw31.SyntaxPrints'. -/
def syntaxPrintsUptoCard : Claim7 := { stood := { row := syntaxPrintsUptoRow, standIns := [], harness := (true, "979a57d6e48561853f1091781642b8f967307e112bba8857fbcaeb7348ccd24b"), looks := false }, kinds := [], alts := [], laidByText := true, laidKinds := [.data, .data, .data], laidTests := true, laidLooks := .later }
def SyntaxPrintsUptoCardSaid : Prop := Claim7.holds Tryd.pinned (.plain (OpenSpec.upto syntaxPrintsSpec)) syntaxPrintsUptoCard

/-- THE SECOND FORM's CARD OF 'octroilaw31.SyntaxSame'. -/
def syntaxSameUptoCard : Claim7 := { stood := { row := syntaxSameUptoRow, standIns := [], harness := (true, "979a57d6e48561853f1091781642b8f967307e112bba8857fbcaeb7348ccd24b"), looks := false }, kinds := [], alts := [], laidByText := true, laidKinds := [.data, .data, .data], laidTests := true, laidLooks := .later }
def SyntaxSameUptoCardSaid : Prop := Claim7.holds Tryd.pinned (.plain (OpenSpec.upto syntaxSameSpec)) syntaxSameUptoCard
end Rows
end Go.Proofs.YtlciddgncngniaaDoor
