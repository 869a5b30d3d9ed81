/-
  DERIVED. GIVEN WITH THE SEED: THE CARDS: each row of YtgjipdebbflbpaaGreatDoorRows.lean that lists a variable, with what it lists TIED to the program's text (the seventh form; the later family's looks); each row that meets fmt, with fmt's text TOLD by the authors' own Lean function (tested against real Go, not proved from fmt's source: count such statements apart). THE CARD IS WHAT COUNTS. Prove the row's statement (the work); the ties are given (YtgjipdebbflbpaaGreatDoorTie.lean); close each card by the builder's one call (the guide's Derived/Test/ToyasCard.lean, 'card_holds'). Laid BY PROGRAM, IN A SANDBOX (cutbox-door.mjs). By AI agents, Wed Nov 11 2026. No macro, syntax, notation, axiom, sorry.
-/
import Derived.Test.YtgjipdebbflbpaaGreatDoorRows
import GoSem.ClaimSeven
namespace Go.Proofs.YtgjipdebbflbpaaGreatDoor
namespace Rows

/-- THE TIED CARD OF 'headstocklaw06.SyntaxTells'. -/
def syntaxTellsCard : Claim7 := { stood := { row := syntaxTellsRow, standIns := [], harness := (true, "cec67e45850d76c6735e34b18c0bf48d398ecccd524f30a1c15a3a8f1f8ccef4"), looks := true }, kinds := [], alts := [], laidByText := true, laidKinds := [.data, .data, .data], laidTests := true, laidLooks := .later }
def SyntaxTellsCardSaid : Prop := Claim7.holds Tryz.pinned (.plain (OpenSpec.ofChange syntaxTellsSpec)) syntaxTellsCard

/-- THE TIED CARD OF 'headstocklaw06.SyntaxUnlike'. -/
def syntaxUnlikeCard : Claim7 := { stood := { row := syntaxUnlikeRow, standIns := [], harness := (true, "cec67e45850d76c6735e34b18c0bf48d398ecccd524f30a1c15a3a8f1f8ccef4"), looks := true }, kinds := [], alts := [], laidByText := true, laidKinds := [.data, .data, .data], laidTests := true, laidLooks := .later }
def SyntaxUnlikeCardSaid : Prop := Claim7.holds Tryz.pinned (.plain (OpenSpec.ofChange syntaxUnlikeSpec)) syntaxUnlikeCard

/-- THE TIED CARD OF 'headstocklaw06.SyntaxScans'. -/
def syntaxScansCard : Claim7 := { stood := { row := syntaxScansRow, standIns := [], harness := (true, "cec67e45850d76c6735e34b18c0bf48d398ecccd524f30a1c15a3a8f1f8ccef4"), looks := true }, kinds := [], alts := [], laidByText := true, laidKinds := [.data, .data, .data, .data, .sentinel, .sentinel, .pinned, .pinned], laidTests := true, laidLooks := .later }
def SyntaxScansCardSaid : Prop := Claim7.holds Tryz.pinned (.plain (OpenSpec.ofChange syntaxScansSpec)) syntaxScansCard

/-- THE SECOND FORM's CARD OF 'headstocklaw06.SyntaxTells'. -/
def syntaxTellsUptoCard : Claim7 := { stood := { row := syntaxTellsUptoRow, standIns := [], harness := (true, "cec67e45850d76c6735e34b18c0bf48d398ecccd524f30a1c15a3a8f1f8ccef4"), looks := true }, kinds := [], alts := [], laidByText := true, laidKinds := [.data, .data, .data], laidTests := true, laidLooks := .later }
def SyntaxTellsUptoCardSaid : Prop := Claim7.holds Tryz.pinned (.plain (OpenSpec.upto syntaxTellsSpec)) syntaxTellsUptoCard

/-- THE SECOND FORM's CARD OF 'headstocklaw06.SyntaxUnlike'. -/
def syntaxUnlikeUptoCard : Claim7 := { stood := { row := syntaxUnlikeUptoRow, standIns := [], harness := (true, "cec67e45850d76c6735e34b18c0bf48d398ecccd524f30a1c15a3a8f1f8ccef4"), looks := true }, kinds := [], alts := [], laidByText := true, laidKinds := [.data, .data, .data], laidTests := true, laidLooks := .later }
def SyntaxUnlikeUptoCardSaid : Prop := Claim7.holds Tryz.pinned (.plain (OpenSpec.upto syntaxUnlikeSpec)) syntaxUnlikeUptoCard

/-- THE SECOND FORM's CARD OF 'headstocklaw06.SyntaxScans'. -/
def syntaxScansUptoCard : Claim7 := { stood := { row := syntaxScansUptoRow, standIns := [], harness := (true, "cec67e45850d76c6735e34b18c0bf48d398ecccd524f30a1c15a3a8f1f8ccef4"), looks := true }, kinds := [], alts := [], laidByText := true, laidKinds := [.data, .data, .data, .data, .sentinel, .sentinel, .pinned, .pinned], laidTests := true, laidLooks := .later }
def SyntaxScansUptoCardSaid : Prop := Claim7.holds Tryz.pinned (.plain (OpenSpec.upto syntaxScansSpec)) syntaxScansUptoCard
end Rows
end Go.Proofs.YtgjipdebbflbpaaGreatDoor
