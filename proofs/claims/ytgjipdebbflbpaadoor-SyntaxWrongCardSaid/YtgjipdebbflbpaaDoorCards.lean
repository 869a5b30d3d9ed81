/-
  DERIVED. GIVEN WITH THE SEED: THE CARDS: each row of YtgjipdebbflbpaaDoorRows.lean that lists a variable, with what it lists TIED to the program's text (the seventh form; the later family's looks); each row that meets fmt, with fmt's text TOLD by the authors' own Lean function (tested against real Go, not proved from fmt's source: count such statements apart). THE CARD IS WHAT COUNTS. Prove the row's statement (the work); the ties are given (YtgjipdebbflbpaaDoorTie.lean); close each card by the builder's one call (the guide's Derived/Test/ToyasCard.lean, 'card_holds'). Laid BY PROGRAM, IN A SANDBOX (cutbox-door.mjs). By AI agents, Wed Nov 11 2026. No macro, syntax, notation, axiom, sorry.
-/
import Derived.Test.YtgjipdebbflbpaaDoorRows
import GoSem.ClaimSeven
namespace Go.Proofs.YtgjipdebbflbpaaDoor
namespace Rows

/-- THE TIED CARD OF 'headstocklaw06.SyntaxBinds'. -/
def syntaxBindsCard : Claim7 := { stood := { row := syntaxBindsRow, standIns := [], harness := (true, "de5387bde9e357585c34eb45cf97a9f68e0addd2f6d2cb4e228ac615637b09c5"), looks := false }, kinds := [], alts := [], laidByText := true, laidKinds := [.data, .data, .data], laidTests := true, laidLooks := .later }
def SyntaxBindsCardSaid : Prop := Claim7.holds Tryd.pinned (.plain (OpenSpec.ofChange syntaxBindsSpec)) syntaxBindsCard

/-- THE TIED CARD OF 'headstocklaw06.SyntaxWrong'. -/
def syntaxWrongCard : Claim7 := { stood := { row := syntaxWrongRow, standIns := [], harness := (true, "de5387bde9e357585c34eb45cf97a9f68e0addd2f6d2cb4e228ac615637b09c5"), looks := false }, kinds := [], alts := [], laidByText := true, laidKinds := [.data, .data, .data], laidTests := true, laidLooks := .later }
def SyntaxWrongCardSaid : Prop := Claim7.holds Tryd.pinned (.plain (OpenSpec.ofChange syntaxWrongSpec)) syntaxWrongCard

/-- THE TIED CARD OF 'headstocklaw06.SyntaxSame'. -/
def syntaxSameCard : Claim7 := { stood := { row := syntaxSameRow, standIns := [], harness := (true, "de5387bde9e357585c34eb45cf97a9f68e0addd2f6d2cb4e228ac615637b09c5"), looks := false }, kinds := [], alts := [], laidByText := true, laidKinds := [.data, .data, .data], laidTests := true, laidLooks := .later }
def SyntaxSameCardSaid : Prop := Claim7.holds Tryd.pinned (.plain (OpenSpec.ofChange syntaxSameSpec)) syntaxSameCard

/-- THE TIED CARD OF 'headstocklaw06.SyntaxRows'. -/
def syntaxRowsCard : Claim7 := { stood := { row := syntaxRowsRow, standIns := [], harness := (true, "de5387bde9e357585c34eb45cf97a9f68e0addd2f6d2cb4e228ac615637b09c5"), looks := false }, kinds := [], alts := [], laidByText := true, laidKinds := [.data, .data, .data], laidTests := true, laidLooks := .later }
def SyntaxRowsCardSaid : Prop := Claim7.holds Tryd.pinned (.plain (OpenSpec.ofChange syntaxRowsSpec)) syntaxRowsCard

/-- THE SECOND FORM's CARD OF 'headstocklaw06.SyntaxBinds'. -/
def syntaxBindsUptoCard : Claim7 := { stood := { row := syntaxBindsUptoRow, standIns := [], harness := (true, "de5387bde9e357585c34eb45cf97a9f68e0addd2f6d2cb4e228ac615637b09c5"), looks := false }, kinds := [], alts := [], laidByText := true, laidKinds := [.data, .data, .data], laidTests := true, laidLooks := .later }
def SyntaxBindsUptoCardSaid : Prop := Claim7.holds Tryd.pinned (.plain (OpenSpec.upto syntaxBindsSpec)) syntaxBindsUptoCard

/-- THE SECOND FORM's CARD OF 'headstocklaw06.SyntaxWrong'. -/
def syntaxWrongUptoCard : Claim7 := { stood := { row := syntaxWrongUptoRow, standIns := [], harness := (true, "de5387bde9e357585c34eb45cf97a9f68e0addd2f6d2cb4e228ac615637b09c5"), looks := false }, kinds := [], alts := [], laidByText := true, laidKinds := [.data, .data, .data], laidTests := true, laidLooks := .later }
def SyntaxWrongUptoCardSaid : Prop := Claim7.holds Tryd.pinned (.plain (OpenSpec.upto syntaxWrongSpec)) syntaxWrongUptoCard

/-- THE SECOND FORM's CARD OF 'headstocklaw06.SyntaxSame'. -/
def syntaxSameUptoCard : Claim7 := { stood := { row := syntaxSameUptoRow, standIns := [], harness := (true, "de5387bde9e357585c34eb45cf97a9f68e0addd2f6d2cb4e228ac615637b09c5"), looks := false }, kinds := [], alts := [], laidByText := true, laidKinds := [.data, .data, .data], laidTests := true, laidLooks := .later }
def SyntaxSameUptoCardSaid : Prop := Claim7.holds Tryd.pinned (.plain (OpenSpec.upto syntaxSameSpec)) syntaxSameUptoCard

/-- THE SECOND FORM's CARD OF 'headstocklaw06.SyntaxRows'. -/
def syntaxRowsUptoCard : Claim7 := { stood := { row := syntaxRowsUptoRow, standIns := [], harness := (true, "de5387bde9e357585c34eb45cf97a9f68e0addd2f6d2cb4e228ac615637b09c5"), looks := false }, kinds := [], alts := [], laidByText := true, laidKinds := [.data, .data, .data], laidTests := true, laidLooks := .later }
def SyntaxRowsUptoCardSaid : Prop := Claim7.holds Tryd.pinned (.plain (OpenSpec.upto syntaxRowsSpec)) syntaxRowsUptoCard
end Rows
end Go.Proofs.YtgjipdebbflbpaaDoor
