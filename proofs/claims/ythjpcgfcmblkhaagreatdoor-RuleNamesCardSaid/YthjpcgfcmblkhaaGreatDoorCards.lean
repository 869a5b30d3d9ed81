/-
  DERIVED. GIVEN WITH THE SEED: THE CARDS: each row of YthjpcgfcmblkhaaGreatDoorRows.lean that lists a variable, with what it lists TIED to the program's text (the seventh form; the later family's looks); each row that meets fmt, with fmt's text TOLD by the authors' own Lean function (tested against real Go, not proved from fmt's source: count such statements apart). THE CARD IS WHAT COUNTS. Prove the row's statement (the work); the ties are given (YthjpcgfcmblkhaaGreatDoorTie.lean); close each card by the builder's one call (the guide's Derived/Test/ToyasCard.lean, 'card_holds'). Laid BY PROGRAM, IN A SANDBOX (cutbox-door.mjs). By AI agents, Wed Nov 11 2026. No macro, syntax, notation, axiom, sorry.
-/
import Derived.Test.YthjpcgfcmblkhaaGreatDoorRows
import GoSem.ClaimSeven
namespace Go.Proofs.YthjpcgfcmblkhaaGreatDoor
namespace Rows

/-- THE TIED CARD OF 'headstocklaw08.RuleMade'. -/
def ruleMadeCard : Claim7 := { stood := { row := ruleMadeRow, standIns := [], harness := (true, "017d40fd09425b8e43471c4c6b85557daf13bc4c196923166b43bf81b25efd57"), looks := true }, kinds := [], alts := [], laidByText := true, laidKinds := [.data, .data, .data, .data, .sentinel, .sentinel, .pinned, .pinned], laidTests := true, laidLooks := .later }
def RuleMadeCardSaid : Prop := Claim7.holds Tryz.pinned (.plain (OpenSpec.ofChange ruleMadeSpec)) ruleMadeCard

/-- THE TIED CARD OF 'headstocklaw08.RuleLess'. -/
def ruleLessCard : Claim7 := { stood := { row := ruleLessRow, standIns := [], harness := (true, "017d40fd09425b8e43471c4c6b85557daf13bc4c196923166b43bf81b25efd57"), looks := true }, kinds := [], alts := [], laidByText := true, laidKinds := [.data, .data, .data, .data, .sentinel, .sentinel, .pinned, .pinned], laidTests := true, laidLooks := .later }
def RuleLessCardSaid : Prop := Claim7.holds Tryz.pinned (.plain (OpenSpec.ofChange ruleLessSpec)) ruleLessCard

/-- THE TIED CARD OF 'headstocklaw08.RuleTurned'. -/
def ruleTurnedCard : Claim7 := { stood := { row := ruleTurnedRow, standIns := [], harness := (true, "017d40fd09425b8e43471c4c6b85557daf13bc4c196923166b43bf81b25efd57"), looks := true }, kinds := [], alts := [], laidByText := true, laidKinds := [.data, .data, .data, .data, .sentinel, .sentinel, .pinned, .pinned], laidTests := true, laidLooks := .later }
def RuleTurnedCardSaid : Prop := Claim7.holds Tryz.pinned (.plain (OpenSpec.ofChange ruleTurnedSpec)) ruleTurnedCard

/-- THE TIED CARD OF 'headstocklaw08.RuleWrong'. -/
def ruleWrongCard : Claim7 := { stood := { row := ruleWrongRow, standIns := [], harness := (true, "017d40fd09425b8e43471c4c6b85557daf13bc4c196923166b43bf81b25efd57"), looks := true }, kinds := [], alts := [], laidByText := true, laidKinds := [.data, .data, .data, .data, .sentinel, .sentinel, .pinned, .pinned], laidTests := true, laidLooks := .later }
def RuleWrongCardSaid : Prop := Claim7.holds Tryz.pinned (.plain (OpenSpec.ofChange ruleWrongSpec)) ruleWrongCard

/-- THE TIED CARD OF 'headstocklaw08.RuleNames'. -/
def ruleNamesCard : Claim7 := { stood := { row := ruleNamesRow, standIns := [], harness := (true, "017d40fd09425b8e43471c4c6b85557daf13bc4c196923166b43bf81b25efd57"), looks := true }, kinds := [], alts := [], laidByText := true, laidKinds := [.data, .data, .data, .data, .sentinel, .sentinel, .pinned, .pinned], laidTests := true, laidLooks := .later }
def RuleNamesCardSaid : Prop := Claim7.holds Tryz.pinned (.plain (OpenSpec.ofChange ruleNamesSpec)) ruleNamesCard

/-- THE SECOND FORM's CARD OF 'headstocklaw08.RuleMade'. -/
def ruleMadeUptoCard : Claim7 := { stood := { row := ruleMadeUptoRow, standIns := [], harness := (true, "017d40fd09425b8e43471c4c6b85557daf13bc4c196923166b43bf81b25efd57"), looks := true }, kinds := [], alts := [], laidByText := true, laidKinds := [.data, .data, .data, .data, .sentinel, .sentinel, .pinned, .pinned], laidTests := true, laidLooks := .later }
def RuleMadeUptoCardSaid : Prop := Claim7.holds Tryz.pinned (.plain (OpenSpec.upto ruleMadeSpec)) ruleMadeUptoCard

/-- THE SECOND FORM's CARD OF 'headstocklaw08.RuleLess'. -/
def ruleLessUptoCard : Claim7 := { stood := { row := ruleLessUptoRow, standIns := [], harness := (true, "017d40fd09425b8e43471c4c6b85557daf13bc4c196923166b43bf81b25efd57"), looks := true }, kinds := [], alts := [], laidByText := true, laidKinds := [.data, .data, .data, .data, .sentinel, .sentinel, .pinned, .pinned], laidTests := true, laidLooks := .later }
def RuleLessUptoCardSaid : Prop := Claim7.holds Tryz.pinned (.plain (OpenSpec.upto ruleLessSpec)) ruleLessUptoCard

/-- THE SECOND FORM's CARD OF 'headstocklaw08.RuleTurned'. -/
def ruleTurnedUptoCard : Claim7 := { stood := { row := ruleTurnedUptoRow, standIns := [], harness := (true, "017d40fd09425b8e43471c4c6b85557daf13bc4c196923166b43bf81b25efd57"), looks := true }, kinds := [], alts := [], laidByText := true, laidKinds := [.data, .data, .data, .data, .sentinel, .sentinel, .pinned, .pinned], laidTests := true, laidLooks := .later }
def RuleTurnedUptoCardSaid : Prop := Claim7.holds Tryz.pinned (.plain (OpenSpec.upto ruleTurnedSpec)) ruleTurnedUptoCard

/-- THE SECOND FORM's CARD OF 'headstocklaw08.RuleWrong'. -/
def ruleWrongUptoCard : Claim7 := { stood := { row := ruleWrongUptoRow, standIns := [], harness := (true, "017d40fd09425b8e43471c4c6b85557daf13bc4c196923166b43bf81b25efd57"), looks := true }, kinds := [], alts := [], laidByText := true, laidKinds := [.data, .data, .data, .data, .sentinel, .sentinel, .pinned, .pinned], laidTests := true, laidLooks := .later }
def RuleWrongUptoCardSaid : Prop := Claim7.holds Tryz.pinned (.plain (OpenSpec.upto ruleWrongSpec)) ruleWrongUptoCard

/-- THE SECOND FORM's CARD OF 'headstocklaw08.RuleNames'. -/
def ruleNamesUptoCard : Claim7 := { stood := { row := ruleNamesUptoRow, standIns := [], harness := (true, "017d40fd09425b8e43471c4c6b85557daf13bc4c196923166b43bf81b25efd57"), looks := true }, kinds := [], alts := [], laidByText := true, laidKinds := [.data, .data, .data, .data, .sentinel, .sentinel, .pinned, .pinned], laidTests := true, laidLooks := .later }
def RuleNamesUptoCardSaid : Prop := Claim7.holds Tryz.pinned (.plain (OpenSpec.upto ruleNamesSpec)) ruleNamesUptoCard
end Rows
end Go.Proofs.YthjpcgfcmblkhaaGreatDoor
