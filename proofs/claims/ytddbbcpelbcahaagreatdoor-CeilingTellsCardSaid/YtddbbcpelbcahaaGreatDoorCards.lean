/-
  DERIVED. GIVEN WITH THE SEED: THE CARDS: each row of YtddbbcpelbcahaaGreatDoorRows.lean that lists a variable, with what it lists TIED to the program's text (the seventh form; the later family's looks); each row that meets fmt, with fmt's text TOLD by the authors' own Lean function (tested against real Go, not proved from fmt's source: count such statements apart). THE CARD IS WHAT COUNTS. Prove the row's statement (the work); the ties are given (YtddbbcpelbcahaaGreatDoorTie.lean); close each card by the builder's one call (the guide's Derived/Test/ToyasCard.lean, 'card_holds'). Laid BY PROGRAM, IN A SANDBOX (cutbox-door.mjs). By AI agents, Wed Nov 11 2026. No macro, syntax, notation, axiom, sorry.
-/
import Derived.Test.YtddbbcpelbcahaaGreatDoorRows
import GoSem.ClaimSeven
namespace Go.Proofs.YtddbbcpelbcahaaGreatDoor
namespace Rows

/-- THE TIED CARD OF 'headstocklaw09.CeilingTells'. -/
def ceilingTellsCard : Claim7 := { stood := { row := ceilingTellsRow, standIns := [], harness := (true, "bcb28657db6ff2ed4eddd00ab442af1015a415a8df2dc1ac6e2cc8b5353854e0"), looks := true }, kinds := [], alts := [], laidByText := true, laidKinds := [.data, .data, .data, .data, .sentinel, .sentinel, .pinned, .pinned], laidTests := true, laidLooks := .later }
def CeilingTellsCardSaid : Prop := Claim7.holds Tryz.pinned (.plain (OpenSpec.ofChange ceilingTellsSpec)) ceilingTellsCard

/-- THE TIED CARD OF 'headstocklaw09.CeilingKeeps'. -/
def ceilingKeepsCard : Claim7 := { stood := { row := ceilingKeepsRow, standIns := [], harness := (true, "bcb28657db6ff2ed4eddd00ab442af1015a415a8df2dc1ac6e2cc8b5353854e0"), looks := true }, kinds := [], alts := [], laidByText := true, laidKinds := [.data, .data, .data, .data, .sentinel, .sentinel, .pinned, .pinned], laidTests := true, laidLooks := .later }
def CeilingKeepsCardSaid : Prop := Claim7.holds Tryz.pinned (.plain (OpenSpec.ofChange ceilingKeepsSpec)) ceilingKeepsCard

/-- THE TIED CARD OF 'headstocklaw09.CeilingFewer'. -/
def ceilingFewerCard : Claim7 := { stood := { row := ceilingFewerRow, standIns := [], harness := (true, "bcb28657db6ff2ed4eddd00ab442af1015a415a8df2dc1ac6e2cc8b5353854e0"), looks := true }, kinds := [], alts := [], laidByText := true, laidKinds := [.data, .data, .data, .data, .sentinel, .sentinel, .pinned, .pinned], laidTests := true, laidLooks := .later }
def CeilingFewerCardSaid : Prop := Claim7.holds Tryz.pinned (.plain (OpenSpec.ofChange ceilingFewerSpec)) ceilingFewerCard

/-- THE TIED CARD OF 'headstocklaw09.CeilingChain'. -/
def ceilingChainCard : Claim7 := { stood := { row := ceilingChainRow, standIns := [], harness := (true, "bcb28657db6ff2ed4eddd00ab442af1015a415a8df2dc1ac6e2cc8b5353854e0"), looks := true }, kinds := [], alts := [], laidByText := true, laidKinds := [.data, .data, .data, .data, .sentinel, .sentinel, .pinned, .pinned], laidTests := true, laidLooks := .later }
def CeilingChainCardSaid : Prop := Claim7.holds Tryz.pinned (.plain (OpenSpec.ofChange ceilingChainSpec)) ceilingChainCard

/-- THE TIED CARD OF 'headstocklaw09.CeilingMore'. -/
def ceilingMoreCard : Claim7 := { stood := { row := ceilingMoreRow, standIns := [], harness := (true, "bcb28657db6ff2ed4eddd00ab442af1015a415a8df2dc1ac6e2cc8b5353854e0"), looks := true }, kinds := [], alts := [], laidByText := true, laidKinds := [.data, .data, .data, .data, .sentinel, .sentinel, .pinned, .pinned], laidTests := true, laidLooks := .later }
def CeilingMoreCardSaid : Prop := Claim7.holds Tryz.pinned (.plain (OpenSpec.ofChange ceilingMoreSpec)) ceilingMoreCard

/-- THE TIED CARD OF 'headstocklaw09.CeilingOrder'. -/
def ceilingOrderCard : Claim7 := { stood := { row := ceilingOrderRow, standIns := [], harness := (true, "bcb28657db6ff2ed4eddd00ab442af1015a415a8df2dc1ac6e2cc8b5353854e0"), looks := true }, kinds := [], alts := [], laidByText := true, laidKinds := [.data, .data, .data, .data, .sentinel, .sentinel, .pinned, .pinned], laidTests := true, laidLooks := .later }
def CeilingOrderCardSaid : Prop := Claim7.holds Tryz.pinned (.plain (OpenSpec.ofChange ceilingOrderSpec)) ceilingOrderCard

/-- THE SECOND FORM's CARD OF 'headstocklaw09.CeilingTells'. -/
def ceilingTellsUptoCard : Claim7 := { stood := { row := ceilingTellsUptoRow, standIns := [], harness := (true, "bcb28657db6ff2ed4eddd00ab442af1015a415a8df2dc1ac6e2cc8b5353854e0"), looks := true }, kinds := [], alts := [], laidByText := true, laidKinds := [.data, .data, .data, .data, .sentinel, .sentinel, .pinned, .pinned], laidTests := true, laidLooks := .later }
def CeilingTellsUptoCardSaid : Prop := Claim7.holds Tryz.pinned (.plain (OpenSpec.upto ceilingTellsSpec)) ceilingTellsUptoCard

/-- THE SECOND FORM's CARD OF 'headstocklaw09.CeilingKeeps'. -/
def ceilingKeepsUptoCard : Claim7 := { stood := { row := ceilingKeepsUptoRow, standIns := [], harness := (true, "bcb28657db6ff2ed4eddd00ab442af1015a415a8df2dc1ac6e2cc8b5353854e0"), looks := true }, kinds := [], alts := [], laidByText := true, laidKinds := [.data, .data, .data, .data, .sentinel, .sentinel, .pinned, .pinned], laidTests := true, laidLooks := .later }
def CeilingKeepsUptoCardSaid : Prop := Claim7.holds Tryz.pinned (.plain (OpenSpec.upto ceilingKeepsSpec)) ceilingKeepsUptoCard

/-- THE SECOND FORM's CARD OF 'headstocklaw09.CeilingFewer'. -/
def ceilingFewerUptoCard : Claim7 := { stood := { row := ceilingFewerUptoRow, standIns := [], harness := (true, "bcb28657db6ff2ed4eddd00ab442af1015a415a8df2dc1ac6e2cc8b5353854e0"), looks := true }, kinds := [], alts := [], laidByText := true, laidKinds := [.data, .data, .data, .data, .sentinel, .sentinel, .pinned, .pinned], laidTests := true, laidLooks := .later }
def CeilingFewerUptoCardSaid : Prop := Claim7.holds Tryz.pinned (.plain (OpenSpec.upto ceilingFewerSpec)) ceilingFewerUptoCard

/-- THE SECOND FORM's CARD OF 'headstocklaw09.CeilingChain'. -/
def ceilingChainUptoCard : Claim7 := { stood := { row := ceilingChainUptoRow, standIns := [], harness := (true, "bcb28657db6ff2ed4eddd00ab442af1015a415a8df2dc1ac6e2cc8b5353854e0"), looks := true }, kinds := [], alts := [], laidByText := true, laidKinds := [.data, .data, .data, .data, .sentinel, .sentinel, .pinned, .pinned], laidTests := true, laidLooks := .later }
def CeilingChainUptoCardSaid : Prop := Claim7.holds Tryz.pinned (.plain (OpenSpec.upto ceilingChainSpec)) ceilingChainUptoCard

/-- THE SECOND FORM's CARD OF 'headstocklaw09.CeilingMore'. -/
def ceilingMoreUptoCard : Claim7 := { stood := { row := ceilingMoreUptoRow, standIns := [], harness := (true, "bcb28657db6ff2ed4eddd00ab442af1015a415a8df2dc1ac6e2cc8b5353854e0"), looks := true }, kinds := [], alts := [], laidByText := true, laidKinds := [.data, .data, .data, .data, .sentinel, .sentinel, .pinned, .pinned], laidTests := true, laidLooks := .later }
def CeilingMoreUptoCardSaid : Prop := Claim7.holds Tryz.pinned (.plain (OpenSpec.upto ceilingMoreSpec)) ceilingMoreUptoCard

/-- THE SECOND FORM's CARD OF 'headstocklaw09.CeilingOrder'. -/
def ceilingOrderUptoCard : Claim7 := { stood := { row := ceilingOrderUptoRow, standIns := [], harness := (true, "bcb28657db6ff2ed4eddd00ab442af1015a415a8df2dc1ac6e2cc8b5353854e0"), looks := true }, kinds := [], alts := [], laidByText := true, laidKinds := [.data, .data, .data, .data, .sentinel, .sentinel, .pinned, .pinned], laidTests := true, laidLooks := .later }
def CeilingOrderUptoCardSaid : Prop := Claim7.holds Tryz.pinned (.plain (OpenSpec.upto ceilingOrderSpec)) ceilingOrderUptoCard
end Rows
end Go.Proofs.YtddbbcpelbcahaaGreatDoor
