/-
  DERIVED. GIVEN WITH THE SEED: THE CARDS: each row of YtjbjpooafphpnaaGreatDoorRows.lean that lists a variable, with what it lists TIED to the program's text (the seventh form; the later family's looks); each row that meets fmt, with fmt's text TOLD by the authors' own Lean function (tested against real Go, not proved from fmt's source: count such statements apart). THE CARD IS WHAT COUNTS. Prove the row's statement (the work); the ties are given (YtjbjpooafphpnaaGreatDoorTie.lean); close each card by the builder's one call (the guide's Derived/Test/ToyasCard.lean, 'card_holds'). Laid BY PROGRAM, IN A SANDBOX (cutbox-door.mjs). By AI agents, Wed Nov 11 2026. No macro, syntax, notation, axiom, sorry.
-/
import Derived.Test.YtjbjpooafphpnaaGreatDoorRows
import GoSem.ClaimSeven
namespace Go.Proofs.YtjbjpooafphpnaaGreatDoor
namespace Rows

/-- THE TIED CARD OF 'headstocklaw07.ReaderParens'. -/
def readerParensCard : Claim7 := { stood := { row := readerParensRow, standIns := [], harness := (true, "fe2cb4dd79a6f0cad60a21e643f6e3f04cbead4094c8084f6241348c96747ef4"), looks := true }, kinds := [], alts := [], laidByText := true, laidKinds := [.data, .data, .data, .data, .sentinel, .sentinel, .pinned, .pinned], laidTests := true, laidLooks := .later }
def ReaderParensCardSaid : Prop := Claim7.holds Tryz.pinned (.plain (OpenSpec.ofChange readerParensSpec)) readerParensCard

/-- THE TIED CARD OF 'headstocklaw07.ReaderDeep'. -/
def readerDeepCard : Claim7 := { stood := { row := readerDeepRow, standIns := [], harness := (true, "fe2cb4dd79a6f0cad60a21e643f6e3f04cbead4094c8084f6241348c96747ef4"), looks := true }, kinds := [], alts := [], laidByText := true, laidKinds := [.data, .data, .data, .data, .sentinel, .sentinel, .pinned, .pinned], laidTests := true, laidLooks := .later }
def ReaderDeepCardSaid : Prop := Claim7.holds Tryz.pinned (.plain (OpenSpec.ofChange readerDeepSpec)) readerDeepCard

/-- THE TIED CARD OF 'headstocklaw07.ReaderCuts'. -/
def readerCutsCard : Claim7 := { stood := { row := readerCutsRow, standIns := [], harness := (true, "fe2cb4dd79a6f0cad60a21e643f6e3f04cbead4094c8084f6241348c96747ef4"), looks := true }, kinds := [], alts := [], laidByText := true, laidKinds := [.data, .data, .data, .data, .sentinel, .sentinel, .pinned, .pinned], laidTests := true, laidLooks := .later }
def ReaderCutsCardSaid : Prop := Claim7.holds Tryz.pinned (.plain (OpenSpec.ofChange readerCutsSpec)) readerCutsCard

/-- THE TIED CARD OF 'headstocklaw07.ReaderLines'. -/
def readerLinesCard : Claim7 := { stood := { row := readerLinesRow, standIns := [], harness := (true, "fe2cb4dd79a6f0cad60a21e643f6e3f04cbead4094c8084f6241348c96747ef4"), looks := true }, kinds := [], alts := [], laidByText := true, laidKinds := [.data, .data, .data, .data, .sentinel, .sentinel, .pinned, .pinned], laidTests := true, laidLooks := .later }
def ReaderLinesCardSaid : Prop := Claim7.holds Tryz.pinned (.plain (OpenSpec.ofChange readerLinesSpec)) readerLinesCard

/-- THE TIED CARD OF 'headstocklaw07.ReaderBack'. -/
def readerBackCard : Claim7 := { stood := { row := readerBackRow, standIns := [], harness := (true, "fe2cb4dd79a6f0cad60a21e643f6e3f04cbead4094c8084f6241348c96747ef4"), looks := true }, kinds := [], alts := [], laidByText := true, laidKinds := [.data, .data, .data, .data, .sentinel, .sentinel, .pinned, .pinned], laidTests := true, laidLooks := .later }
def ReaderBackCardSaid : Prop := Claim7.holds Tryz.pinned (.plain (OpenSpec.ofChange readerBackSpec)) readerBackCard

/-- THE TIED CARD OF 'headstocklaw07.ReaderForth'. -/
def readerForthCard : Claim7 := { stood := { row := readerForthRow, standIns := [], harness := (true, "fe2cb4dd79a6f0cad60a21e643f6e3f04cbead4094c8084f6241348c96747ef4"), looks := true }, kinds := [], alts := [], laidByText := true, laidKinds := [.data, .data, .data, .data, .sentinel, .sentinel, .pinned, .pinned], laidTests := true, laidLooks := .later }
def ReaderForthCardSaid : Prop := Claim7.holds Tryz.pinned (.plain (OpenSpec.ofChange readerForthSpec)) readerForthCard

/-- THE TIED CARD OF 'headstocklaw07.ReaderBlanks'. -/
def readerBlanksCard : Claim7 := { stood := { row := readerBlanksRow, standIns := [], harness := (true, "fe2cb4dd79a6f0cad60a21e643f6e3f04cbead4094c8084f6241348c96747ef4"), looks := true }, kinds := [], alts := [], laidByText := true, laidKinds := [.data, .data, .data, .data, .sentinel, .sentinel, .pinned, .pinned], laidTests := true, laidLooks := .later }
def ReaderBlanksCardSaid : Prop := Claim7.holds Tryz.pinned (.plain (OpenSpec.ofChange readerBlanksSpec)) readerBlanksCard

/-- THE SECOND FORM's CARD OF 'headstocklaw07.ReaderParens'. -/
def readerParensUptoCard : Claim7 := { stood := { row := readerParensUptoRow, standIns := [], harness := (true, "fe2cb4dd79a6f0cad60a21e643f6e3f04cbead4094c8084f6241348c96747ef4"), looks := true }, kinds := [], alts := [], laidByText := true, laidKinds := [.data, .data, .data, .data, .sentinel, .sentinel, .pinned, .pinned], laidTests := true, laidLooks := .later }
def ReaderParensUptoCardSaid : Prop := Claim7.holds Tryz.pinned (.plain (OpenSpec.upto readerParensSpec)) readerParensUptoCard

/-- THE SECOND FORM's CARD OF 'headstocklaw07.ReaderDeep'. -/
def readerDeepUptoCard : Claim7 := { stood := { row := readerDeepUptoRow, standIns := [], harness := (true, "fe2cb4dd79a6f0cad60a21e643f6e3f04cbead4094c8084f6241348c96747ef4"), looks := true }, kinds := [], alts := [], laidByText := true, laidKinds := [.data, .data, .data, .data, .sentinel, .sentinel, .pinned, .pinned], laidTests := true, laidLooks := .later }
def ReaderDeepUptoCardSaid : Prop := Claim7.holds Tryz.pinned (.plain (OpenSpec.upto readerDeepSpec)) readerDeepUptoCard

/-- THE SECOND FORM's CARD OF 'headstocklaw07.ReaderCuts'. -/
def readerCutsUptoCard : Claim7 := { stood := { row := readerCutsUptoRow, standIns := [], harness := (true, "fe2cb4dd79a6f0cad60a21e643f6e3f04cbead4094c8084f6241348c96747ef4"), looks := true }, kinds := [], alts := [], laidByText := true, laidKinds := [.data, .data, .data, .data, .sentinel, .sentinel, .pinned, .pinned], laidTests := true, laidLooks := .later }
def ReaderCutsUptoCardSaid : Prop := Claim7.holds Tryz.pinned (.plain (OpenSpec.upto readerCutsSpec)) readerCutsUptoCard

/-- THE SECOND FORM's CARD OF 'headstocklaw07.ReaderLines'. -/
def readerLinesUptoCard : Claim7 := { stood := { row := readerLinesUptoRow, standIns := [], harness := (true, "fe2cb4dd79a6f0cad60a21e643f6e3f04cbead4094c8084f6241348c96747ef4"), looks := true }, kinds := [], alts := [], laidByText := true, laidKinds := [.data, .data, .data, .data, .sentinel, .sentinel, .pinned, .pinned], laidTests := true, laidLooks := .later }
def ReaderLinesUptoCardSaid : Prop := Claim7.holds Tryz.pinned (.plain (OpenSpec.upto readerLinesSpec)) readerLinesUptoCard

/-- THE SECOND FORM's CARD OF 'headstocklaw07.ReaderBack'. -/
def readerBackUptoCard : Claim7 := { stood := { row := readerBackUptoRow, standIns := [], harness := (true, "fe2cb4dd79a6f0cad60a21e643f6e3f04cbead4094c8084f6241348c96747ef4"), looks := true }, kinds := [], alts := [], laidByText := true, laidKinds := [.data, .data, .data, .data, .sentinel, .sentinel, .pinned, .pinned], laidTests := true, laidLooks := .later }
def ReaderBackUptoCardSaid : Prop := Claim7.holds Tryz.pinned (.plain (OpenSpec.upto readerBackSpec)) readerBackUptoCard

/-- THE SECOND FORM's CARD OF 'headstocklaw07.ReaderForth'. -/
def readerForthUptoCard : Claim7 := { stood := { row := readerForthUptoRow, standIns := [], harness := (true, "fe2cb4dd79a6f0cad60a21e643f6e3f04cbead4094c8084f6241348c96747ef4"), looks := true }, kinds := [], alts := [], laidByText := true, laidKinds := [.data, .data, .data, .data, .sentinel, .sentinel, .pinned, .pinned], laidTests := true, laidLooks := .later }
def ReaderForthUptoCardSaid : Prop := Claim7.holds Tryz.pinned (.plain (OpenSpec.upto readerForthSpec)) readerForthUptoCard

/-- THE SECOND FORM's CARD OF 'headstocklaw07.ReaderBlanks'. -/
def readerBlanksUptoCard : Claim7 := { stood := { row := readerBlanksUptoRow, standIns := [], harness := (true, "fe2cb4dd79a6f0cad60a21e643f6e3f04cbead4094c8084f6241348c96747ef4"), looks := true }, kinds := [], alts := [], laidByText := true, laidKinds := [.data, .data, .data, .data, .sentinel, .sentinel, .pinned, .pinned], laidTests := true, laidLooks := .later }
def ReaderBlanksUptoCardSaid : Prop := Claim7.holds Tryz.pinned (.plain (OpenSpec.upto readerBlanksSpec)) readerBlanksUptoCard
end Rows
end Go.Proofs.YtjbjpooafphpnaaGreatDoor
