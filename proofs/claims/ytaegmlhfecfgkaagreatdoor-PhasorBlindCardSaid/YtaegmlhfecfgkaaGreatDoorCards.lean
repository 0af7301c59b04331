/-
  DERIVED. GIVEN WITH THE SEED: THE CARDS: each row of YtaegmlhfecfgkaaGreatDoorRows.lean that lists a variable, with what it lists TIED to the program's text (the seventh form; the later family's looks); each row that meets fmt, with fmt's text TOLD by the authors' own Lean function (tested against real Go, not proved from fmt's source: count such statements apart). THE CARD IS WHAT COUNTS. Prove the row's statement (the work); the ties are given (YtaegmlhfecfgkaaGreatDoorTie.lean); close each card by the builder's one call (the guide's Derived/Test/ToyasCard.lean, 'card_holds'). Laid BY PROGRAM, IN A SANDBOX (cutbox-door.mjs). By AI agents, Wed Nov 11 2026. No macro, syntax, notation, axiom, sorry.
-/
import Derived.Test.YtaegmlhfecfgkaaGreatDoorRows
import GoSem.ClaimSeven
namespace Go.Proofs.YtaegmlhfecfgkaaGreatDoor
namespace Rows

/-- THE TIED CARD OF 'gridworklaw20.PhasorReal'. -/
def phasorRealCard : Claim7 := { stood := { row := phasorRealRow, standIns := [], harness := (true, "11e36cab8ae5e48fe55ea1438fd50cdcb07deb36a5ca3703f018a9d7cd891573"), looks := true }, kinds := [], alts := [], laidByText := true, laidKinds := [.data, .data, .widerDeep, .widerDeep, .data, .data, .data, .data, .data, .data, .sentinel, .sentinel, .listed, .data, .pinned, .pinned, .pinned], laidTests := true, laidLooks := .later }
def PhasorRealCardSaid : Prop := Claim7.holds Tryz.pinned (.plain (OpenSpec.ofChange phasorRealSpec)) phasorRealCard

/-- THE TIED CARD OF 'gridworklaw20.PhasorBlind'. -/
def phasorBlindCard : Claim7 := { stood := { row := phasorBlindRow, standIns := [], harness := (true, "11e36cab8ae5e48fe55ea1438fd50cdcb07deb36a5ca3703f018a9d7cd891573"), looks := true }, kinds := [], alts := [], laidByText := true, laidKinds := [.data, .data, .widerDeep, .widerDeep, .data, .data, .data, .data, .data, .data, .sentinel, .sentinel, .listed, .data, .pinned, .pinned, .pinned], laidTests := true, laidLooks := .later }
def PhasorBlindCardSaid : Prop := Claim7.holds Tryz.pinned (.plain (OpenSpec.ofChange phasorBlindSpec)) phasorBlindCard

/-- THE SECOND FORM's CARD OF 'gridworklaw20.PhasorReal'. -/
def phasorRealUptoCard : Claim7 := { stood := { row := phasorRealUptoRow, standIns := [], harness := (true, "11e36cab8ae5e48fe55ea1438fd50cdcb07deb36a5ca3703f018a9d7cd891573"), looks := true }, kinds := [], alts := [], laidByText := true, laidKinds := [.data, .data, .widerDeep, .widerDeep, .data, .data, .data, .data, .data, .data, .sentinel, .sentinel, .listed, .data, .pinned, .pinned, .pinned], laidTests := true, laidLooks := .later }
def PhasorRealUptoCardSaid : Prop := Claim7.holds Tryz.pinned (.plain (OpenSpec.upto phasorRealSpec)) phasorRealUptoCard

/-- THE SECOND FORM's CARD OF 'gridworklaw20.PhasorBlind'. -/
def phasorBlindUptoCard : Claim7 := { stood := { row := phasorBlindUptoRow, standIns := [], harness := (true, "11e36cab8ae5e48fe55ea1438fd50cdcb07deb36a5ca3703f018a9d7cd891573"), looks := true }, kinds := [], alts := [], laidByText := true, laidKinds := [.data, .data, .widerDeep, .widerDeep, .data, .data, .data, .data, .data, .data, .sentinel, .sentinel, .listed, .data, .pinned, .pinned, .pinned], laidTests := true, laidLooks := .later }
def PhasorBlindUptoCardSaid : Prop := Claim7.holds Tryz.pinned (.plain (OpenSpec.upto phasorBlindSpec)) phasorBlindUptoCard
end Rows
end Go.Proofs.YtaegmlhfecfgkaaGreatDoor
