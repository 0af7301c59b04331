/-
  DERIVED. GIVEN WITH THE SEED: THE CARDS: each row of YtjabmdgdempbeaaGreatDoorRows.lean that lists a variable, with what it lists TIED to the program's text (the seventh form; the later family's looks); each row that meets fmt, with fmt's text TOLD by the authors' own Lean function (tested against real Go, not proved from fmt's source: count such statements apart). THE CARD IS WHAT COUNTS. Prove the row's statement (the work); the ties are given (YtjabmdgdempbeaaGreatDoorTie.lean); close each card by the builder's one call (the guide's Derived/Test/ToyasCard.lean, 'card_holds'). Laid BY PROGRAM, IN A SANDBOX (cutbox-door.mjs). By AI agents, Wed Nov 11 2026. No macro, syntax, notation, axiom, sorry.
-/
import Derived.Test.YtjabmdgdempbeaaGreatDoorRows
import GoSem.ClaimSeven
namespace Go.Proofs.YtjabmdgdempbeaaGreatDoor
namespace Rows

/-- THE TIED CARD OF 'gridworklaw20.PhasorNames'. -/
def phasorNamesCard : Claim7 := { stood := { row := phasorNamesRow, standIns := [], harness := (true, "0d411478b474ac6b2d091e9d4dc79b1ceb6b06161348e6357a6be26a77dd3d63"), looks := true }, kinds := [], alts := [], laidByText := true, laidKinds := [.data, .data, .widerDeep, .widerDeep, .data, .data, .data, .data, .data, .data, .sentinel, .sentinel, .listed, .data, .pinned, .pinned, .pinned], laidTests := true, laidLooks := .later }
def PhasorNamesCardSaid : Prop := Claim7.holds Tryz.pinned (.plain (OpenSpec.ofChange phasorNamesSpec)) phasorNamesCard

/-- THE TIED CARD OF 'gridworklaw20.PhasorNil'. -/
def phasorNilCard : Claim7 := { stood := { row := phasorNilRow, standIns := [], harness := (true, "0d411478b474ac6b2d091e9d4dc79b1ceb6b06161348e6357a6be26a77dd3d63"), looks := true }, kinds := [], alts := [], laidByText := true, laidKinds := [.data, .data, .widerDeep, .widerDeep, .data, .data, .data, .data, .data, .data, .sentinel, .sentinel, .listed, .data, .pinned, .pinned, .pinned], laidTests := true, laidLooks := .later }
def PhasorNilCardSaid : Prop := Claim7.holds Tryz.pinned (.plain (OpenSpec.ofChange phasorNilSpec)) phasorNilCard

/-- THE SECOND FORM's CARD OF 'gridworklaw20.PhasorNames'. -/
def phasorNamesUptoCard : Claim7 := { stood := { row := phasorNamesUptoRow, standIns := [], harness := (true, "0d411478b474ac6b2d091e9d4dc79b1ceb6b06161348e6357a6be26a77dd3d63"), looks := true }, kinds := [], alts := [], laidByText := true, laidKinds := [.data, .data, .widerDeep, .widerDeep, .data, .data, .data, .data, .data, .data, .sentinel, .sentinel, .listed, .data, .pinned, .pinned, .pinned], laidTests := true, laidLooks := .later }
def PhasorNamesUptoCardSaid : Prop := Claim7.holds Tryz.pinned (.plain (OpenSpec.upto phasorNamesSpec)) phasorNamesUptoCard

/-- THE SECOND FORM's CARD OF 'gridworklaw20.PhasorNil'. -/
def phasorNilUptoCard : Claim7 := { stood := { row := phasorNilUptoRow, standIns := [], harness := (true, "0d411478b474ac6b2d091e9d4dc79b1ceb6b06161348e6357a6be26a77dd3d63"), looks := true }, kinds := [], alts := [], laidByText := true, laidKinds := [.data, .data, .widerDeep, .widerDeep, .data, .data, .data, .data, .data, .data, .sentinel, .sentinel, .listed, .data, .pinned, .pinned, .pinned], laidTests := true, laidLooks := .later }
def PhasorNilUptoCardSaid : Prop := Claim7.holds Tryz.pinned (.plain (OpenSpec.upto phasorNilSpec)) phasorNilUptoCard
end Rows
end Go.Proofs.YtjabmdgdempbeaaGreatDoor
