/-
  DERIVED. GIVEN WITH THE SEED: THE CARDS: each row of YtjeedckmkicnoaaGreatDoorRows.lean that lists a variable, with what it lists TIED to the program's text (the seventh form; the later family's looks); each row that meets fmt, with fmt's text TOLD by the authors' own Lean function (tested against real Go, not proved from fmt's source: count such statements apart). THE CARD IS WHAT COUNTS. Prove the row's statement (the work); the ties are given (YtjeedckmkicnoaaGreatDoorTie.lean); close each card by the builder's one call (the guide's Derived/Test/ToyasCard.lean, 'card_holds'). Laid BY PROGRAM, IN A SANDBOX (cutbox-door.mjs). By AI agents, Wed Nov 11 2026. No macro, syntax, notation, axiom, sorry.
-/
import Derived.Test.YtjeedckmkicnoaaGreatDoorRows
import GoSem.ClaimSeven
namespace Go.Proofs.YtjeedckmkicnoaaGreatDoor
namespace Rows

/-- THE TIED CARD OF 'gridworklaw20.PhasorScales'. -/
def phasorScalesCard : Claim7 := { stood := { row := phasorScalesRow, standIns := [], harness := (true, "2c917cdfe9f77b6c9f9dcacaaa3535340650307570dcbfc222d9b4ec55cd89d5"), looks := true }, kinds := [], alts := [], laidByText := true, laidKinds := [.data, .data, .widerDeep, .widerDeep, .data, .data, .data, .data, .data, .data, .sentinel, .sentinel, .listed, .data, .pinned, .pinned, .pinned], laidTests := true, laidLooks := .later }
def PhasorScalesCardSaid : Prop := Claim7.holds Tryz.pinned (.plain (OpenSpec.ofChange phasorScalesSpec)) phasorScalesCard

/-- THE TIED CARD OF 'gridworklaw20.PhasorAsks'. -/
def phasorAsksCard : Claim7 := { stood := { row := phasorAsksRow, standIns := [], harness := (true, "2c917cdfe9f77b6c9f9dcacaaa3535340650307570dcbfc222d9b4ec55cd89d5"), looks := true }, kinds := [], alts := [], laidByText := true, laidKinds := [.data, .data, .widerDeep, .widerDeep, .data, .data, .data, .data, .data, .data, .sentinel, .sentinel, .listed, .data, .pinned, .pinned, .pinned], laidTests := true, laidLooks := .later }
def PhasorAsksCardSaid : Prop := Claim7.holds Tryz.pinned (.plain (OpenSpec.ofChange phasorAsksSpec)) phasorAsksCard

/-- THE SECOND FORM's CARD OF 'gridworklaw20.PhasorScales'. -/
def phasorScalesUptoCard : Claim7 := { stood := { row := phasorScalesUptoRow, standIns := [], harness := (true, "2c917cdfe9f77b6c9f9dcacaaa3535340650307570dcbfc222d9b4ec55cd89d5"), looks := true }, kinds := [], alts := [], laidByText := true, laidKinds := [.data, .data, .widerDeep, .widerDeep, .data, .data, .data, .data, .data, .data, .sentinel, .sentinel, .listed, .data, .pinned, .pinned, .pinned], laidTests := true, laidLooks := .later }
def PhasorScalesUptoCardSaid : Prop := Claim7.holds Tryz.pinned (.plain (OpenSpec.upto phasorScalesSpec)) phasorScalesUptoCard

/-- THE SECOND FORM's CARD OF 'gridworklaw20.PhasorAsks'. -/
def phasorAsksUptoCard : Claim7 := { stood := { row := phasorAsksUptoRow, standIns := [], harness := (true, "2c917cdfe9f77b6c9f9dcacaaa3535340650307570dcbfc222d9b4ec55cd89d5"), looks := true }, kinds := [], alts := [], laidByText := true, laidKinds := [.data, .data, .widerDeep, .widerDeep, .data, .data, .data, .data, .data, .data, .sentinel, .sentinel, .listed, .data, .pinned, .pinned, .pinned], laidTests := true, laidLooks := .later }
def PhasorAsksUptoCardSaid : Prop := Claim7.holds Tryz.pinned (.plain (OpenSpec.upto phasorAsksSpec)) phasorAsksUptoCard
end Rows
end Go.Proofs.YtjeedckmkicnoaaGreatDoor
