/-
  DERIVED. GIVEN WITH THE SEED: THE CARDS: each row of YtammbcohbfhfjaaGreatDoorRows.lean that lists a variable, with what it lists TIED to the program's text (the seventh form; the later family's looks); each row that meets fmt, with fmt's text TOLD by the authors' own Lean function (tested against real Go, not proved from fmt's source: count such statements apart). THE CARD IS WHAT COUNTS. Prove the row's statement (the work); the ties are given (YtammbcohbfhfjaaGreatDoorTie.lean); close each card by the builder's one call (the guide's Derived/Test/ToyasCard.lean, 'card_holds'). Laid BY PROGRAM, IN A SANDBOX (cutbox-door.mjs). By AI agents, Wed Nov 11 2026. No macro, syntax, notation, axiom, sorry.
-/
import Derived.Test.YtammbcohbfhfjaaGreatDoorRows
import GoSem.ClaimSeven
namespace Go.Proofs.YtammbcohbfhfjaaGreatDoor
namespace Rows

/-- THE TIED CARD OF 'gridworklaw30.WaveNames'. -/
def waveNamesCard : Claim7 := { stood := { row := waveNamesRow, standIns := [], harness := (true, "f829c36dccd3aaffdd9925ac2308baaefd7c31647cb8727877413a6413869fd6"), looks := true }, kinds := [], alts := [], laidByText := true, laidKinds := [.data, .data, .widerDeep, .widerDeep, .data, .data, .data, .data, .data, .data, .sentinel, .sentinel, .listed, .data, .pinned, .pinned, .pinned], laidTests := true, laidLooks := .later }
def WaveNamesCardSaid : Prop := Claim7.holds Tryz.pinned (.plain (OpenSpec.ofChange waveNamesSpec)) waveNamesCard

/-- THE SECOND FORM's CARD OF 'gridworklaw30.WaveNames'. -/
def waveNamesUptoCard : Claim7 := { stood := { row := waveNamesUptoRow, standIns := [], harness := (true, "f829c36dccd3aaffdd9925ac2308baaefd7c31647cb8727877413a6413869fd6"), looks := true }, kinds := [], alts := [], laidByText := true, laidKinds := [.data, .data, .widerDeep, .widerDeep, .data, .data, .data, .data, .data, .data, .sentinel, .sentinel, .listed, .data, .pinned, .pinned, .pinned], laidTests := true, laidLooks := .later }
def WaveNamesUptoCardSaid : Prop := Claim7.holds Tryz.pinned (.plain (OpenSpec.upto waveNamesSpec)) waveNamesUptoCard
end Rows
end Go.Proofs.YtammbcohbfhfjaaGreatDoor
