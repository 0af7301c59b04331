/-
  DERIVED. GIVEN WITH THE SEED: THE CARDS: each row of YtapdaebhlpegoaaGreatDoorRows.lean that lists a variable, with what it lists TIED to the program's text (the seventh form; the later family's looks); each row that meets fmt, with fmt's text TOLD by the authors' own Lean function (tested against real Go, not proved from fmt's source: count such statements apart). THE CARD IS WHAT COUNTS. Prove the row's statement (the work); the ties are given (YtapdaebhlpegoaaGreatDoorTie.lean); close each card by the builder's one call (the guide's Derived/Test/ToyasCard.lean, 'card_holds'). Laid BY PROGRAM, IN A SANDBOX (cutbox-door.mjs). By AI agents, Wed Nov 11 2026. No macro, syntax, notation, axiom, sorry.
-/
import Derived.Test.YtapdaebhlpegoaaGreatDoorRows
import GoSem.ClaimSeven
namespace Go.Proofs.YtapdaebhlpegoaaGreatDoor
namespace Rows

/-- THE TIED CARD OF 'gridworklaw23.TwoportNil'. -/
def twoportNilCard : Claim7 := { stood := { row := twoportNilRow, standIns := [], harness := (true, "f462cfd81e3fa7ed23ef7edf099ec1ab23bc76e57fad29002b511d95817d43f6"), looks := true }, kinds := [], alts := [], laidByText := true, laidKinds := [.data, .data, .widerDeep, .widerDeep, .data, .data, .data, .data, .data, .data, .sentinel, .sentinel, .listed, .data, .pinned, .pinned, .pinned], laidTests := true, laidLooks := .later }
def TwoportNilCardSaid : Prop := Claim7.holds Tryz.pinned (.plain (OpenSpec.ofChange twoportNilSpec)) twoportNilCard

/-- THE TIED CARD OF 'gridworklaw23.TwoportNames'. -/
def twoportNamesCard : Claim7 := { stood := { row := twoportNamesRow, standIns := [], harness := (true, "f462cfd81e3fa7ed23ef7edf099ec1ab23bc76e57fad29002b511d95817d43f6"), looks := true }, kinds := [], alts := [], laidByText := true, laidKinds := [.data, .data, .widerDeep, .widerDeep, .data, .data, .data, .data, .data, .data, .sentinel, .sentinel, .listed, .data, .pinned, .pinned, .pinned], laidTests := true, laidLooks := .later }
def TwoportNamesCardSaid : Prop := Claim7.holds Tryz.pinned (.plain (OpenSpec.ofChange twoportNamesSpec)) twoportNamesCard

/-- THE SECOND FORM's CARD OF 'gridworklaw23.TwoportNil'. -/
def twoportNilUptoCard : Claim7 := { stood := { row := twoportNilUptoRow, standIns := [], harness := (true, "f462cfd81e3fa7ed23ef7edf099ec1ab23bc76e57fad29002b511d95817d43f6"), looks := true }, kinds := [], alts := [], laidByText := true, laidKinds := [.data, .data, .widerDeep, .widerDeep, .data, .data, .data, .data, .data, .data, .sentinel, .sentinel, .listed, .data, .pinned, .pinned, .pinned], laidTests := true, laidLooks := .later }
def TwoportNilUptoCardSaid : Prop := Claim7.holds Tryz.pinned (.plain (OpenSpec.upto twoportNilSpec)) twoportNilUptoCard

/-- THE SECOND FORM's CARD OF 'gridworklaw23.TwoportNames'. -/
def twoportNamesUptoCard : Claim7 := { stood := { row := twoportNamesUptoRow, standIns := [], harness := (true, "f462cfd81e3fa7ed23ef7edf099ec1ab23bc76e57fad29002b511d95817d43f6"), looks := true }, kinds := [], alts := [], laidByText := true, laidKinds := [.data, .data, .widerDeep, .widerDeep, .data, .data, .data, .data, .data, .data, .sentinel, .sentinel, .listed, .data, .pinned, .pinned, .pinned], laidTests := true, laidLooks := .later }
def TwoportNamesUptoCardSaid : Prop := Claim7.holds Tryz.pinned (.plain (OpenSpec.upto twoportNamesSpec)) twoportNamesUptoCard
end Rows
end Go.Proofs.YtapdaebhlpegoaaGreatDoor
