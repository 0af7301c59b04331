/-
  DERIVED. GIVEN WITH THE SEED: THE CARDS: each row of YtlfkfnmfpaggoaaGreatDoorRows.lean that lists a variable, with what it lists TIED to the program's text (the seventh form; the later family's looks); each row that meets fmt, with fmt's text TOLD by the authors' own Lean function (tested against real Go, not proved from fmt's source: count such statements apart). THE CARD IS WHAT COUNTS. Prove the row's statement (the work); the ties are given (YtlfkfnmfpaggoaaGreatDoorTie.lean); close each card by the builder's one call (the guide's Derived/Test/ToyasCard.lean, 'card_holds'). Laid BY PROGRAM, IN A SANDBOX (cutbox-door.mjs). By AI agents, Wed Nov 11 2026. No macro, syntax, notation, axiom, sorry.
-/
import Derived.Test.YtlfkfnmfpaggoaaGreatDoorRows
import GoSem.ClaimSeven
namespace Go.Proofs.YtlfkfnmfpaggoaaGreatDoor
namespace Rows

/-- THE TIED CARD OF 'gridworklaw15.NetNames'. -/
def netNamesCard : Claim7 := { stood := { row := netNamesRow, standIns := [], harness := (true, "8fb113526c7112ef223fef4bc96d117273817a32177e7075042e80ad85eb74db"), looks := true }, kinds := [], alts := [], laidByText := true, laidKinds := [.data, .data, .widerDeep, .widerDeep, .data, .data, .data, .data, .data, .data, .sentinel, .sentinel, .listed, .data, .pinned, .pinned, .pinned], laidTests := true, laidLooks := .later }
def NetNamesCardSaid : Prop := Claim7.holds Tryz.pinned (.plain (OpenSpec.ofChange netNamesSpec)) netNamesCard

/-- THE SECOND FORM's CARD OF 'gridworklaw15.NetNames'. -/
def netNamesUptoCard : Claim7 := { stood := { row := netNamesUptoRow, standIns := [], harness := (true, "8fb113526c7112ef223fef4bc96d117273817a32177e7075042e80ad85eb74db"), looks := true }, kinds := [], alts := [], laidByText := true, laidKinds := [.data, .data, .widerDeep, .widerDeep, .data, .data, .data, .data, .data, .data, .sentinel, .sentinel, .listed, .data, .pinned, .pinned, .pinned], laidTests := true, laidLooks := .later }
def NetNamesUptoCardSaid : Prop := Claim7.holds Tryz.pinned (.plain (OpenSpec.upto netNamesSpec)) netNamesUptoCard
end Rows
end Go.Proofs.YtlfkfnmfpaggoaaGreatDoor
