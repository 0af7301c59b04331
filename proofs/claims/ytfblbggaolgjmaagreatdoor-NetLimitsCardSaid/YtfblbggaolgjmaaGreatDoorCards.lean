/-
  DERIVED. GIVEN WITH THE SEED: THE CARDS: each row of YtfblbggaolgjmaaGreatDoorRows.lean that lists a variable, with what it lists TIED to the program's text (the seventh form; the later family's looks); each row that meets fmt, with fmt's text TOLD by the authors' own Lean function (tested against real Go, not proved from fmt's source: count such statements apart). THE CARD IS WHAT COUNTS. Prove the row's statement (the work); the ties are given (YtfblbggaolgjmaaGreatDoorTie.lean); close each card by the builder's one call (the guide's Derived/Test/ToyasCard.lean, 'card_holds'). Laid BY PROGRAM, IN A SANDBOX (cutbox-door.mjs). By AI agents, Wed Nov 11 2026. No macro, syntax, notation, axiom, sorry.
-/
import Derived.Test.YtfblbggaolgjmaaGreatDoorRows
import GoSem.ClaimSeven
namespace Go.Proofs.YtfblbggaolgjmaaGreatDoor
namespace Rows

/-- THE TIED CARD OF 'gridworklaw15.NetLimits'. -/
def netLimitsCard : Claim7 := { stood := { row := netLimitsRow, standIns := [], harness := (true, "a2a9dfc31c8bba350673571c23eb24f262695b90d90dbf5554cb7fe7507f5e16"), looks := true }, kinds := [], alts := [], laidByText := true, laidKinds := [.data, .data, .widerDeep, .widerDeep, .data, .data, .data, .data, .data, .data, .sentinel, .sentinel, .listed, .data, .pinned, .pinned, .pinned], laidTests := true, laidLooks := .later }
def NetLimitsCardSaid : Prop := Claim7.holds Tryz.pinned (.plain (OpenSpec.ofChange netLimitsSpec)) netLimitsCard

/-- THE TIED CARD OF 'gridworklaw24.TheveninNames'. -/
def theveninNamesCard : Claim7 := { stood := { row := theveninNamesRow, standIns := [], harness := (true, "a2a9dfc31c8bba350673571c23eb24f262695b90d90dbf5554cb7fe7507f5e16"), looks := true }, kinds := [], alts := [], laidByText := true, laidKinds := [.data, .data, .widerDeep, .widerDeep, .data, .data, .data, .data, .data, .data, .sentinel, .sentinel, .listed, .data, .pinned, .pinned, .pinned], laidTests := true, laidLooks := .later }
def TheveninNamesCardSaid : Prop := Claim7.holds Tryz.pinned (.plain (OpenSpec.ofChange theveninNamesSpec)) theveninNamesCard

/-- THE SECOND FORM's CARD OF 'gridworklaw15.NetLimits'. -/
def netLimitsUptoCard : Claim7 := { stood := { row := netLimitsUptoRow, standIns := [], harness := (true, "a2a9dfc31c8bba350673571c23eb24f262695b90d90dbf5554cb7fe7507f5e16"), looks := true }, kinds := [], alts := [], laidByText := true, laidKinds := [.data, .data, .widerDeep, .widerDeep, .data, .data, .data, .data, .data, .data, .sentinel, .sentinel, .listed, .data, .pinned, .pinned, .pinned], laidTests := true, laidLooks := .later }
def NetLimitsUptoCardSaid : Prop := Claim7.holds Tryz.pinned (.plain (OpenSpec.upto netLimitsSpec)) netLimitsUptoCard

/-- THE SECOND FORM's CARD OF 'gridworklaw24.TheveninNames'. -/
def theveninNamesUptoCard : Claim7 := { stood := { row := theveninNamesUptoRow, standIns := [], harness := (true, "a2a9dfc31c8bba350673571c23eb24f262695b90d90dbf5554cb7fe7507f5e16"), looks := true }, kinds := [], alts := [], laidByText := true, laidKinds := [.data, .data, .widerDeep, .widerDeep, .data, .data, .data, .data, .data, .data, .sentinel, .sentinel, .listed, .data, .pinned, .pinned, .pinned], laidTests := true, laidLooks := .later }
def TheveninNamesUptoCardSaid : Prop := Claim7.holds Tryz.pinned (.plain (OpenSpec.upto theveninNamesSpec)) theveninNamesUptoCard
end Rows
end Go.Proofs.YtfblbggaolgjmaaGreatDoor
