/-
  DERIVED. GIVEN WITH THE SEED: THE CARDS: each row of YtoipjjgflioccaaGreatDoorRows.lean that lists a variable, with what it lists TIED to the program's text (the seventh form; the later family's looks); each row that meets fmt, with fmt's text TOLD by the authors' own Lean function (tested against real Go, not proved from fmt's source: count such statements apart). THE CARD IS WHAT COUNTS. Prove the row's statement (the work); the ties are given (YtoipjjgflioccaaGreatDoorTie.lean); close each card by the builder's one call (the guide's Derived/Test/ToyasCard.lean, 'card_holds'). Laid BY PROGRAM, IN A SANDBOX (cutbox-door.mjs). By AI agents, Wed Nov 11 2026. No macro, syntax, notation, axiom, sorry.
-/
import Derived.Test.YtoipjjgflioccaaGreatDoorRows
import GoSem.ClaimSeven
namespace Go.Proofs.YtoipjjgflioccaaGreatDoor
namespace Rows

/-- THE TIED CARD OF 'gridworklaw05.QuantityNames'. -/
def quantityNamesCard : Claim7 := { stood := { row := quantityNamesRow, standIns := [], harness := (true, "1974e9fdbf82fac9372b996c8af925083dbf9c3690b8838fee1b2610a85d9e8d"), looks := true }, kinds := [], alts := [], laidByText := true, laidKinds := [.data, .data, .widerDeep, .widerDeep, .data, .data, .data, .data, .data, .data, .sentinel, .sentinel, .listed, .data, .pinned, .pinned, .pinned], laidTests := true, laidLooks := .later }
def QuantityNamesCardSaid : Prop := Claim7.holds Tryz.pinned (.plain (OpenSpec.ofChange quantityNamesSpec)) quantityNamesCard

/-- THE TIED CARD OF 'gridworklaw15.NetLimits'. -/
def netLimitsCard : Claim7 := { stood := { row := netLimitsRow, standIns := [], harness := (true, "1974e9fdbf82fac9372b996c8af925083dbf9c3690b8838fee1b2610a85d9e8d"), looks := true }, kinds := [], alts := [], laidByText := true, laidKinds := [.data, .data, .widerDeep, .widerDeep, .data, .data, .data, .data, .data, .data, .sentinel, .sentinel, .listed, .data, .pinned, .pinned, .pinned], laidTests := true, laidLooks := .later }
def NetLimitsCardSaid : Prop := Claim7.holds Tryz.pinned (.plain (OpenSpec.ofChange netLimitsSpec)) netLimitsCard

/-- THE TIED CARD OF 'gridworklaw15.NetNil'. -/
def netNilCard : Claim7 := { stood := { row := netNilRow, standIns := [], harness := (true, "1974e9fdbf82fac9372b996c8af925083dbf9c3690b8838fee1b2610a85d9e8d"), looks := true }, kinds := [], alts := [], laidByText := true, laidKinds := [.data, .data, .widerDeep, .widerDeep, .data, .data, .data, .data, .data, .data, .sentinel, .sentinel, .listed, .data, .pinned, .pinned, .pinned], laidTests := true, laidLooks := .later }
def NetNilCardSaid : Prop := Claim7.holds Tryz.pinned (.plain (OpenSpec.ofChange netNilSpec)) netNilCard

/-- THE SECOND FORM's CARD OF 'gridworklaw05.QuantityNames'. -/
def quantityNamesUptoCard : Claim7 := { stood := { row := quantityNamesUptoRow, standIns := [], harness := (true, "1974e9fdbf82fac9372b996c8af925083dbf9c3690b8838fee1b2610a85d9e8d"), looks := true }, kinds := [], alts := [], laidByText := true, laidKinds := [.data, .data, .widerDeep, .widerDeep, .data, .data, .data, .data, .data, .data, .sentinel, .sentinel, .listed, .data, .pinned, .pinned, .pinned], laidTests := true, laidLooks := .later }
def QuantityNamesUptoCardSaid : Prop := Claim7.holds Tryz.pinned (.plain (OpenSpec.upto quantityNamesSpec)) quantityNamesUptoCard

/-- THE SECOND FORM's CARD OF 'gridworklaw15.NetLimits'. -/
def netLimitsUptoCard : Claim7 := { stood := { row := netLimitsUptoRow, standIns := [], harness := (true, "1974e9fdbf82fac9372b996c8af925083dbf9c3690b8838fee1b2610a85d9e8d"), looks := true }, kinds := [], alts := [], laidByText := true, laidKinds := [.data, .data, .widerDeep, .widerDeep, .data, .data, .data, .data, .data, .data, .sentinel, .sentinel, .listed, .data, .pinned, .pinned, .pinned], laidTests := true, laidLooks := .later }
def NetLimitsUptoCardSaid : Prop := Claim7.holds Tryz.pinned (.plain (OpenSpec.upto netLimitsSpec)) netLimitsUptoCard

/-- THE SECOND FORM's CARD OF 'gridworklaw15.NetNil'. -/
def netNilUptoCard : Claim7 := { stood := { row := netNilUptoRow, standIns := [], harness := (true, "1974e9fdbf82fac9372b996c8af925083dbf9c3690b8838fee1b2610a85d9e8d"), looks := true }, kinds := [], alts := [], laidByText := true, laidKinds := [.data, .data, .widerDeep, .widerDeep, .data, .data, .data, .data, .data, .data, .sentinel, .sentinel, .listed, .data, .pinned, .pinned, .pinned], laidTests := true, laidLooks := .later }
def NetNilUptoCardSaid : Prop := Claim7.holds Tryz.pinned (.plain (OpenSpec.upto netNilSpec)) netNilUptoCard
end Rows
end Go.Proofs.YtoipjjgflioccaaGreatDoor
