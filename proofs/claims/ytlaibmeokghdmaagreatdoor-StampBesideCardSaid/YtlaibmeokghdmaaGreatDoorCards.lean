/-
  DERIVED. GIVEN WITH THE SEED: THE CARDS: each row of YtlaibmeokghdmaaGreatDoorRows.lean that lists a variable, with what it lists TIED to the program's text (the seventh form; the later family's looks); each row that meets fmt, with fmt's text TOLD by the authors' own Lean function (tested against real Go, not proved from fmt's source: count such statements apart). THE CARD IS WHAT COUNTS. Prove the row's statement (the work); the ties are given (YtlaibmeokghdmaaGreatDoorTie.lean); close each card by the builder's one call (the guide's Derived/Test/ToyasCard.lean, 'card_holds'). Laid BY PROGRAM, IN A SANDBOX (cutbox-door.mjs). By AI agents, Wed Nov 11 2026. No macro, syntax, notation, axiom, sorry.
-/
import Derived.Test.YtlaibmeokghdmaaGreatDoorRows
import GoSem.ClaimSeven
namespace Go.Proofs.YtlaibmeokghdmaaGreatDoor
namespace Rows

/-- THE TIED CARD OF 'gridworklaw18.StampMirror'. -/
def stampMirrorCard : Claim7 := { stood := { row := stampMirrorRow, standIns := [], harness := (true, "11cff0c5672a1a1ab30883c1b5cc8310b0fe9bc26d69aa7508e944a31f3079f5"), looks := true }, kinds := [], alts := [], laidByText := true, laidKinds := [.data, .data, .widerDeep, .widerDeep, .data, .data, .data, .data, .data, .data, .sentinel, .sentinel, .listed, .data, .pinned, .pinned, .pinned], laidTests := true, laidLooks := .later }
def StampMirrorCardSaid : Prop := Claim7.holds Tryz.pinned (.plain (OpenSpec.ofChange stampMirrorSpec)) stampMirrorCard

/-- THE TIED CARD OF 'gridworklaw18.StampBeside'. -/
def stampBesideCard : Claim7 := { stood := { row := stampBesideRow, standIns := [], harness := (true, "11cff0c5672a1a1ab30883c1b5cc8310b0fe9bc26d69aa7508e944a31f3079f5"), looks := true }, kinds := [], alts := [], laidByText := true, laidKinds := [.data, .data, .widerDeep, .widerDeep, .data, .data, .data, .data, .data, .data, .sentinel, .sentinel, .listed, .data, .pinned, .pinned, .pinned], laidTests := true, laidLooks := .later }
def StampBesideCardSaid : Prop := Claim7.holds Tryz.pinned (.plain (OpenSpec.ofChange stampBesideSpec)) stampBesideCard

/-- THE TIED CARD OF 'gridworklaw21.CurrentTurned'. -/
def currentTurnedCard : Claim7 := { stood := { row := currentTurnedRow, standIns := [], harness := (true, "11cff0c5672a1a1ab30883c1b5cc8310b0fe9bc26d69aa7508e944a31f3079f5"), looks := true }, kinds := [], alts := [], laidByText := true, laidKinds := [.data, .data, .widerDeep, .widerDeep, .data, .data, .data, .data, .data, .data, .sentinel, .sentinel, .listed, .data, .pinned, .pinned, .pinned], laidTests := true, laidLooks := .later }
def CurrentTurnedCardSaid : Prop := Claim7.holds Tryz.pinned (.plain (OpenSpec.ofChange currentTurnedSpec)) currentTurnedCard

/-- THE SECOND FORM's CARD OF 'gridworklaw18.StampMirror'. -/
def stampMirrorUptoCard : Claim7 := { stood := { row := stampMirrorUptoRow, standIns := [], harness := (true, "11cff0c5672a1a1ab30883c1b5cc8310b0fe9bc26d69aa7508e944a31f3079f5"), looks := true }, kinds := [], alts := [], laidByText := true, laidKinds := [.data, .data, .widerDeep, .widerDeep, .data, .data, .data, .data, .data, .data, .sentinel, .sentinel, .listed, .data, .pinned, .pinned, .pinned], laidTests := true, laidLooks := .later }
def StampMirrorUptoCardSaid : Prop := Claim7.holds Tryz.pinned (.plain (OpenSpec.upto stampMirrorSpec)) stampMirrorUptoCard

/-- THE SECOND FORM's CARD OF 'gridworklaw18.StampBeside'. -/
def stampBesideUptoCard : Claim7 := { stood := { row := stampBesideUptoRow, standIns := [], harness := (true, "11cff0c5672a1a1ab30883c1b5cc8310b0fe9bc26d69aa7508e944a31f3079f5"), looks := true }, kinds := [], alts := [], laidByText := true, laidKinds := [.data, .data, .widerDeep, .widerDeep, .data, .data, .data, .data, .data, .data, .sentinel, .sentinel, .listed, .data, .pinned, .pinned, .pinned], laidTests := true, laidLooks := .later }
def StampBesideUptoCardSaid : Prop := Claim7.holds Tryz.pinned (.plain (OpenSpec.upto stampBesideSpec)) stampBesideUptoCard

/-- THE SECOND FORM's CARD OF 'gridworklaw21.CurrentTurned'. -/
def currentTurnedUptoCard : Claim7 := { stood := { row := currentTurnedUptoRow, standIns := [], harness := (true, "11cff0c5672a1a1ab30883c1b5cc8310b0fe9bc26d69aa7508e944a31f3079f5"), looks := true }, kinds := [], alts := [], laidByText := true, laidKinds := [.data, .data, .widerDeep, .widerDeep, .data, .data, .data, .data, .data, .data, .sentinel, .sentinel, .listed, .data, .pinned, .pinned, .pinned], laidTests := true, laidLooks := .later }
def CurrentTurnedUptoCardSaid : Prop := Claim7.holds Tryz.pinned (.plain (OpenSpec.upto currentTurnedSpec)) currentTurnedUptoCard
end Rows
end Go.Proofs.YtlaibmeokghdmaaGreatDoor
