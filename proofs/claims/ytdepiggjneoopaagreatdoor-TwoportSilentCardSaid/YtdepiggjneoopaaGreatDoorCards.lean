/-
  DERIVED. GIVEN WITH THE SEED: THE CARDS: each row of YtdepiggjneoopaaGreatDoorRows.lean that lists a variable, with what it lists TIED to the program's text (the seventh form; the later family's looks); each row that meets fmt, with fmt's text TOLD by the authors' own Lean function (tested against real Go, not proved from fmt's source: count such statements apart). THE CARD IS WHAT COUNTS. Prove the row's statement (the work); the ties are given (YtdepiggjneoopaaGreatDoorTie.lean); close each card by the builder's one call (the guide's Derived/Test/ToyasCard.lean, 'card_holds'). Laid BY PROGRAM, IN A SANDBOX (cutbox-door.mjs). By AI agents, Wed Nov 11 2026. No macro, syntax, notation, axiom, sorry.
-/
import Derived.Test.YtdepiggjneoopaaGreatDoorRows
import GoSem.ClaimSeven
namespace Go.Proofs.YtdepiggjneoopaaGreatDoor
namespace Rows

/-- THE TIED CARD OF 'gridworklaw23.TwoportSilent'. -/
def twoportSilentCard : Claim7 := { stood := { row := twoportSilentRow, standIns := [], harness := (true, "8c2bfc366c2d8a360ec4bef638d655dc63301d50f314cff4af5675619f4391b9"), looks := true }, kinds := [], alts := [], laidByText := true, laidKinds := [.data, .data, .widerDeep, .widerDeep, .data, .data, .data, .data, .data, .data, .sentinel, .sentinel, .listed, .data, .pinned, .pinned, .pinned], laidTests := true, laidLooks := .later }
def TwoportSilentCardSaid : Prop := Claim7.holds Tryz.pinned (.plain (OpenSpec.ofChange twoportSilentSpec)) twoportSilentCard

/-- THE TIED CARD OF 'gridworklaw23.TwoportReal'. -/
def twoportRealCard : Claim7 := { stood := { row := twoportRealRow, standIns := [], harness := (true, "8c2bfc366c2d8a360ec4bef638d655dc63301d50f314cff4af5675619f4391b9"), looks := true }, kinds := [], alts := [], laidByText := true, laidKinds := [.data, .data, .widerDeep, .widerDeep, .data, .data, .data, .data, .data, .data, .sentinel, .sentinel, .listed, .data, .pinned, .pinned, .pinned], laidTests := true, laidLooks := .later }
def TwoportRealCardSaid : Prop := Claim7.holds Tryz.pinned (.plain (OpenSpec.ofChange twoportRealSpec)) twoportRealCard

/-- THE TIED CARD OF 'gridworklaw23.TwoportBack'. -/
def twoportBackCard : Claim7 := { stood := { row := twoportBackRow, standIns := [], harness := (true, "8c2bfc366c2d8a360ec4bef638d655dc63301d50f314cff4af5675619f4391b9"), looks := true }, kinds := [], alts := [], laidByText := true, laidKinds := [.data, .data, .widerDeep, .widerDeep, .data, .data, .data, .data, .data, .data, .sentinel, .sentinel, .listed, .data, .pinned, .pinned, .pinned], laidTests := true, laidLooks := .later }
def TwoportBackCardSaid : Prop := Claim7.holds Tryz.pinned (.plain (OpenSpec.ofChange twoportBackSpec)) twoportBackCard

/-- THE SECOND FORM's CARD OF 'gridworklaw23.TwoportSilent'. -/
def twoportSilentUptoCard : Claim7 := { stood := { row := twoportSilentUptoRow, standIns := [], harness := (true, "8c2bfc366c2d8a360ec4bef638d655dc63301d50f314cff4af5675619f4391b9"), looks := true }, kinds := [], alts := [], laidByText := true, laidKinds := [.data, .data, .widerDeep, .widerDeep, .data, .data, .data, .data, .data, .data, .sentinel, .sentinel, .listed, .data, .pinned, .pinned, .pinned], laidTests := true, laidLooks := .later }
def TwoportSilentUptoCardSaid : Prop := Claim7.holds Tryz.pinned (.plain (OpenSpec.upto twoportSilentSpec)) twoportSilentUptoCard

/-- THE SECOND FORM's CARD OF 'gridworklaw23.TwoportReal'. -/
def twoportRealUptoCard : Claim7 := { stood := { row := twoportRealUptoRow, standIns := [], harness := (true, "8c2bfc366c2d8a360ec4bef638d655dc63301d50f314cff4af5675619f4391b9"), looks := true }, kinds := [], alts := [], laidByText := true, laidKinds := [.data, .data, .widerDeep, .widerDeep, .data, .data, .data, .data, .data, .data, .sentinel, .sentinel, .listed, .data, .pinned, .pinned, .pinned], laidTests := true, laidLooks := .later }
def TwoportRealUptoCardSaid : Prop := Claim7.holds Tryz.pinned (.plain (OpenSpec.upto twoportRealSpec)) twoportRealUptoCard

/-- THE SECOND FORM's CARD OF 'gridworklaw23.TwoportBack'. -/
def twoportBackUptoCard : Claim7 := { stood := { row := twoportBackUptoRow, standIns := [], harness := (true, "8c2bfc366c2d8a360ec4bef638d655dc63301d50f314cff4af5675619f4391b9"), looks := true }, kinds := [], alts := [], laidByText := true, laidKinds := [.data, .data, .widerDeep, .widerDeep, .data, .data, .data, .data, .data, .data, .sentinel, .sentinel, .listed, .data, .pinned, .pinned, .pinned], laidTests := true, laidLooks := .later }
def TwoportBackUptoCardSaid : Prop := Claim7.holds Tryz.pinned (.plain (OpenSpec.upto twoportBackSpec)) twoportBackUptoCard
end Rows
end Go.Proofs.YtdepiggjneoopaaGreatDoor
