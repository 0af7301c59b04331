/-
  DERIVED. GIVEN WITH THE SEED: THE CARDS: each row of YtfljneapjcnpiaaGreatDoorRows.lean that lists a variable, with what it lists TIED to the program's text (the seventh form; the later family's looks); each row that meets fmt, with fmt's text TOLD by the authors' own Lean function (tested against real Go, not proved from fmt's source: count such statements apart). THE CARD IS WHAT COUNTS. Prove the row's statement (the work); the ties are given (YtfljneapjcnpiaaGreatDoorTie.lean); close each card by the builder's one call (the guide's Derived/Test/ToyasCard.lean, 'card_holds'). Laid BY PROGRAM, IN A SANDBOX (cutbox-door.mjs). By AI agents, Wed Nov 11 2026. No macro, syntax, notation, axiom, sorry.
-/
import Derived.Test.YtfljneapjcnpiaaGreatDoorRows
import GoSem.ClaimSeven
namespace Go.Proofs.YtfljneapjcnpiaaGreatDoor
namespace Rows

/-- THE TIED CARD OF 'gridworklaw23.TwoportSides'. -/
def twoportSidesCard : Claim7 := { stood := { row := twoportSidesRow, standIns := [], harness := (true, "627493e39d936ccbe1f753f771dd5daf125f32ea50aa745fac3ac858f5943423"), looks := true }, kinds := [], alts := [], laidByText := true, laidKinds := [.data, .data, .widerDeep, .widerDeep, .data, .data, .data, .data, .data, .data, .sentinel, .sentinel, .listed, .data, .pinned, .pinned, .pinned], laidTests := true, laidLooks := .later }
def TwoportSidesCardSaid : Prop := Claim7.holds Tryz.pinned (.plain (OpenSpec.ofChange twoportSidesSpec)) twoportSidesCard

/-- THE TIED CARD OF 'gridworklaw23.TwoportBack'. -/
def twoportBackCard : Claim7 := { stood := { row := twoportBackRow, standIns := [], harness := (true, "627493e39d936ccbe1f753f771dd5daf125f32ea50aa745fac3ac858f5943423"), looks := true }, kinds := [], alts := [], laidByText := true, laidKinds := [.data, .data, .widerDeep, .widerDeep, .data, .data, .data, .data, .data, .data, .sentinel, .sentinel, .listed, .data, .pinned, .pinned, .pinned], laidTests := true, laidLooks := .later }
def TwoportBackCardSaid : Prop := Claim7.holds Tryz.pinned (.plain (OpenSpec.ofChange twoportBackSpec)) twoportBackCard

/-- THE TIED CARD OF 'gridworklaw23.TwoportForms'. -/
def twoportFormsCard : Claim7 := { stood := { row := twoportFormsRow, standIns := [], harness := (true, "627493e39d936ccbe1f753f771dd5daf125f32ea50aa745fac3ac858f5943423"), looks := true }, kinds := [], alts := [], laidByText := true, laidKinds := [.data, .data, .widerDeep, .widerDeep, .data, .data, .data, .data, .data, .data, .sentinel, .sentinel, .listed, .data, .pinned, .pinned, .pinned], laidTests := true, laidLooks := .later }
def TwoportFormsCardSaid : Prop := Claim7.holds Tryz.pinned (.plain (OpenSpec.ofChange twoportFormsSpec)) twoportFormsCard

/-- THE SECOND FORM's CARD OF 'gridworklaw23.TwoportSides'. -/
def twoportSidesUptoCard : Claim7 := { stood := { row := twoportSidesUptoRow, standIns := [], harness := (true, "627493e39d936ccbe1f753f771dd5daf125f32ea50aa745fac3ac858f5943423"), looks := true }, kinds := [], alts := [], laidByText := true, laidKinds := [.data, .data, .widerDeep, .widerDeep, .data, .data, .data, .data, .data, .data, .sentinel, .sentinel, .listed, .data, .pinned, .pinned, .pinned], laidTests := true, laidLooks := .later }
def TwoportSidesUptoCardSaid : Prop := Claim7.holds Tryz.pinned (.plain (OpenSpec.upto twoportSidesSpec)) twoportSidesUptoCard

/-- THE SECOND FORM's CARD OF 'gridworklaw23.TwoportBack'. -/
def twoportBackUptoCard : Claim7 := { stood := { row := twoportBackUptoRow, standIns := [], harness := (true, "627493e39d936ccbe1f753f771dd5daf125f32ea50aa745fac3ac858f5943423"), looks := true }, kinds := [], alts := [], laidByText := true, laidKinds := [.data, .data, .widerDeep, .widerDeep, .data, .data, .data, .data, .data, .data, .sentinel, .sentinel, .listed, .data, .pinned, .pinned, .pinned], laidTests := true, laidLooks := .later }
def TwoportBackUptoCardSaid : Prop := Claim7.holds Tryz.pinned (.plain (OpenSpec.upto twoportBackSpec)) twoportBackUptoCard

/-- THE SECOND FORM's CARD OF 'gridworklaw23.TwoportForms'. -/
def twoportFormsUptoCard : Claim7 := { stood := { row := twoportFormsUptoRow, standIns := [], harness := (true, "627493e39d936ccbe1f753f771dd5daf125f32ea50aa745fac3ac858f5943423"), looks := true }, kinds := [], alts := [], laidByText := true, laidKinds := [.data, .data, .widerDeep, .widerDeep, .data, .data, .data, .data, .data, .data, .sentinel, .sentinel, .listed, .data, .pinned, .pinned, .pinned], laidTests := true, laidLooks := .later }
def TwoportFormsUptoCardSaid : Prop := Claim7.holds Tryz.pinned (.plain (OpenSpec.upto twoportFormsSpec)) twoportFormsUptoCard
end Rows
end Go.Proofs.YtfljneapjcnpiaaGreatDoor
