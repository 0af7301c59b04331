/-
  DERIVED. GIVEN WITH THE SEED: THE CARDS: each row of YtggmbjlgcpkngaaGreatDoorRows.lean that lists a variable, with what it lists TIED to the program's text (the seventh form; the later family's looks); each row that meets fmt, with fmt's text TOLD by the authors' own Lean function (tested against real Go, not proved from fmt's source: count such statements apart). THE CARD IS WHAT COUNTS. Prove the row's statement (the work); the ties are given (YtggmbjlgcpkngaaGreatDoorTie.lean); close each card by the builder's one call (the guide's Derived/Test/ToyasCard.lean, 'card_holds'). Laid BY PROGRAM, IN A SANDBOX (cutbox-door.mjs). By AI agents, Wed Nov 11 2026. No macro, syntax, notation, axiom, sorry.
-/
import Derived.Test.YtggmbjlgcpkngaaGreatDoorRows
import GoSem.ClaimSeven
namespace Go.Proofs.YtggmbjlgcpkngaaGreatDoor
namespace Rows

/-- THE TIED CARD OF 'gridworklaw18.StampNames'. -/
def stampNamesCard : Claim7 := { stood := { row := stampNamesRow, standIns := [], harness := (true, "639fcfd7f0a8c45143c4c2f47e885eafe4ed28104be31b106148da6c1e0014e3"), looks := true }, kinds := [], alts := [], laidByText := true, laidKinds := [.data, .data, .widerDeep, .widerDeep, .data, .data, .data, .data, .data, .data, .sentinel, .sentinel, .listed, .data, .pinned, .pinned, .pinned], laidTests := true, laidLooks := .later }
def StampNamesCardSaid : Prop := Claim7.holds Tryz.pinned (.plain (OpenSpec.ofChange stampNamesSpec)) stampNamesCard

/-- THE TIED CARD OF 'gridworklaw21.CurrentNames'. -/
def currentNamesCard : Claim7 := { stood := { row := currentNamesRow, standIns := [], harness := (true, "639fcfd7f0a8c45143c4c2f47e885eafe4ed28104be31b106148da6c1e0014e3"), looks := true }, kinds := [], alts := [], laidByText := true, laidKinds := [.data, .data, .widerDeep, .widerDeep, .data, .data, .data, .data, .data, .data, .sentinel, .sentinel, .listed, .data, .pinned, .pinned, .pinned], laidTests := true, laidLooks := .later }
def CurrentNamesCardSaid : Prop := Claim7.holds Tryz.pinned (.plain (OpenSpec.ofChange currentNamesSpec)) currentNamesCard

/-- THE SECOND FORM's CARD OF 'gridworklaw18.StampNames'. -/
def stampNamesUptoCard : Claim7 := { stood := { row := stampNamesUptoRow, standIns := [], harness := (true, "639fcfd7f0a8c45143c4c2f47e885eafe4ed28104be31b106148da6c1e0014e3"), looks := true }, kinds := [], alts := [], laidByText := true, laidKinds := [.data, .data, .widerDeep, .widerDeep, .data, .data, .data, .data, .data, .data, .sentinel, .sentinel, .listed, .data, .pinned, .pinned, .pinned], laidTests := true, laidLooks := .later }
def StampNamesUptoCardSaid : Prop := Claim7.holds Tryz.pinned (.plain (OpenSpec.upto stampNamesSpec)) stampNamesUptoCard

/-- THE SECOND FORM's CARD OF 'gridworklaw21.CurrentNames'. -/
def currentNamesUptoCard : Claim7 := { stood := { row := currentNamesUptoRow, standIns := [], harness := (true, "639fcfd7f0a8c45143c4c2f47e885eafe4ed28104be31b106148da6c1e0014e3"), looks := true }, kinds := [], alts := [], laidByText := true, laidKinds := [.data, .data, .widerDeep, .widerDeep, .data, .data, .data, .data, .data, .data, .sentinel, .sentinel, .listed, .data, .pinned, .pinned, .pinned], laidTests := true, laidLooks := .later }
def CurrentNamesUptoCardSaid : Prop := Claim7.holds Tryz.pinned (.plain (OpenSpec.upto currentNamesSpec)) currentNamesUptoCard
end Rows
end Go.Proofs.YtggmbjlgcpkngaaGreatDoor
