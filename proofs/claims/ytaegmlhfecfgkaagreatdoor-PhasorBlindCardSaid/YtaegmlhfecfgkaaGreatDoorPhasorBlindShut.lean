/- PhasorBlind: the closed facts of its row. -/
import Derived.Test.YtaegmlhfecfgkaaGreatDoorCards
import Derived.Test.YtaegmlhfecfgkaaGreatDoorTie
import Derived.WalkKit
import Derived.ProofKit
import Derived.OpenShut
import Derived.ChangeOld
import Derived.Below
import Derived.Lay
import Derived.SevenTiedAt
namespace Go.Proofs.YtaegmlhfecfgkaaGreatDoor
open Go.ChangeShapes Go.WideShapes Go.ChangeAt Go.RowKit
theorem phasorBlindAnd {a b : Bool} (h1 : a = true) (h2 : b = true) : (a && b) = true := by rw [h1, h2]; rfl
set_option maxRecDepth 100000 in
set_option maxHeartbeats 4000000 in
theorem phasorBlindClosed : joinedFacts Tryz.pinned.checked.prog 4 Tryz.f4 Rows.phasorBlindSpec Rows.phasorBlindRow = true := by
  unfold joinedFacts
  repeat' (with_reducible apply phasorBlindAnd)
  all_goals as_aux_lemma => kernel_rfl
theorem phasorBlindNamed : Tryz.pinned.checked.prog.funcNamed Rows.phasorBlindRow.func = some 4 := by kernel_rfl
theorem phasorBlindInst : Tryz.f4.isInstance Tryz.pinned.checked.prog Rows.phasorBlindRow.origin Rows.phasorBlindRow.targs := of_decide_eq_true (by kernel_rfl)
theorem phasorBlindWrap : Tryz.f4.isWrapper Tryz.pinned.checked.prog Rows.phasorBlindRow.wrapper Rows.phasorBlindRow.mainSum := by unfold Func.isWrapper; rw [if_neg (of_decide_eq_false (by kernel_rfl))]; exact ⟨rfl, rfl⟩
end Go.Proofs.YtaegmlhfecfgkaaGreatDoor
