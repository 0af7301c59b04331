/- CurrentTurned: the closed facts of its row. -/
import Derived.Test.YtlaibmeokghdmaaGreatDoorCards
import Derived.Test.YtlaibmeokghdmaaGreatDoorTie
import Derived.WalkKit
import Derived.ProofKit
import Derived.OpenShut
import Derived.ChangeOld
import Derived.Below
import Derived.Lay
import Derived.SevenTiedAt
namespace Go.Proofs.YtlaibmeokghdmaaGreatDoor
open Go.ChangeShapes Go.WideShapes Go.ChangeAt Go.RowKit
theorem currentTurnedAnd {a b : Bool} (h1 : a = true) (h2 : b = true) : (a && b) = true := by rw [h1, h2]; rfl
set_option maxRecDepth 100000 in
set_option maxHeartbeats 4000000 in
theorem currentTurnedClosed : joinedFacts Tryz.pinned.checked.prog 5 Tryz.f5 Rows.currentTurnedSpec Rows.currentTurnedRow = true := by
  unfold joinedFacts
  repeat' (with_reducible apply currentTurnedAnd)
  all_goals as_aux_lemma => kernel_rfl
theorem currentTurnedNamed : Tryz.pinned.checked.prog.funcNamed Rows.currentTurnedRow.func = some 5 := by kernel_rfl
theorem currentTurnedInst : Tryz.f5.isInstance Tryz.pinned.checked.prog Rows.currentTurnedRow.origin Rows.currentTurnedRow.targs := of_decide_eq_true (by kernel_rfl)
theorem currentTurnedWrap : Tryz.f5.isWrapper Tryz.pinned.checked.prog Rows.currentTurnedRow.wrapper Rows.currentTurnedRow.mainSum := by unfold Func.isWrapper; rw [if_neg (of_decide_eq_false (by kernel_rfl))]; exact ⟨rfl, rfl⟩
end Go.Proofs.YtlaibmeokghdmaaGreatDoor
