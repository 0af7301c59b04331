/- PhasorScales: the closed facts of its row. -/
import Derived.Test.YtjeedckmkicnoaaGreatDoorCards
import Derived.Test.YtjeedckmkicnoaaGreatDoorTie
import Derived.WalkKit
import Derived.ProofKit
import Derived.OpenShut
import Derived.ChangeOld
import Derived.Below
import Derived.Lay
import Derived.SevenTiedAt
namespace Go.Proofs.YtjeedckmkicnoaaGreatDoor
open Go.ChangeShapes Go.WideShapes Go.ChangeAt Go.RowKit
theorem phasorScalesAnd {a b : Bool} (h1 : a = true) (h2 : b = true) : (a && b) = true := by rw [h1, h2]; rfl
set_option maxRecDepth 100000 in
set_option maxHeartbeats 4000000 in
theorem phasorScalesClosed : joinedFacts Tryz.pinned.checked.prog 3 Tryz.f3 Rows.phasorScalesSpec Rows.phasorScalesRow = true := by
  unfold joinedFacts
  repeat' (with_reducible apply phasorScalesAnd)
  all_goals as_aux_lemma => kernel_rfl
theorem phasorScalesNamed : Tryz.pinned.checked.prog.funcNamed Rows.phasorScalesRow.func = some 3 := by kernel_rfl
theorem phasorScalesInst : Tryz.f3.isInstance Tryz.pinned.checked.prog Rows.phasorScalesRow.origin Rows.phasorScalesRow.targs := of_decide_eq_true (by kernel_rfl)
theorem phasorScalesWrap : Tryz.f3.isWrapper Tryz.pinned.checked.prog Rows.phasorScalesRow.wrapper Rows.phasorScalesRow.mainSum := by unfold Func.isWrapper; rw [if_neg (of_decide_eq_false (by kernel_rfl))]; exact ⟨rfl, rfl⟩
end Go.Proofs.YtjeedckmkicnoaaGreatDoor
