/- PhasorAsks: the closed facts of its row. -/
import Derived.Test.YtjeedckmkicnoaaGreatDoorCards
import Derived.Test.YtjeedckmkicnoaaGreatDoorTie
import Derived.WalkKit
import Derived.ProofKit
import Derived.OpenShut
import Derived.ChangeOld
import Derived.Below
import Derived.Lay
import Derived.SevenTiedAt
namespace Go.Proofs.YtjeedckmkicnoaaGreatDoor
open Go.ChangeShapes Go.WideShapes Go.ChangeAt Go.RowKit
theorem phasorAsksAnd {a b : Bool} (h1 : a = true) (h2 : b = true) : (a && b) = true := by rw [h1, h2]; rfl
set_option maxRecDepth 100000 in
set_option maxHeartbeats 4000000 in
theorem phasorAsksClosed : joinedFacts Tryz.pinned.checked.prog 4 Tryz.f4 Rows.phasorAsksSpec Rows.phasorAsksRow = true := by
  unfold joinedFacts
  repeat' (with_reducible apply phasorAsksAnd)
  all_goals as_aux_lemma => kernel_rfl
theorem phasorAsksNamed : Tryz.pinned.checked.prog.funcNamed Rows.phasorAsksRow.func = some 4 := by kernel_rfl
theorem phasorAsksInst : Tryz.f4.isInstance Tryz.pinned.checked.prog Rows.phasorAsksRow.origin Rows.phasorAsksRow.targs := of_decide_eq_true (by kernel_rfl)
theorem phasorAsksWrap : Tryz.f4.isWrapper Tryz.pinned.checked.prog Rows.phasorAsksRow.wrapper Rows.phasorAsksRow.mainSum := by unfold Func.isWrapper; rw [if_neg (of_decide_eq_false (by kernel_rfl))]; exact ⟨rfl, rfl⟩
end Go.Proofs.YtjeedckmkicnoaaGreatDoor
