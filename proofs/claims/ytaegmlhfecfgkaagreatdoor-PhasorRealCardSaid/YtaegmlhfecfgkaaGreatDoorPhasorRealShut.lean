/- PhasorReal: the closed facts of its row. -/
import Derived.Test.YtaegmlhfecfgkaaGreatDoorCards
import Derived.Test.YtaegmlhfecfgkaaGreatDoorTie
import Derived.WalkKit
import Derived.ProofKit
import Derived.OpenShut
import Derived.ChangeOld
import Derived.Below
import Derived.Lay
import Derived.SevenTiedAt
namespace Go.Proofs.YtaegmlhfecfgkaaGreatDoor
open Go.ChangeShapes Go.WideShapes Go.ChangeAt Go.RowKit
theorem phasorRealAnd {a b : Bool} (h1 : a = true) (h2 : b = true) : (a && b) = true := by rw [h1, h2]; rfl
set_option maxRecDepth 100000 in
set_option maxHeartbeats 4000000 in
theorem phasorRealClosed : joinedFacts Tryz.pinned.checked.prog 3 Tryz.f3 Rows.phasorRealSpec Rows.phasorRealRow = true := by
  unfold joinedFacts
  repeat' (with_reducible apply phasorRealAnd)
  all_goals as_aux_lemma => kernel_rfl
theorem phasorRealNamed : Tryz.pinned.checked.prog.funcNamed Rows.phasorRealRow.func = some 3 := by kernel_rfl
theorem phasorRealInst : Tryz.f3.isInstance Tryz.pinned.checked.prog Rows.phasorRealRow.origin Rows.phasorRealRow.targs := of_decide_eq_true (by kernel_rfl)
theorem phasorRealWrap : Tryz.f3.isWrapper Tryz.pinned.checked.prog Rows.phasorRealRow.wrapper Rows.phasorRealRow.mainSum := by unfold Func.isWrapper; rw [if_neg (of_decide_eq_false (by kernel_rfl))]; exact ⟨rfl, rfl⟩
end Go.Proofs.YtaegmlhfecfgkaaGreatDoor
