/- TwoportSides: the closed facts of its row. -/
import Derived.Test.YtfljneapjcnpiaaGreatDoorCards
import Derived.Test.YtfljneapjcnpiaaGreatDoorTie
import Derived.WalkKit
import Derived.ProofKit
import Derived.OpenShut
import Derived.ChangeOld
import Derived.Below
import Derived.Lay
import Derived.SevenTiedAt
namespace Go.Proofs.YtfljneapjcnpiaaGreatDoor
open Go.ChangeShapes Go.WideShapes Go.ChangeAt Go.RowKit
theorem twoportSidesAnd {a b : Bool} (h1 : a = true) (h2 : b = true) : (a && b) = true := by rw [h1, h2]; rfl
set_option maxRecDepth 100000 in
set_option maxHeartbeats 4000000 in
theorem twoportSidesClosed : joinedFacts Tryz.pinned.checked.prog 3 Tryz.f3 Rows.twoportSidesSpec Rows.twoportSidesRow = true := by
  unfold joinedFacts
  repeat' (with_reducible apply twoportSidesAnd)
  all_goals as_aux_lemma => kernel_rfl
theorem twoportSidesNamed : Tryz.pinned.checked.prog.funcNamed Rows.twoportSidesRow.func = some 3 := by kernel_rfl
theorem twoportSidesInst : Tryz.f3.isInstance Tryz.pinned.checked.prog Rows.twoportSidesRow.origin Rows.twoportSidesRow.targs := of_decide_eq_true (by kernel_rfl)
theorem twoportSidesWrap : Tryz.f3.isWrapper Tryz.pinned.checked.prog Rows.twoportSidesRow.wrapper Rows.twoportSidesRow.mainSum := by unfold Func.isWrapper; rw [if_neg (of_decide_eq_false (by kernel_rfl))]; exact ⟨rfl, rfl⟩
end Go.Proofs.YtfljneapjcnpiaaGreatDoor
