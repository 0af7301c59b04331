/- TwoportBack: the closed facts of its row. -/
import Derived.Test.YtdepiggjneoopaaGreatDoorCards
import Derived.Test.YtdepiggjneoopaaGreatDoorTie
import Derived.WalkKit
import Derived.ProofKit
import Derived.OpenShut
import Derived.ChangeOld
import Derived.Below
import Derived.Lay
import Derived.SevenTiedAt
namespace Go.Proofs.YtdepiggjneoopaaGreatDoor
open Go.ChangeShapes Go.WideShapes Go.ChangeAt Go.RowKit
theorem twoportBackAnd {a b : Bool} (h1 : a = true) (h2 : b = true) : (a && b) = true := by rw [h1, h2]; rfl
set_option maxRecDepth 100000 in
set_option maxHeartbeats 4000000 in
theorem twoportBackClosed : joinedFacts Tryz.pinned.checked.prog 5 Tryz.f5 Rows.twoportBackSpec Rows.twoportBackRow = true := by
  unfold joinedFacts
  repeat' (with_reducible apply twoportBackAnd)
  all_goals as_aux_lemma => kernel_rfl
theorem twoportBackNamed : Tryz.pinned.checked.prog.funcNamed Rows.twoportBackRow.func = some 5 := by kernel_rfl
theorem twoportBackInst : Tryz.f5.isInstance Tryz.pinned.checked.prog Rows.twoportBackRow.origin Rows.twoportBackRow.targs := of_decide_eq_true (by kernel_rfl)
theorem twoportBackWrap : Tryz.f5.isWrapper Tryz.pinned.checked.prog Rows.twoportBackRow.wrapper Rows.twoportBackRow.mainSum := by unfold Func.isWrapper; rw [if_neg (of_decide_eq_false (by kernel_rfl))]; exact ⟨rfl, rfl⟩
end Go.Proofs.YtdepiggjneoopaaGreatDoor
