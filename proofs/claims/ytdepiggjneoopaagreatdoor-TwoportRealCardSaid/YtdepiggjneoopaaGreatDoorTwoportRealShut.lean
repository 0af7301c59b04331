/- TwoportReal: the closed facts of its row. -/
import Derived.Test.YtdepiggjneoopaaGreatDoorCards
import Derived.Test.YtdepiggjneoopaaGreatDoorTie
import Derived.WalkKit
import Derived.ProofKit
import Derived.OpenShut
import Derived.ChangeOld
import Derived.Below
import Derived.Lay
import Derived.SevenTiedAt
namespace Go.Proofs.YtdepiggjneoopaaGreatDoor
open Go.ChangeShapes Go.WideShapes Go.ChangeAt Go.RowKit
theorem twoportRealAnd {a b : Bool} (h1 : a = true) (h2 : b = true) : (a && b) = true := by rw [h1, h2]; rfl
set_option maxRecDepth 100000 in
set_option maxHeartbeats 4000000 in
theorem twoportRealClosed : joinedFacts Tryz.pinned.checked.prog 4 Tryz.f4 Rows.twoportRealSpec Rows.twoportRealRow = true := by
  unfold joinedFacts
  repeat' (with_reducible apply twoportRealAnd)
  all_goals as_aux_lemma => kernel_rfl
theorem twoportRealNamed : Tryz.pinned.checked.prog.funcNamed Rows.twoportRealRow.func = some 4 := by kernel_rfl
theorem twoportRealInst : Tryz.f4.isInstance Tryz.pinned.checked.prog Rows.twoportRealRow.origin Rows.twoportRealRow.targs := of_decide_eq_true (by kernel_rfl)
theorem twoportRealWrap : Tryz.f4.isWrapper Tryz.pinned.checked.prog Rows.twoportRealRow.wrapper Rows.twoportRealRow.mainSum := by unfold Func.isWrapper; rw [if_neg (of_decide_eq_false (by kernel_rfl))]; exact ⟨rfl, rfl⟩
end Go.Proofs.YtdepiggjneoopaaGreatDoor
