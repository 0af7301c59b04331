/- TwoportSilent: the closed facts of its row. -/
import Derived.Test.YtdepiggjneoopaaGreatDoorCards
import Derived.Test.YtdepiggjneoopaaGreatDoorTie
import Derived.WalkKit
import Derived.ProofKit
import Derived.OpenShut
import Derived.ChangeOld
import Derived.Below
import Derived.Lay
import Derived.SevenTiedAt
namespace Go.Proofs.YtdepiggjneoopaaGreatDoor
open Go.ChangeShapes Go.WideShapes Go.ChangeAt Go.RowKit
theorem twoportSilentAnd {a b : Bool} (h1 : a = true) (h2 : b = true) : (a && b) = true := by rw [h1, h2]; rfl
set_option maxRecDepth 100000 in
set_option maxHeartbeats 4000000 in
theorem twoportSilentClosed : joinedFacts Tryz.pinned.checked.prog 3 Tryz.f3 Rows.twoportSilentSpec Rows.twoportSilentRow = true := by
  unfold joinedFacts
  repeat' (with_reducible apply twoportSilentAnd)
  all_goals as_aux_lemma => kernel_rfl
theorem twoportSilentNamed : Tryz.pinned.checked.prog.funcNamed Rows.twoportSilentRow.func = some 3 := by kernel_rfl
theorem twoportSilentInst : Tryz.f3.isInstance Tryz.pinned.checked.prog Rows.twoportSilentRow.origin Rows.twoportSilentRow.targs := of_decide_eq_true (by kernel_rfl)
theorem twoportSilentWrap : Tryz.f3.isWrapper Tryz.pinned.checked.prog Rows.twoportSilentRow.wrapper Rows.twoportSilentRow.mainSum := by unfold Func.isWrapper; rw [if_neg (of_decide_eq_false (by kernel_rfl))]; exact ⟨rfl, rfl⟩
end Go.Proofs.YtdepiggjneoopaaGreatDoor
