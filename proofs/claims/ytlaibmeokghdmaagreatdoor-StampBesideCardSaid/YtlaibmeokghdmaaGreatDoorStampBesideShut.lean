/- StampBeside: the closed facts of its row. -/
import Derived.Test.YtlaibmeokghdmaaGreatDoorCards
import Derived.Test.YtlaibmeokghdmaaGreatDoorTie
import Derived.WalkKit
import Derived.ProofKit
import Derived.OpenShut
import Derived.ChangeOld
import Derived.Below
import Derived.Lay
import Derived.SevenTiedAt
namespace Go.Proofs.YtlaibmeokghdmaaGreatDoor
open Go.ChangeShapes Go.WideShapes Go.ChangeAt Go.RowKit
theorem stampBesideAnd {a b : Bool} (h1 : a = true) (h2 : b = true) : (a && b) = true := by rw [h1, h2]; rfl
set_option maxRecDepth 100000 in
set_option maxHeartbeats 4000000 in
theorem stampBesideClosed : joinedFacts Tryz.pinned.checked.prog 4 Tryz.f4 Rows.stampBesideSpec Rows.stampBesideRow = true := by
  unfold joinedFacts
  repeat' (with_reducible apply stampBesideAnd)
  all_goals as_aux_lemma => kernel_rfl
theorem stampBesideNamed : Tryz.pinned.checked.prog.funcNamed Rows.stampBesideRow.func = some 4 := by kernel_rfl
theorem stampBesideInst : Tryz.f4.isInstance Tryz.pinned.checked.prog Rows.stampBesideRow.origin Rows.stampBesideRow.targs := of_decide_eq_true (by kernel_rfl)
theorem stampBesideWrap : Tryz.f4.isWrapper Tryz.pinned.checked.prog Rows.stampBesideRow.wrapper Rows.stampBesideRow.mainSum := by unfold Func.isWrapper; rw [if_neg (of_decide_eq_false (by kernel_rfl))]; exact ⟨rfl, rfl⟩
end Go.Proofs.YtlaibmeokghdmaaGreatDoor
