/- WaveNames: closed facts of its row. By program. -/
import Derived.Test.YtammbcohbfhfjaaGreatDoorCards
import Derived.Test.YtammbcohbfhfjaaGreatDoorTie
import Derived.WalkKit
import Derived.ProofKit
import Derived.OpenShut
import Derived.ChangeOld
import Derived.Below
import Derived.Lay
import Derived.SevenTiedAt
import Derived.KernelRfl
namespace Go.Proofs.YtammbcohbfhfjaaGreatDoor
open Go.ChangeShapes Go.WideShapes Go.ChangeAt Go.RowKit
theorem waveNamesAnd {a b : Bool} (h1 : a = true) (h2 : b = true) : (a && b) = true := by rw [h1, h2]; rfl
set_option maxRecDepth 100000 in
set_option maxHeartbeats 4000000 in
theorem waveNamesClosed : joinedFacts Tryz.pinned.checked.prog 3 Tryz.f3 Rows.waveNamesSpec Rows.waveNamesRow = true := by
  unfold joinedFacts
  repeat' (with_reducible apply waveNamesAnd)
  all_goals as_aux_lemma => kernel_rfl
theorem waveNamesNamed : Tryz.pinned.checked.prog.funcNamed Rows.waveNamesRow.func = some 3 := by kernel_rfl
theorem waveNamesInst : Tryz.f3.isInstance Tryz.pinned.checked.prog Rows.waveNamesRow.origin Rows.waveNamesRow.targs := of_decide_eq_true (by kernel_rfl)
theorem waveNamesWrap : Tryz.f3.isWrapper Tryz.pinned.checked.prog Rows.waveNamesRow.wrapper Rows.waveNamesRow.mainSum := by unfold Func.isWrapper; rw [if_neg (of_decide_eq_false (by kernel_rfl))]; exact ⟨rfl, rfl⟩
end Go.Proofs.YtammbcohbfhfjaaGreatDoor
