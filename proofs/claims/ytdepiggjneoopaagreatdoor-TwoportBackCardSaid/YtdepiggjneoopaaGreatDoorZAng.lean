/- a part of the proof of the last text -/
import Derived.Test.YtdepiggjneoopaaGreatDoorZParts2
namespace Go.Proofs.YtdepiggjneoopaaGreatDoor
set_option linter.all false
set_option maxHeartbeats 4000000
set_option maxRecDepth 100000
open Go.RowKit
/-- What is wrong with an omega. -/
def angE (o : Nat) : Int := if ffin (fc o) = true then (if (FloatKind.f64.format.order o 0 == some .gt) = true then 0 else 2) else 5
theorem ang_5 {o : Nat} (h : ffin (fc o) = false) : angE o = 5 := by unfold angE; rw [if_neg (by rw [h]; decide)]
theorem ang_2 {o : Nat} (h : ffin (fc o) = true) (h2 : (FloatKind.f64.format.order o 0 == some .gt) = false) : angE o = 2 := by unfold angE; rw [if_pos h, if_neg (by rw [h2]; decide)]
theorem ang_0 {o : Nat} (h : ffin (fc o) = true) (h2 : (FloatKind.f64.format.order o 0 == some .gt) = true) : angE o = 0 := by unfold angE; rw [if_pos h, if_pos h2]
theorem neq_fin {r x : Nat} {b : Bool} (hr : fc r = fop .sub (fc x) (fc x)) (h : ffin (fc x) = b) : (FloatKind.f64.format.order r 0 != some .eq) = !b := by unfold bne; rw [ffin_of hr, h]
end Go.Proofs.YtdepiggjneoopaaGreatDoor
