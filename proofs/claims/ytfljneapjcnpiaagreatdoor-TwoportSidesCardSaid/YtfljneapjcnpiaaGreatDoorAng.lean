/- An omega; parts.Scale. -/
import Derived.Test.YtfljneapjcnpiaaGreatDoorParts2
namespace Go.Proofs.YtfljneapjcnpiaaGreatDoor
open Go.RowKit

/-- What is wrong with an omega. -/
def angE (o : Nat) : Int := if ffin (fc o) = true then (if (FloatKind.f64.format.order o 0 == some .gt) = true then 0 else 2) else 5
theorem ang_5 {o : Nat} (h : ffin (fc o) = false) : angE o = 5 := by unfold angE; rw [if_neg (by rw [h]; decide)]
theorem ang_2 {o : Nat} (h : ffin (fc o) = true) (h2 : (FloatKind.f64.format.order o 0 == some .gt) = false) : angE o = 2 := by unfold angE; rw [if_pos h, if_neg (by rw [h2]; decide)]
theorem ang_0 {o : Nat} (h : ffin (fc o) = true) (h2 : (FloatKind.f64.format.order o 0 == some .gt) = true) : angE o = 0 := by unfold angE; rw [if_pos h, if_pos h2]
theorem neq_fin {r x : Nat} {b : Bool} (hr : fc r = fop .sub (fc x) (fc x)) (h : ffin (fc x) = b) : (FloatKind.f64.format.order r 0 != some .eq) = !b := by unfold bne; rw [ffin_of hr, h]
set_option maxHeartbeats 400000 in
theorem pscale_any (x a b : Nat) (w : World) :
    Calls Tryz.prog 45 #[.float .f64 x, .complex .f64 a b] w (Ret (IsC (cscale (fc x) (fc a, fc b))) w) := by
  go_enter Tryz.func45, Tryz.ntmps45
  go_wp2_with (refine wpList_float rfl _ _ _ _ _ rfl rfl _ _ rfl rfl ?_; intro _ _ _)
  go_ret
  exact ⟨_, _, rfl, rfl, _, _, rfl, Prod.ext (by assumption) (by assumption)⟩
end Go.Proofs.YtfljneapjcnpiaaGreatDoor
