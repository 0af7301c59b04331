/- Walks of the packages parts and gridworkref02. -/
import Derived.Test.YtaobncojdonhlaaRows
import Derived.Test.YtaobncojdonhlaaFloat
namespace Go.Proofs.Ytaobncojdonhlaa
open Go.RowKit

theorem frombits_law (n : Int) (w : World) : (callFunc 25 #[.int .u64 n]).run Try.prog w = .ok (.value (.float .f64 n.toNat)) w := by
  rw [run_callFunc_extern Try.func25 (by kernel_rfl) (by kernel_rfl) (by kernel_rfl) (e := Extern.MathFloatBits.float64frombits) (by kernel_rfl)]
  rfl
theorem bits_law (b : Nat) (w : World) : (callFunc 69 #[.float .f64 b]).run Try.prog w = .ok (.value (.int .u64 b)) w := by
  rw [run_callFunc_extern Try.func69 (by kernel_rfl) (by kernel_rfl) (by kernel_rfl) (e := Extern.MathFloatBits.float64bits) (by kernel_rfl)]
  rfl


set_option maxHeartbeats 400000 in
theorem of_any (a b : Nat) (w : World) :
    Calls Try.prog 80 #[.float .f64 a, .float .f64 b] w fun e w' => e = .returned (.complex .f64 a b) ∧ w = w' := by
  go_enter Try.func80, Try.ntmps80
  go_wp2
  go_ret
  exact ⟨rfl, rfl⟩

set_option maxHeartbeats 400000 in
theorem psub_any (a b c d : Nat) (w : World) :
    Calls Try.prog 59 #[.complex .f64 a b, .complex .f64 c d] w (Ret (IsC (csub (fc a, fc b) (fc c, fc d))) w) := by
  go_enter Try.func59, Try.ntmps59
  go_wp2_with (first | (refine wpList_float rfl _ _ _ _ _ rfl rfl _ _ rfl rfl ?_; intro _ _ _) | (go_at_call 80; refine (of_any _ _ _).mono ?_; rintro e w' ⟨rfl, rfl⟩))
  go_ret
  exact ⟨_, _, rfl, rfl, _, _, rfl, Prod.ext (by first | assumption | (simp only [*]; rfl)) (by first | assumption | (simp only [*]; rfl))⟩

set_option maxHeartbeats 400000 in
theorem pmul_any (a b c d : Nat) (w : World) :
    Calls Try.prog 58 #[.complex .f64 a b, .complex .f64 c d] w (Ret (IsC (cmul (fc a, fc b) (fc c, fc d))) w) := by
  go_enter Try.func58, Try.ntmps58
  go_wp2_with (first | (refine wpList_float rfl _ _ _ _ _ rfl rfl _ _ rfl rfl ?_; intro _ _ _) | (go_at_call 80; refine (of_any _ _ _).mono ?_; rintro e w' ⟨rfl, rfl⟩))
  go_ret
  exact ⟨_, _, rfl, rfl, _, _, rfl, Prod.ext (by first | assumption | (simp only [*]; rfl)) (by first | assumption | (simp only [*]; rfl))⟩

set_option maxHeartbeats 400000 in
theorem rsub_any (a b c d : Nat) (w : World) :
    Calls Try.prog 63 #[.complex .f64 a b, .complex .f64 c d] w (Ret (IsC (csub (fc a, fc b) (fc c, fc d))) w) := by
  go_enter Try.func63, Try.ntmps63
  go_wp2_with (first | (refine wpList_float rfl _ _ _ _ _ rfl rfl _ _ rfl rfl ?_; intro _ _ _) | (go_at_call 80; refine (of_any _ _ _).mono ?_; rintro e w' ⟨rfl, rfl⟩))
  go_ret
  exact ⟨_, _, rfl, rfl, _, _, rfl, Prod.ext (by first | assumption | (simp only [*]; rfl)) (by first | assumption | (simp only [*]; rfl))⟩

set_option maxHeartbeats 400000 in
theorem rmul_any (a b c d : Nat) (w : World) :
    Calls Try.prog 66 #[.complex .f64 a b, .complex .f64 c d] w (Ret (IsC (cmul (fc a, fc b) (fc c, fc d))) w) := by
  go_enter Try.func66, Try.ntmps66
  go_wp2_with (first | (refine wpList_float rfl _ _ _ _ _ rfl rfl _ _ rfl rfl ?_; intro _ _ _) | (go_at_call 80; refine (of_any _ _ _).mono ?_; rintro e w' ⟨rfl, rfl⟩))
  go_ret
  exact ⟨_, _, rfl, rfl, _, _, rfl, Prod.ext (by first | assumption | (simp only [*]; rfl)) (by first | assumption | (simp only [*]; rfl))⟩

end Go.Proofs.Ytaobncojdonhlaa
