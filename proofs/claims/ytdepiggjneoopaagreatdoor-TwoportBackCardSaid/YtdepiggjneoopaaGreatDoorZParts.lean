/- a part of the proof of the last text -/
import Derived.Test.YtdepiggjneoopaaGreatDoorRows
import Derived.Test.YtdepiggjneoopaaGreatDoorZFloat
namespace Go.Proofs.YtdepiggjneoopaaGreatDoor
set_option linter.all false
set_option maxHeartbeats 4000000
set_option maxRecDepth 100000
open Go.RowKit
theorem frombits_law (n : Int) (w : World) : (callFunc 7 #[.int .u64 n]).run Tryz.prog w = .ok (.value (.float .f64 n.toNat)) w := by
  rw [run_callFunc_extern Tryz.func7 (by kernel_rfl) (by kernel_rfl) (by kernel_rfl) (e := Extern.MathFloatBits.float64frombits) (by kernel_rfl)]
  rfl
theorem bits_law (b : Nat) (w : World) : (callFunc 96 #[.float .f64 b]).run Tryz.prog w = .ok (.value (.int .u64 b)) w := by
  rw [run_callFunc_extern Tryz.func96 (by kernel_rfl) (by kernel_rfl) (by kernel_rfl) (e := Extern.MathFloatBits.float64bits) (by kernel_rfl)]
  rfl
set_option maxHeartbeats 400000 in
theorem psize_any (x : Nat) (w : World) :
    Calls Tryz.prog 108 #[.float .f64 x] w fun e w' => e = .returned (.float .f64 (fsize x)) ∧ w = w' := by
  have b1 := bits_law
  have b2 := frombits_law
  go_enter Tryz.func108, Tryz.ntmps108
  go_wp2
  go_ret
  exact ⟨congrArg (fun y => Ending.returned (.float .f64 y)) (fsize_walk x), rfl⟩
set_option maxHeartbeats 400000 in
theorem padd_any (a b c d : Nat) (w : World) :
    Calls Tryz.prog 66 #[.complex .f64 a b, .complex .f64 c d] w (Ret (IsC (cadd (fc a, fc b) (fc c, fc d))) w) := by
  go_enter Tryz.func66, Tryz.ntmps66
  go_wp2_with (refine wpList_float rfl _ _ _ _ _ rfl rfl _ _ rfl rfl ?_; intro _ _ _)
  go_ret
  exact ⟨_, _, rfl, rfl, _, _, rfl, Prod.ext (by assumption) (by assumption)⟩
set_option maxHeartbeats 400000 in
theorem psub_any (a b c d : Nat) (w : World) :
    Calls Tryz.prog 45 #[.complex .f64 a b, .complex .f64 c d] w (Ret (IsC (csub (fc a, fc b) (fc c, fc d))) w) := by
  go_enter Tryz.func45, Tryz.ntmps45
  go_wp2_with (first | (refine wpList_float rfl _ _ _ _ _ rfl rfl _ _ rfl rfl ?_; intro _ _ _) | (fail))
  go_ret
  exact ⟨_, _, rfl, rfl, _, _, rfl, Prod.ext (by first | assumption | (simp only [*]; rfl)) (by first | assumption | (simp only [*]; rfl))⟩
set_option maxHeartbeats 400000 in
theorem pmul_any (a b c d : Nat) (w : World) :
    Calls Tryz.prog 80 #[.complex .f64 a b, .complex .f64 c d] w (Ret (IsC (cmul (fc a, fc b) (fc c, fc d))) w) := by
  go_enter Tryz.func80, Tryz.ntmps80
  go_wp2_with (first | (refine wpList_float rfl _ _ _ _ _ rfl rfl _ _ rfl rfl ?_; intro _ _ _) | (fail))
  go_ret
  exact ⟨_, _, rfl, rfl, _, _, rfl, Prod.ext (by first | assumption | (simp only [*]; rfl)) (by first | assumption | (simp only [*]; rfl))⟩
set_option maxHeartbeats 400000 in
theorem pdiv_any (a b c d : Nat) (w : World) :
    Calls Tryz.prog 79 #[.complex .f64 a b, .complex .f64 c d] w (Ret (IsC (cdiv (fc a, fc b) (fc c, fc d))) w) := by
  have hs : isGe (fordz (fc c) (fc d)) = (FloatKind.f64.format.order (fsize c) (fsize d) == some .gt || FloatKind.f64.format.order (fsize c) (fsize d) == some .eq) := by rw [fordz_fc]; rfl
  have HS := hid hs
  clear hs
  by_cases hg : (FloatKind.f64.format.order (fsize c) (fsize d) == some .gt || FloatKind.f64.format.order (fsize c) (fsize d) == some .eq) = true
  · have hc : cdiv (fc a, fc b) (fc c, fc d) = _ := if_pos (by rw [HS.out]; exact hg)
    have HC := hid hc
    clear hc
    rw [HC.out]
    go_enter Tryz.func79, Tryz.ntmps79
    go_wp2_with (first | (refine wpList_float rfl _ _ _ _ _ rfl rfl _ _ rfl rfl ?_; intro _ _ _) | (fail) | (go_at_call 108; refine (psize_any _ _).mono ?_; rintro e w' ⟨rfl, rfl⟩))
    go_ret
    exact ⟨_, _, rfl, rfl, _, _, rfl, Prod.ext (by first | assumption | (simp only [*]; rfl)) (by first | assumption | (simp only [*]; rfl))⟩
  · have hc : cdiv (fc a, fc b) (fc c, fc d) = _ := if_neg (by rw [HS.out]; exact hg)
    have HC := hid hc
    clear hc
    have hg' := Bool.eq_false_iff.2 hg
    clear hg
    rw [HC.out]
    go_enter Tryz.func79, Tryz.ntmps79
    go_wp2_with (first | (refine wpList_float rfl _ _ _ _ _ rfl rfl _ _ rfl rfl ?_; intro _ _ _) | (fail) | (go_at_call 108; refine (psize_any _ _).mono ?_; rintro e w' ⟨rfl, rfl⟩))
    go_ret
    exact ⟨_, _, rfl, rfl, _, _, rfl, Prod.ext (by first | assumption | (simp only [*]; rfl)) (by first | assumption | (simp only [*]; rfl))⟩
end Go.Proofs.YtdepiggjneoopaaGreatDoor
