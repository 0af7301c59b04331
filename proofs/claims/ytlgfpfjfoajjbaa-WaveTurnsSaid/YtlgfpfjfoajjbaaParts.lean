/- Walks of the packages parts and gridworkref02. -/
import Derived.Test.YtlgfpfjfoajjbaaRows
import Derived.Test.YtlgfpfjfoajjbaaFloat
namespace Go.Proofs.Ytlgfpfjfoajjbaa
open Go.RowKit

theorem frombits_law (n : Int) (w : World) : (callFunc 41 #[.int .u64 n]).run Try.prog w = .ok (.value (.float .f64 n.toNat)) w := by
  rw [run_callFunc_extern Try.func41 (by kernel_rfl) (by kernel_rfl) (by kernel_rfl) (e := Extern.MathFloatBits.float64frombits) (by kernel_rfl)]
  rfl
theorem bits_law (b : Nat) (w : World) : (callFunc 56 #[.float .f64 b]).run Try.prog w = .ok (.value (.int .u64 b)) w := by
  rw [run_callFunc_extern Try.func56 (by kernel_rfl) (by kernel_rfl) (by kernel_rfl) (e := Extern.MathFloatBits.float64bits) (by kernel_rfl)]
  rfl


set_option maxHeartbeats 400000 in
theorem psize_any (x : Nat) (w : World) :
    Calls Try.prog 67 #[.float .f64 x] w fun e w' => e = .returned (.float .f64 (fsize x)) ∧ w = w' := by
  have b1 := bits_law
  have b2 := frombits_law
  go_enter Try.func67, Try.ntmps67
  go_wp2
  go_ret
  exact ⟨congrArg (fun y => Ending.returned (.float .f64 y)) (fsize_walk x), rfl⟩

set_option maxHeartbeats 400000 in
theorem rsize_any (x : Nat) (w : World) :
    Calls Try.prog 68 #[.float .f64 x] w fun e w' => e = .returned (.float .f64 (fsize x)) ∧ w = w' := by
  have b1 := bits_law
  have b2 := frombits_law
  go_enter Try.func68, Try.ntmps68
  go_wp2
  go_ret
  exact ⟨congrArg (fun y => Ending.returned (.float .f64 y)) (fsize_walk x), rfl⟩

set_option maxHeartbeats 400000 in
theorem padd_any (a b c d : Nat) (w : World) :
    Calls Try.prog 46 #[.complex .f64 a b, .complex .f64 c d] w (Ret (IsC (cadd (fc a, fc b) (fc c, fc d))) w) := by
  go_enter Try.func46, Try.ntmps46
  go_wp2_with (refine wpList_float rfl _ _ _ _ _ rfl rfl _ _ rfl rfl ?_; intro _ _ _)
  go_ret
  exact ⟨_, _, rfl, rfl, _, _, rfl, Prod.ext (by assumption) (by assumption)⟩
set_option maxHeartbeats 400000 in
theorem of_any (a b : Nat) (w : World) :
    Calls Try.prog 65 #[.float .f64 a, .float .f64 b] w fun e w' => e = .returned (.complex .f64 a b) ∧ w = w' := by
  go_enter Try.func65, Try.ntmps65
  go_wp2
  go_ret
  exact ⟨rfl, rfl⟩


set_option maxHeartbeats 400000 in
theorem pmul_any (a b c d : Nat) (w : World) :
    Calls Try.prog 52 #[.complex .f64 a b, .complex .f64 c d] w (Ret (IsC (cmul (fc a, fc b) (fc c, fc d))) w) := by
  go_enter Try.func52, Try.ntmps52
  go_wp2_with (first | (refine wpList_float rfl _ _ _ _ _ rfl rfl _ _ rfl rfl ?_; intro _ _ _) | (go_at_call 65; refine (of_any _ _ _).mono ?_; rintro e w' ⟨rfl, rfl⟩))
  go_ret
  exact ⟨_, _, rfl, rfl, _, _, rfl, Prod.ext (by first | assumption | (simp only [*]; rfl)) (by first | assumption | (simp only [*]; rfl))⟩

set_option maxHeartbeats 400000 in
theorem radd_any (a b c d : Nat) (w : World) :
    Calls Try.prog 48 #[.complex .f64 a b, .complex .f64 c d] w (Ret (IsC (cadd (fc a, fc b) (fc c, fc d))) w) := by
  go_enter Try.func48, Try.ntmps48
  go_wp2_with (first | (refine wpList_float rfl _ _ _ _ _ rfl rfl _ _ rfl rfl ?_; intro _ _ _) | (go_at_call 65; refine (of_any _ _ _).mono ?_; rintro e w' ⟨rfl, rfl⟩))
  go_ret
  exact ⟨_, _, rfl, rfl, _, _, rfl, Prod.ext (by first | assumption | (simp only [*]; rfl)) (by first | assumption | (simp only [*]; rfl))⟩


set_option maxHeartbeats 400000 in
theorem rmul_any (a b c d : Nat) (w : World) :
    Calls Try.prog 54 #[.complex .f64 a b, .complex .f64 c d] w (Ret (IsC (cmul (fc a, fc b) (fc c, fc d))) w) := by
  go_enter Try.func54, Try.ntmps54
  go_wp2_with (first | (refine wpList_float rfl _ _ _ _ _ rfl rfl _ _ rfl rfl ?_; intro _ _ _) | (go_at_call 65; refine (of_any _ _ _).mono ?_; rintro e w' ⟨rfl, rfl⟩))
  go_ret
  exact ⟨_, _, rfl, rfl, _, _, rfl, Prod.ext (by first | assumption | (simp only [*]; rfl)) (by first | assumption | (simp only [*]; rfl))⟩

set_option maxHeartbeats 400000 in
theorem pdiv_any (a b c d : Nat) (w : World) :
    Calls Try.prog 53 #[.complex .f64 a b, .complex .f64 c d] w (Ret (IsC (cdiv (fc a, fc b) (fc c, fc d))) w) := by
  have hs : isGe (fordz (fc c) (fc d)) = (FloatKind.f64.format.order (fsize c) (fsize d) == some .gt || FloatKind.f64.format.order (fsize c) (fsize d) == some .eq) := by rw [fordz_fc]; rfl
  have HS := hid hs
  clear hs
  by_cases hg : (FloatKind.f64.format.order (fsize c) (fsize d) == some .gt || FloatKind.f64.format.order (fsize c) (fsize d) == some .eq) = true
  · have hc : cdiv (fc a, fc b) (fc c, fc d) = _ := if_pos (by rw [HS.out]; exact hg)
    have HC := hid hc
    clear hc
    rw [HC.out]
    go_enter Try.func53, Try.ntmps53
    go_wp2_with (first | (refine wpList_float rfl _ _ _ _ _ rfl rfl _ _ rfl rfl ?_; intro _ _ _) | (go_at_call 65; refine (of_any _ _ _).mono ?_; rintro e w' ⟨rfl, rfl⟩) | (go_at_call 67; refine (psize_any _ _).mono ?_; rintro e w' ⟨rfl, rfl⟩))
    go_ret
    exact ⟨_, _, rfl, rfl, _, _, rfl, Prod.ext (by first | assumption | (simp only [*]; rfl)) (by first | assumption | (simp only [*]; rfl))⟩
  · have hc : cdiv (fc a, fc b) (fc c, fc d) = _ := if_neg (by rw [HS.out]; exact hg)
    have HC := hid hc
    clear hc
    have hg' := Bool.eq_false_iff.2 hg
    clear hg
    rw [HC.out]
    go_enter Try.func53, Try.ntmps53
    go_wp2_with (first | (refine wpList_float rfl _ _ _ _ _ rfl rfl _ _ rfl rfl ?_; intro _ _ _) | (go_at_call 65; refine (of_any _ _ _).mono ?_; rintro e w' ⟨rfl, rfl⟩) | (go_at_call 67; refine (psize_any _ _).mono ?_; rintro e w' ⟨rfl, rfl⟩))
    go_ret
    exact ⟨_, _, rfl, rfl, _, _, rfl, Prod.ext (by first | assumption | (simp only [*]; rfl)) (by first | assumption | (simp only [*]; rfl))⟩

set_option maxHeartbeats 400000 in
theorem rdiv_any (a b c d : Nat) (w : World) :
    Calls Try.prog 55 #[.complex .f64 a b, .complex .f64 c d] w (Ret (IsC (cdiv (fc a, fc b) (fc c, fc d))) w) := by
  have hs : isGe (fordz (fc c) (fc d)) = (FloatKind.f64.format.order (fsize c) (fsize d) == some .gt || FloatKind.f64.format.order (fsize c) (fsize d) == some .eq) := by rw [fordz_fc]; rfl
  have HS := hid hs
  clear hs
  by_cases hg : (FloatKind.f64.format.order (fsize c) (fsize d) == some .gt || FloatKind.f64.format.order (fsize c) (fsize d) == some .eq) = true
  · have hc : cdiv (fc a, fc b) (fc c, fc d) = _ := if_pos (by rw [HS.out]; exact hg)
    have HC := hid hc
    clear hc
    rw [HC.out]
    go_enter Try.func55, Try.ntmps55
    go_wp2_with (first | (refine wpList_float rfl _ _ _ _ _ rfl rfl _ _ rfl rfl ?_; intro _ _ _) | (go_at_call 65; refine (of_any _ _ _).mono ?_; rintro e w' ⟨rfl, rfl⟩) | (go_at_call 68; refine (rsize_any _ _).mono ?_; rintro e w' ⟨rfl, rfl⟩))
    go_ret
    exact ⟨_, _, rfl, rfl, _, _, rfl, Prod.ext (by first | assumption | (simp only [*]; rfl)) (by first | assumption | (simp only [*]; rfl))⟩
  · have hc : cdiv (fc a, fc b) (fc c, fc d) = _ := if_neg (by rw [HS.out]; exact hg)
    have HC := hid hc
    clear hc
    have hg' := Bool.eq_false_iff.2 hg
    clear hg
    rw [HC.out]
    go_enter Try.func55, Try.ntmps55
    go_wp2_with (first | (refine wpList_float rfl _ _ _ _ _ rfl rfl _ _ rfl rfl ?_; intro _ _ _) | (go_at_call 65; refine (of_any _ _ _).mono ?_; rintro e w' ⟨rfl, rfl⟩) | (go_at_call 68; refine (rsize_any _ _).mono ?_; rintro e w' ⟨rfl, rfl⟩))
    go_ret
    exact ⟨_, _, rfl, rfl, _, _, rfl, Prod.ext (by first | assumption | (simp only [*]; rfl)) (by first | assumption | (simp only [*]; rfl))⟩

end Go.Proofs.Ytlgfpfjfoajjbaa
