/- Walks of the packages parts and gridworkref02. -/
import Derived.Test.YtfljneapjcnpiaaGreatDoorRows
import Derived.Test.YtfljneapjcnpiaaGreatDoorFloat
namespace Go.Proofs.YtfljneapjcnpiaaGreatDoor
open Go.RowKit

theorem frombits_law (n : Int) (w : World) : (callFunc 8 #[.int .u64 n]).run Tryz.prog w = .ok (.value (.float .f64 n.toNat)) w := by
  rw [run_callFunc_extern Tryz.func8 (by kernel_rfl) (by kernel_rfl) (by kernel_rfl) (e := Extern.MathFloatBits.float64frombits) (by kernel_rfl)]
  rfl
theorem bits_law (b : Nat) (w : World) : (callFunc 93 #[.float .f64 b]).run Tryz.prog w = .ok (.value (.int .u64 b)) w := by
  rw [run_callFunc_extern Tryz.func93 (by kernel_rfl) (by kernel_rfl) (by kernel_rfl) (e := Extern.MathFloatBits.float64bits) (by kernel_rfl)]
  rfl


set_option maxHeartbeats 400000 in
theorem psize_any (x : Nat) (w : World) :
    Calls Tryz.prog 113 #[.float .f64 x] w fun e w' => e = .returned (.float .f64 (fsize x)) ∧ w = w' := by
  have b1 := bits_law
  have b2 := frombits_law
  go_enter Tryz.func113, Tryz.ntmps113
  go_wp2
  go_ret
  exact ⟨congrArg (fun y => Ending.returned (.float .f64 y)) (fsize_walk x), rfl⟩

set_option maxHeartbeats 400000 in
theorem rsize_any (x : Nat) (w : World) :
    Calls Tryz.prog 89 #[.float .f64 x] w fun e w' => e = .returned (.float .f64 (fsize x)) ∧ w = w' := by
  have b1 := bits_law
  have b2 := frombits_law
  go_enter Tryz.func89, Tryz.ntmps89
  go_wp2
  go_ret
  exact ⟨congrArg (fun y => Ending.returned (.float .f64 y)) (fsize_walk x), rfl⟩

set_option maxHeartbeats 400000 in
theorem padd_any (a b c d : Nat) (w : World) :
    Calls Tryz.prog 40 #[.complex .f64 a b, .complex .f64 c d] w (Ret (IsC (cadd (fc a, fc b) (fc c, fc d))) w) := by
  go_enter Tryz.func40, Tryz.ntmps40
  go_wp2_with (refine wpList_float rfl _ _ _ _ _ rfl rfl _ _ rfl rfl ?_; intro _ _ _)
  go_ret
  exact ⟨_, _, rfl, rfl, _, _, rfl, Prod.ext (by assumption) (by assumption)⟩
set_option maxHeartbeats 400000 in
theorem of_any (a b : Nat) (w : World) :
    Calls Tryz.prog 90 #[.float .f64 a, .float .f64 b] w fun e w' => e = .returned (.complex .f64 a b) ∧ w = w' := by
  go_enter Tryz.func90, Tryz.ntmps90
  go_wp2
  go_ret
  exact ⟨rfl, rfl⟩

set_option maxHeartbeats 400000 in
theorem psub_any (a b c d : Nat) (w : World) :
    Calls Tryz.prog 43 #[.complex .f64 a b, .complex .f64 c d] w (Ret (IsC (csub (fc a, fc b) (fc c, fc d))) w) := by
  go_enter Tryz.func43, Tryz.ntmps43
  go_wp2_with (first | (refine wpList_float rfl _ _ _ _ _ rfl rfl _ _ rfl rfl ?_; intro _ _ _) | (go_at_call 90; refine (of_any _ _ _).mono ?_; rintro e w' ⟨rfl, rfl⟩))
  go_ret
  exact ⟨_, _, rfl, rfl, _, _, rfl, Prod.ext (by first | assumption | (simp only [*]; rfl)) (by first | assumption | (simp only [*]; rfl))⟩

set_option maxHeartbeats 400000 in
theorem pmul_any (a b c d : Nat) (w : World) :
    Calls Tryz.prog 41 #[.complex .f64 a b, .complex .f64 c d] w (Ret (IsC (cmul (fc a, fc b) (fc c, fc d))) w) := by
  go_enter Tryz.func41, Tryz.ntmps41
  go_wp2_with (first | (refine wpList_float rfl _ _ _ _ _ rfl rfl _ _ rfl rfl ?_; intro _ _ _) | (go_at_call 90; refine (of_any _ _ _).mono ?_; rintro e w' ⟨rfl, rfl⟩))
  go_ret
  exact ⟨_, _, rfl, rfl, _, _, rfl, Prod.ext (by first | assumption | (simp only [*]; rfl)) (by first | assumption | (simp only [*]; rfl))⟩

set_option maxHeartbeats 400000 in
theorem radd_any (a b c d : Nat) (w : World) :
    Calls Tryz.prog 60 #[.complex .f64 a b, .complex .f64 c d] w (Ret (IsC (cadd (fc a, fc b) (fc c, fc d))) w) := by
  go_enter Tryz.func60, Tryz.ntmps60
  go_wp2_with (first | (refine wpList_float rfl _ _ _ _ _ rfl rfl _ _ rfl rfl ?_; intro _ _ _) | (go_at_call 90; refine (of_any _ _ _).mono ?_; rintro e w' ⟨rfl, rfl⟩))
  go_ret
  exact ⟨_, _, rfl, rfl, _, _, rfl, Prod.ext (by first | assumption | (simp only [*]; rfl)) (by first | assumption | (simp only [*]; rfl))⟩

set_option maxHeartbeats 400000 in
theorem rsub_any (a b c d : Nat) (w : World) :
    Calls Tryz.prog 62 #[.complex .f64 a b, .complex .f64 c d] w (Ret (IsC (csub (fc a, fc b) (fc c, fc d))) w) := by
  go_enter Tryz.func62, Tryz.ntmps62
  go_wp2_with (first | (refine wpList_float rfl _ _ _ _ _ rfl rfl _ _ rfl rfl ?_; intro _ _ _) | (go_at_call 90; refine (of_any _ _ _).mono ?_; rintro e w' ⟨rfl, rfl⟩))
  go_ret
  exact ⟨_, _, rfl, rfl, _, _, rfl, Prod.ext (by first | assumption | (simp only [*]; rfl)) (by first | assumption | (simp only [*]; rfl))⟩

set_option maxHeartbeats 400000 in
theorem rmul_any (a b c d : Nat) (w : World) :
    Calls Tryz.prog 61 #[.complex .f64 a b, .complex .f64 c d] w (Ret (IsC (cmul (fc a, fc b) (fc c, fc d))) w) := by
  go_enter Tryz.func61, Tryz.ntmps61
  go_wp2_with (first | (refine wpList_float rfl _ _ _ _ _ rfl rfl _ _ rfl rfl ?_; intro _ _ _) | (go_at_call 90; refine (of_any _ _ _).mono ?_; rintro e w' ⟨rfl, rfl⟩))
  go_ret
  exact ⟨_, _, rfl, rfl, _, _, rfl, Prod.ext (by first | assumption | (simp only [*]; rfl)) (by first | assumption | (simp only [*]; rfl))⟩

set_option maxHeartbeats 400000 in
theorem pdiv_any (a b c d : Nat) (w : World) :
    Calls Tryz.prog 81 #[.complex .f64 a b, .complex .f64 c d] w (Ret (IsC (cdiv (fc a, fc b) (fc c, fc d))) w) := by
  have hs : isGe (fordz (fc c) (fc d)) = (FloatKind.f64.format.order (fsize c) (fsize d) == some .gt || FloatKind.f64.format.order (fsize c) (fsize d) == some .eq) := by rw [fordz_fc]; rfl
  have HS := hid hs
  clear hs
  by_cases hg : (FloatKind.f64.format.order (fsize c) (fsize d) == some .gt || FloatKind.f64.format.order (fsize c) (fsize d) == some .eq) = true
  · have hc : cdiv (fc a, fc b) (fc c, fc d) = _ := if_pos (by rw [HS.out]; exact hg)
    have HC := hid hc
    clear hc
    rw [HC.out]
    go_enter Tryz.func81, Tryz.ntmps81
    go_wp2_with (first | (refine wpList_float rfl _ _ _ _ _ rfl rfl _ _ rfl rfl ?_; intro _ _ _) | (go_at_call 90; refine (of_any _ _ _).mono ?_; rintro e w' ⟨rfl, rfl⟩) | (go_at_call 113; refine (psize_any _ _).mono ?_; rintro e w' ⟨rfl, rfl⟩))
    go_ret
    exact ⟨_, _, rfl, rfl, _, _, rfl, Prod.ext (by first | assumption | (simp only [*]; rfl)) (by first | assumption | (simp only [*]; rfl))⟩
  · have hc : cdiv (fc a, fc b) (fc c, fc d) = _ := if_neg (by rw [HS.out]; exact hg)
    have HC := hid hc
    clear hc
    have hg' := Bool.eq_false_iff.2 hg
    clear hg
    rw [HC.out]
    go_enter Tryz.func81, Tryz.ntmps81
    go_wp2_with (first | (refine wpList_float rfl _ _ _ _ _ rfl rfl _ _ rfl rfl ?_; intro _ _ _) | (go_at_call 90; refine (of_any _ _ _).mono ?_; rintro e w' ⟨rfl, rfl⟩) | (go_at_call 113; refine (psize_any _ _).mono ?_; rintro e w' ⟨rfl, rfl⟩))
    go_ret
    exact ⟨_, _, rfl, rfl, _, _, rfl, Prod.ext (by first | assumption | (simp only [*]; rfl)) (by first | assumption | (simp only [*]; rfl))⟩

set_option maxHeartbeats 400000 in
theorem rdiv_any (a b c d : Nat) (w : World) :
    Calls Tryz.prog 55 #[.complex .f64 a b, .complex .f64 c d] w (Ret (IsC (cdiv (fc a, fc b) (fc c, fc d))) w) := by
  have hs : isGe (fordz (fc c) (fc d)) = (FloatKind.f64.format.order (fsize c) (fsize d) == some .gt || FloatKind.f64.format.order (fsize c) (fsize d) == some .eq) := by rw [fordz_fc]; rfl
  have HS := hid hs
  clear hs
  by_cases hg : (FloatKind.f64.format.order (fsize c) (fsize d) == some .gt || FloatKind.f64.format.order (fsize c) (fsize d) == some .eq) = true
  · have hc : cdiv (fc a, fc b) (fc c, fc d) = _ := if_pos (by rw [HS.out]; exact hg)
    have HC := hid hc
    clear hc
    rw [HC.out]
    go_enter Tryz.func55, Tryz.ntmps55
    go_wp2_with (first | (refine wpList_float rfl _ _ _ _ _ rfl rfl _ _ rfl rfl ?_; intro _ _ _) | (go_at_call 90; refine (of_any _ _ _).mono ?_; rintro e w' ⟨rfl, rfl⟩) | (go_at_call 89; refine (rsize_any _ _).mono ?_; rintro e w' ⟨rfl, rfl⟩))
    go_ret
    exact ⟨_, _, rfl, rfl, _, _, rfl, Prod.ext (by first | assumption | (simp only [*]; rfl)) (by first | assumption | (simp only [*]; rfl))⟩
  · have hc : cdiv (fc a, fc b) (fc c, fc d) = _ := if_neg (by rw [HS.out]; exact hg)
    have HC := hid hc
    clear hc
    have hg' := Bool.eq_false_iff.2 hg
    clear hg
    rw [HC.out]
    go_enter Tryz.func55, Tryz.ntmps55
    go_wp2_with (first | (refine wpList_float rfl _ _ _ _ _ rfl rfl _ _ rfl rfl ?_; intro _ _ _) | (go_at_call 90; refine (of_any _ _ _).mono ?_; rintro e w' ⟨rfl, rfl⟩) | (go_at_call 89; refine (rsize_any _ _).mono ?_; rintro e w' ⟨rfl, rfl⟩))
    go_ret
    exact ⟨_, _, rfl, rfl, _, _, rfl, Prod.ext (by first | assumption | (simp only [*]; rfl)) (by first | assumption | (simp only [*]; rfl))⟩

end Go.Proofs.YtfljneapjcnpiaaGreatDoor
