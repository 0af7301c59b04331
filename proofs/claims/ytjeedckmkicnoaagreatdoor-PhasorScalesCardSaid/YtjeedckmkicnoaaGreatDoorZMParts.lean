/- a part of the proof of the last text -/
import Derived.Test.YtjeedckmkicnoaaGreatDoorZMKinds2
namespace Go.Proofs.YtjeedckmkicnoaaGreatDoor
set_option linter.all false
set_option maxHeartbeats 4000000
set_option maxRecDepth 100000
section
open Go.RowKit
theorem nameK_cases (s : ByteArray) : (nameK s = 0 ∧ (s.size < 2 ∨ (2 ≤ s.size ∧ 16 < s.size) ∨ (2 ≤ s.size ∧ s.size ≤ 16 ∧ smallB (s.extract 1 s.size) = false))) ∨ (∃ h : 2 ≤ s.size, s.size ≤ 16 ∧ smallB (s.extract 1 s.size) = true ∧ nameK s = kindOf (s[0]'(by omega)).toNat) := by
  by_cases h1 : 2 ≤ s.size
  · by_cases h2 : s.size ≤ 16
    · cases h3 : smallB (s.extract 1 s.size)
      · left; refine ⟨?_, .inr (.inr ⟨h1, h2, rfl⟩)⟩
        unfold nameK; rw [dif_neg (by rw [h3]; simp)]
      · right; refine ⟨h1, h2, rfl, ?_⟩
        unfold nameK; rw [dif_pos ⟨h1, h2, h3⟩]
    · left; refine ⟨?_, .inr (.inl ⟨h1, by omega⟩)⟩
      unfold nameK; rw [dif_neg (fun h => h2 h.2.1)]
  · left; refine ⟨?_, .inl (by omega)⟩
    unfold nameK; rw [dif_neg (fun h => h1 h.1)]
theorem ext_le (s : ByteArray) (hs : s.size ≤ maxLen) : (s.extract 1 s.size).size ≤ maxLen := by
  rw [ByteArray.size_extract]; omega
set_option maxRecDepth 100000 in
set_option maxHeartbeats 1000000 in
theorem vname_any (s : ByteArray) (w : World) (hs : s.size ≤ maxLen) : Calls Tryz.prog 80 #[.string s] w (RetK (nameK s) w) := by
  have he := hid (ext_le s hs)
  unfold maxLen at hs
  rcases nameK_cases s with ⟨h0, h1 | ⟨h1, h2⟩ | ⟨h1, h2, h3⟩⟩ | ⟨h1, h2, h3, h0⟩
  all_goals
    have H0 := hid h0
    clear h0
    go_enter Tryz.func80, Tryz.ntmps80
    go_wp2_with (first | (go_at_call 103; refine (vsmall_any _ _ he.out).mono ?_; rintro e w' ⟨rfl, hb⟩) | (go_at_call 104; refine (vof_any _ _).mono ?_; rintro e w2 ⟨rfl, hb2⟩))
    (try rw [Exit.noGoto_ret])
    go_ret2
    first
      | exact ⟨by rw [H0.out]; rfl, Below.refl _ _⟩
      | exact ⟨by rw [H0.out]; rfl, below_step hb hb2⟩
      | exact ⟨by rw [H0.out]; rfl, hb⟩
set_option maxRecDepth 100000 in
set_option maxHeartbeats 1000000 in
theorem rname_any (s : ByteArray) (w : World) (hs : s.size ≤ maxLen) : Calls Tryz.prog 84 #[.string s] w (RetK (nameK s) w) := by
  have he := hid (ext_le s hs)
  unfold maxLen at hs
  rcases nameK_cases s with ⟨h0, h1 | ⟨h1, h2⟩ | ⟨h1, h2, h3⟩⟩ | ⟨h1, h2, h3, h0⟩
  all_goals
    have H0 := hid h0
    clear h0
    go_enter Tryz.func84, Tryz.ntmps84
    go_wp2_with (first | (go_at_call 106; refine (rbytes_any _ _ he.out).mono ?_; rintro e w' ⟨rfl, rfl⟩) | (go_at_call 107; refine (rof_any _ _).mono ?_; rintro e w2 ⟨rfl, hb2⟩))
    (try rw [Exit.noGoto_ret])
    go_ret2
    first
      | exact ⟨by rw [H0.out]; rfl, Below.refl _ _⟩
      | exact ⟨by rw [H0.out]; rfl, hb2⟩
end
section
/- Walks of the packages parts and gridworkref02. -/
open Go.RowKit
theorem frombits_law (n : Int) (w : World) : (callFunc 7 #[.int .u64 n]).run Tryz.prog w = .ok (.value (.float .f64 n.toNat)) w := by
  rw [run_callFunc_extern Tryz.func7 (by kernel_rfl) (by kernel_rfl) (by kernel_rfl) (e := Extern.MathFloatBits.float64frombits) (by kernel_rfl)]
  rfl
theorem bits_law (b : Nat) (w : World) : (callFunc 77 #[.float .f64 b]).run Tryz.prog w = .ok (.value (.int .u64 b)) w := by
  rw [run_callFunc_extern Tryz.func77 (by kernel_rfl) (by kernel_rfl) (by kernel_rfl) (e := Extern.MathFloatBits.float64bits) (by kernel_rfl)]
  rfl
set_option maxHeartbeats 400000 in
theorem psize_any (x : Nat) (w : World) :
    Calls Tryz.prog 162 #[.float .f64 x] w fun e w' => e = .returned (.float .f64 (fsize x)) ∧ w = w' := by
  have b1 := bits_law
  have b2 := frombits_law
  go_enter Tryz.func162, Tryz.ntmps162
  go_wp2
  go_ret
  exact ⟨congrArg (fun y => Ending.returned (.float .f64 y)) (fsize_walk x), rfl⟩
set_option maxHeartbeats 400000 in
theorem padd_any (a b c d : Nat) (w : World) :
    Calls Tryz.prog 98 #[.complex .f64 a b, .complex .f64 c d] w (Ret (IsC (cadd (fc a, fc b) (fc c, fc d))) w) := by
  go_enter Tryz.func98, Tryz.ntmps98
  go_wp2_with (refine wpList_float rfl _ _ _ _ _ rfl rfl _ _ rfl rfl ?_; intro _ _ _)
  go_ret
  exact ⟨_, _, rfl, rfl, _, _, rfl, Prod.ext (by assumption) (by assumption)⟩
set_option maxHeartbeats 400000 in
theorem of_any (a b : Nat) (w : World) :
    Calls Tryz.prog 76 #[.float .f64 a, .float .f64 b] w fun e w' => e = .returned (.complex .f64 a b) ∧ w = w' := by
  go_enter Tryz.func76, Tryz.ntmps76
  go_wp2
  go_ret
  exact ⟨rfl, rfl⟩
set_option maxHeartbeats 400000 in
theorem psub_any (a b c d : Nat) (w : World) :
    Calls Tryz.prog 51 #[.complex .f64 a b, .complex .f64 c d] w (Ret (IsC (csub (fc a, fc b) (fc c, fc d))) w) := by
  go_enter Tryz.func51, Tryz.ntmps51
  go_wp2_with (first | (refine wpList_float rfl _ _ _ _ _ rfl rfl _ _ rfl rfl ?_; intro _ _ _) | (go_at_call 76; refine (of_any _ _ _).mono ?_; rintro e w' ⟨rfl, rfl⟩))
  go_ret
  exact ⟨_, _, rfl, rfl, _, _, rfl, Prod.ext (by first | assumption | (simp only [*]; rfl)) (by first | assumption | (simp only [*]; rfl))⟩
set_option maxHeartbeats 400000 in
theorem pmul_any (a b c d : Nat) (w : World) :
    Calls Tryz.prog 142 #[.complex .f64 a b, .complex .f64 c d] w (Ret (IsC (cmul (fc a, fc b) (fc c, fc d))) w) := by
  go_enter Tryz.func142, Tryz.ntmps142
  go_wp2_with (first | (refine wpList_float rfl _ _ _ _ _ rfl rfl _ _ rfl rfl ?_; intro _ _ _) | (go_at_call 76; refine (of_any _ _ _).mono ?_; rintro e w' ⟨rfl, rfl⟩))
  go_ret
  exact ⟨_, _, rfl, rfl, _, _, rfl, Prod.ext (by first | assumption | (simp only [*]; rfl)) (by first | assumption | (simp only [*]; rfl))⟩
set_option maxHeartbeats 400000 in
theorem rsub_any (a b c d : Nat) (w : World) :
    Calls Tryz.prog 56 #[.complex .f64 a b, .complex .f64 c d] w (Ret (IsC (csub (fc a, fc b) (fc c, fc d))) w) := by
  go_enter Tryz.func56, Tryz.ntmps56
  go_wp2_with (first | (refine wpList_float rfl _ _ _ _ _ rfl rfl _ _ rfl rfl ?_; intro _ _ _) | (go_at_call 76; refine (of_any _ _ _).mono ?_; rintro e w' ⟨rfl, rfl⟩))
  go_ret
  exact ⟨_, _, rfl, rfl, _, _, rfl, Prod.ext (by first | assumption | (simp only [*]; rfl)) (by first | assumption | (simp only [*]; rfl))⟩
set_option maxHeartbeats 400000 in
theorem pdiv_any (a b c d : Nat) (w : World) :
    Calls Tryz.prog 143 #[.complex .f64 a b, .complex .f64 c d] w (Ret (IsC (cdiv (fc a, fc b) (fc c, fc d))) w) := by
  have hs : isGe (fordz (fc c) (fc d)) = (FloatKind.f64.format.order (fsize c) (fsize d) == some .gt || FloatKind.f64.format.order (fsize c) (fsize d) == some .eq) := by rw [fordz_fc]; rfl
  have HS := hid hs
  clear hs
  by_cases hg : (FloatKind.f64.format.order (fsize c) (fsize d) == some .gt || FloatKind.f64.format.order (fsize c) (fsize d) == some .eq) = true
  · have hc : cdiv (fc a, fc b) (fc c, fc d) = _ := if_pos (by rw [HS.out]; exact hg)
    have HC := hid hc
    clear hc
    rw [HC.out]
    go_enter Tryz.func143, Tryz.ntmps143
    go_wp2_with (first | (refine wpList_float rfl _ _ _ _ _ rfl rfl _ _ rfl rfl ?_; intro _ _ _) | (go_at_call 76; refine (of_any _ _ _).mono ?_; rintro e w' ⟨rfl, rfl⟩) | (go_at_call 162; refine (psize_any _ _).mono ?_; rintro e w' ⟨rfl, rfl⟩))
    go_ret
    exact ⟨_, _, rfl, rfl, _, _, rfl, Prod.ext (by first | assumption | (simp only [*]; rfl)) (by first | assumption | (simp only [*]; rfl))⟩
  · have hc : cdiv (fc a, fc b) (fc c, fc d) = _ := if_neg (by rw [HS.out]; exact hg)
    have HC := hid hc
    clear hc
    have hg' := Bool.eq_false_iff.2 hg
    clear hg
    rw [HC.out]
    go_enter Tryz.func143, Tryz.ntmps143
    go_wp2_with (first | (refine wpList_float rfl _ _ _ _ _ rfl rfl _ _ rfl rfl ?_; intro _ _ _) | (go_at_call 76; refine (of_any _ _ _).mono ?_; rintro e w' ⟨rfl, rfl⟩) | (go_at_call 162; refine (psize_any _ _).mono ?_; rintro e w' ⟨rfl, rfl⟩))
    go_ret
    exact ⟨_, _, rfl, rfl, _, _, rfl, Prod.ext (by first | assumption | (simp only [*]; rfl)) (by first | assumption | (simp only [*]; rfl))⟩
end
end Go.Proofs.YtjeedckmkicnoaaGreatDoor
