/- Walks of Name (both), real.Kind, gridworkref01.Kind. -/
import Derived.Test.YtlaibmeokghdmaaGreatDoorMKinds2
import Derived.Test.YtlaibmeokghdmaaGreatDoorRows
import Derived.Test.YtlaibmeokghdmaaGreatDoorFloat
namespace Go.Proofs.YtlaibmeokghdmaaGreatDoor

section
open Go.RowKit

theorem nameK_cases (s : ByteArray) : (nameK s = 0 ∧ (s.size < 2 ∨ (2 ≤ s.size ∧ 16 < s.size) ∨ (2 ≤ s.size ∧ s.size ≤ 16 ∧ smallB (s.extract 1 s.size) = false))) ∨ (∃ h : 2 ≤ s.size, s.size ≤ 16 ∧ smallB (s.extract 1 s.size) = true ∧ nameK s = kindOf (s[0]'(by omega)).toNat) := by
  by_cases h1 : 2 ≤ s.size
  · by_cases h2 : s.size ≤ 16
    · cases h3 : smallB (s.extract 1 s.size)
      · left; refine ⟨?_, .inr (.inr ⟨h1, h2, rfl⟩)⟩
        unfold nameK; rw [dif_neg (by rw [h3]; simp)]
      · right; refine ⟨h1, h2, rfl, ?_⟩
        unfold nameK; rw [dif_pos ⟨h1, h2, h3⟩]
    · left; refine ⟨?_, .inr (.inl ⟨h1, by omega⟩)⟩
      unfold nameK; rw [dif_neg (fun h => h2 h.2.1)]
  · left; refine ⟨?_, .inl (by omega)⟩
    unfold nameK; rw [dif_neg (fun h => h1 h.1)]
theorem ext_le (s : ByteArray) (hs : s.size ≤ maxLen) : (s.extract 1 s.size).size ≤ maxLen := by
  rw [ByteArray.size_extract]; omega
set_option maxRecDepth 100000 in
set_option maxHeartbeats 1000000 in
theorem vname_any (s : ByteArray) (w : World) (hs : s.size ≤ maxLen) : Calls Tryz.prog 49 #[.string s] w (RetK (nameK s) w) := by
  have he := hid (ext_le s hs)
  unfold maxLen at hs
  rcases nameK_cases s with ⟨h0, h1 | ⟨h1, h2⟩ | ⟨h1, h2, h3⟩⟩ | ⟨h1, h2, h3, h0⟩
  all_goals
    have H0 := hid h0
    clear h0
    go_enter Tryz.func49, Tryz.ntmps49
    go_wp2_with (first | (go_at_call 72; refine (vsmall_any _ _ he.out).mono ?_; rintro e w' ⟨rfl, hb⟩) | (go_at_call 73; refine (vof_any _ _).mono ?_; rintro e w2 ⟨rfl, hb2⟩))
    (try rw [Exit.noGoto_ret])
    go_ret2
    first
      | exact ⟨by rw [H0.out]; rfl, Below.refl _ _⟩
      | exact ⟨by rw [H0.out]; rfl, below_step hb hb2⟩
      | exact ⟨by rw [H0.out]; rfl, hb⟩
end

section
/- Walks of the packages parts and gridworkref02. -/
open Go.RowKit

theorem frombits_law (n : Int) (w : World) : (callFunc 9 #[.int .u64 n]).run Tryz.prog w = .ok (.value (.float .f64 n.toNat)) w := by
  rw [run_callFunc_extern Tryz.func9 (by kernel_rfl) (by kernel_rfl) (by kernel_rfl) (e := Extern.MathFloatBits.float64frombits) (by kernel_rfl)]
  rfl
theorem bits_law (b : Nat) (w : World) : (callFunc 74 #[.float .f64 b]).run Tryz.prog w = .ok (.value (.int .u64 b)) w := by
  rw [run_callFunc_extern Tryz.func74 (by kernel_rfl) (by kernel_rfl) (by kernel_rfl) (e := Extern.MathFloatBits.float64bits) (by kernel_rfl)]
  rfl


set_option maxHeartbeats 400000 in
theorem padd_any (a b c d : Nat) (w : World) :
    Calls Tryz.prog 37 #[.complex .f64 a b, .complex .f64 c d] w (Ret (IsC (cadd (fc a, fc b) (fc c, fc d))) w) := by
  go_enter Tryz.func37, Tryz.ntmps37
  go_wp2_with (refine wpList_float rfl _ _ _ _ _ rfl rfl _ _ rfl rfl ?_; intro _ _ _)
  go_ret
  exact ⟨_, _, rfl, rfl, _, _, rfl, Prod.ext (by assumption) (by assumption)⟩
set_option maxHeartbeats 400000 in
theorem psub_any (a b c d : Nat) (w : World) :
    Calls Tryz.prog 70 #[.complex .f64 a b, .complex .f64 c d] w (Ret (IsC (csub (fc a, fc b) (fc c, fc d))) w) := by
  go_enter Tryz.func70, Tryz.ntmps70
  go_wp2_with (first | (refine wpList_float rfl _ _ _ _ _ rfl rfl _ _ rfl rfl ?_; intro _ _ _) | (fail))
  go_ret
  exact ⟨_, _, rfl, rfl, _, _, rfl, Prod.ext (by first | assumption | (simp only [*]; rfl)) (by first | assumption | (simp only [*]; rfl))⟩

set_option maxHeartbeats 400000 in
theorem pmul_any (a b c d : Nat) (w : World) :
    Calls Tryz.prog 69 #[.complex .f64 a b, .complex .f64 c d] w (Ret (IsC (cmul (fc a, fc b) (fc c, fc d))) w) := by
  go_enter Tryz.func69, Tryz.ntmps69
  go_wp2_with (first | (refine wpList_float rfl _ _ _ _ _ rfl rfl _ _ rfl rfl ?_; intro _ _ _) | (fail))
  go_ret
  exact ⟨_, _, rfl, rfl, _, _, rfl, Prod.ext (by first | assumption | (simp only [*]; rfl)) (by first | assumption | (simp only [*]; rfl))⟩

end
end Go.Proofs.YtlaibmeokghdmaaGreatDoor
