/- Walks of Name (both), real.Kind, gridworkref01.Kind. -/
import Derived.Test.YtaobncojdonhlaaKinds2
namespace Go.Proofs.Ytaobncojdonhlaa
open Go.RowKit

theorem nameK_cases (s : ByteArray) : (nameK s = 0 ∧ (s.size < 2 ∨ (2 ≤ s.size ∧ 16 < s.size) ∨ (2 ≤ s.size ∧ s.size ≤ 16 ∧ smallB (s.extract 1 s.size) = false))) ∨ (∃ h : 2 ≤ s.size, s.size ≤ 16 ∧ smallB (s.extract 1 s.size) = true ∧ nameK s = kindOf (s[0]'(by omega)).toNat) := by
  by_cases h1 : 2 ≤ s.size
  · by_cases h2 : s.size ≤ 16
    · cases h3 : smallB (s.extract 1 s.size)
      · left; refine ⟨?_, .inr (.inr ⟨h1, h2, rfl⟩)⟩
        unfold nameK; rw [dif_neg (by rw [h3]; simp)]
      · right; refine ⟨h1, h2, rfl, ?_⟩
        unfold nameK; rw [dif_pos ⟨h1, h2, h3⟩]
    · left; refine ⟨?_, .inr (.inl ⟨h1, by omega⟩)⟩
      unfold nameK; rw [dif_neg (fun h => h2 h.2.1)]
  · left; refine ⟨?_, .inl (by omega)⟩
    unfold nameK; rw [dif_neg (fun h => h1 h.1)]
theorem ext_le (s : ByteArray) (hs : s.size ≤ maxLen) : (s.extract 1 s.size).size ≤ maxLen := by
  rw [ByteArray.size_extract]; omega
set_option maxRecDepth 100000 in
set_option maxHeartbeats 1000000 in
theorem vname_any (s : ByteArray) (w : World) (hs : s.size ≤ maxLen) : Calls Try.prog 42 #[.string s] w (RetK (nameK s) w) := by
  have he := hid (ext_le s hs)
  unfold maxLen at hs
  rcases nameK_cases s with ⟨h0, h1 | ⟨h1, h2⟩ | ⟨h1, h2, h3⟩⟩ | ⟨h1, h2, h3, h0⟩
  all_goals
    have H0 := hid h0
    clear h0
    go_enter Try.func42, Try.ntmps42
    go_wp2_with (first | (go_at_call 70; refine (vsmall_any _ _ he.out).mono ?_; rintro e w' ⟨rfl, hb⟩) | (go_at_call 71; refine (vof_any _ _).mono ?_; rintro e w2 ⟨rfl, hb2⟩))
    (try rw [Exit.noGoto_ret])
    go_ret2
    first
      | exact ⟨by rw [H0.out]; rfl, Below.refl _ _⟩
      | exact ⟨by rw [H0.out]; rfl, below_step hb hb2⟩
      | exact ⟨by rw [H0.out]; rfl, hb⟩
set_option maxRecDepth 100000 in
set_option maxHeartbeats 1000000 in
theorem rname_any (s : ByteArray) (w : World) (hs : s.size ≤ maxLen) : Calls Try.prog 47 #[.string s] w (RetK (nameK s) w) := by
  have he := hid (ext_le s hs)
  unfold maxLen at hs
  rcases nameK_cases s with ⟨h0, h1 | ⟨h1, h2⟩ | ⟨h1, h2, h3⟩⟩ | ⟨h1, h2, h3, h0⟩
  all_goals
    have H0 := hid h0
    clear h0
    go_enter Try.func47, Try.ntmps47
    go_wp2_with (first | (go_at_call 73; refine (rbytes_any _ _ he.out).mono ?_; rintro e w' ⟨rfl, rfl⟩) | (go_at_call 74; refine (rof_any _ _).mono ?_; rintro e w2 ⟨rfl, hb2⟩))
    (try rw [Exit.noGoto_ret])
    go_ret2
    first
      | exact ⟨by rw [H0.out]; rfl, Below.refl _ _⟩
      | exact ⟨by rw [H0.out]; rfl, hb2⟩

end Go.Proofs.Ytaobncojdonhlaa
