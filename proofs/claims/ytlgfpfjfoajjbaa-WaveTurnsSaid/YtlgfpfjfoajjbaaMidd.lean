/- Walks of gridworklaw30.middling, gridworkkit.Pick, gridworklaw30.gridTones, awake. -/
import Derived.Test.YtlgfpfjfoajjbaaPeriods
import Derived.Test.YtlgfpfjfoajjbaaFTame
namespace Go.Proofs.Ytlgfpfjfoajjbaa
open Go.RowKit

/-- 2^-900 and 2^900. -/
def lo900 : Nat := 553942754166571008
def hi900 : Nat := 8660422083433463808
theorem mul_lo : floatBits .mul .f64 4607182418800017408 553942754166571008 = some 553942754166571008 := by decide +kernel
theorem mul_hi : floatBits .mul .f64 4607182418800017408 8660422083433463808 = some 8660422083433463808 := by decide +kernel

set_option maxHeartbeats 400000 in
theorem abs_any (x : Nat) (w : World) : Calls Try.prog 62 #[.float .f64 x] w fun e w' => e = .returned (.float .f64 (fsize x)) ∧ w = w' := by
  have b1 := bits_law
  have b2 := frombits_law
  go_enter Try.func62, Try.ntmps62
  go_wp2
  go_ret
  exact ⟨congrArg (fun y => Ending.returned (.float .f64 y)) (fsize_walk x), rfl⟩
theorem one_sz : fsize 4607182418800017408 = 4607182418800017408 := by decide
set_option maxHeartbeats 400000 in
theorem isinf_one (w : World) : Calls Try.prog 76 #[.float .f64 4607182418800017408, .int .i64 0] w fun e w' => e = .returned (.bool false) ∧ w = w' := by
  have h1 : FloatKind.f64.format.order 4607182418800017408 9218868437227405311 = some .lt := by decide +kernel
  go_enter Try.func76, Try.ntmps76
  go_wp2_with (go_at_call 62; refine (abs_any _ _).mono ?_; rintro e w' ⟨rfl, rfl⟩; rw [one_sz])
  go_ret
  exact ⟨rfl, rfl⟩
set_option maxHeartbeats 400000 in
theorem isnan_one (w : World) : Calls Try.prog 77 #[.float .f64 4607182418800017408] w fun e w' => e = .returned (.bool false) ∧ w = w' := by
  have h1 : FloatKind.f64.format.order 4607182418800017408 4607182418800017408 = some .eq := by decide +kernel
  go_enter Try.func77, Try.ntmps77
  go_wp2
  go_ret
  exact ⟨rfl, rfl⟩
set_option maxHeartbeats 400000 in
theorem norm_one (w : World) : Calls Try.prog 78 #[.float .f64 4607182418800017408] w fun e w' => e = .returned (.tuple #[.float .f64 4607182418800017408, .int .i64 0]) ∧ w = w' := by
  have h1 : FloatKind.f64.format.order 4607182418800017408 4503599627370496 = some .gt := by decide +kernel
  go_enter Try.func78, Try.ntmps78
  go_wp2_with (go_at_call 62; refine (abs_any _ _).mono ?_; rintro e w' ⟨rfl, rfl⟩; rw [one_sz])
  go_ret2
  exact ⟨rfl, rfl⟩
theorem bits_1 : bits .and .i64 1023 2047 = 1023 := by decide +kernel
theorem bits_2 : bits .andNot .u64 4607182418800017408 9218868437227405312 = 0 := by decide +kernel

theorem bits_or_lo : bits .or .u64 0 553942754166571008 = 553942754166571008 := by decide +kernel
set_option maxRecDepth 100000 in
set_option maxHeartbeats 1000000 in
theorem ldexp0_lo (w : World) : Calls Try.prog 73 #[.float .f64 4607182418800017408, .int .i64 (-900)] w fun e w' => e = .returned (.float .f64 lo900) ∧ w = w' := by
  have b1 := bits_law
  have b2 := frombits_law
  have hm : ∀ w, (binOp .mul 63 (.float .f64 4607182418800017408) (.float .f64 553942754166571008)).run Try.prog w = .ok (.float .f64 553942754166571008) w := fun w => run_float_arith w .mul _ .f64 _ _ _ mul_lo
  have h0 : FloatKind.f64.format.order 4607182418800017408 0 = some .gt := by decide +kernel
  have h1 := bits_1
  have h2 := bits_2
  have h3 := bits_or_lo
  go_enter Try.func73, Try.ntmps73
  go_wp2_with (first | (go_at_call 76; refine (isinf_one _).mono ?_; rintro e w' ⟨rfl, rfl⟩) | (go_at_call 77; refine (isnan_one _).mono ?_; rintro e w' ⟨rfl, rfl⟩) | (go_at_call 78; refine (norm_one _).mono ?_; rintro e w' ⟨rfl, rfl⟩))
  (try rw [Exit.noGoto_ret])
  go_ret
  exact ⟨rfl, rfl⟩
set_option maxHeartbeats 400000 in
theorem ldexp_lo (w : World) : Calls Try.prog 63 #[.float .f64 4607182418800017408, .int .i64 (-900)] w fun e w' => e = .returned (.float .f64 lo900) ∧ w = w' := by
  go_enter Try.func63, Try.ntmps63
  go_wp2_with (go_at_call 73; refine (ldexp0_lo _).mono ?_; rintro e w' ⟨rfl, rfl⟩)
  (try rw [Exit.noGoto_ret])
  go_ret
  exact ⟨rfl, rfl⟩
theorem bits_or_hi : bits .or .u64 0 8660422083433463808 = 8660422083433463808 := by decide +kernel
set_option maxRecDepth 100000 in
set_option maxHeartbeats 1000000 in
theorem ldexp0_hi (w : World) : Calls Try.prog 73 #[.float .f64 4607182418800017408, .int .i64 900] w fun e w' => e = .returned (.float .f64 hi900) ∧ w = w' := by
  have b1 := bits_law
  have b2 := frombits_law
  have hm : ∀ w, (binOp .mul 63 (.float .f64 4607182418800017408) (.float .f64 8660422083433463808)).run Try.prog w = .ok (.float .f64 8660422083433463808) w := fun w => run_float_arith w .mul _ .f64 _ _ _ mul_hi
  have h0 : FloatKind.f64.format.order 4607182418800017408 0 = some .gt := by decide +kernel
  have h1 := bits_1
  have h2 := bits_2
  have h3 := bits_or_hi
  go_enter Try.func73, Try.ntmps73
  go_wp2_with (first | (go_at_call 76; refine (isinf_one _).mono ?_; rintro e w' ⟨rfl, rfl⟩) | (go_at_call 77; refine (isnan_one _).mono ?_; rintro e w' ⟨rfl, rfl⟩) | (go_at_call 78; refine (norm_one _).mono ?_; rintro e w' ⟨rfl, rfl⟩))
  (try rw [Exit.noGoto_ret])
  go_ret
  exact ⟨rfl, rfl⟩
set_option maxHeartbeats 400000 in
theorem ldexp_hi (w : World) : Calls Try.prog 63 #[.float .f64 4607182418800017408, .int .i64 900] w fun e w' => e = .returned (.float .f64 hi900) ∧ w = w' := by
  go_enter Try.func63, Try.ntmps63
  go_wp2_with (go_at_call 73; refine (ldexp0_hi _).mono ?_; rintro e w' ⟨rfl, rfl⟩)
  (try rw [Exit.noGoto_ret])
  go_ret
  exact ⟨rfl, rfl⟩

/-- Is it 0, or of a size from 2^-900 to 2^900? -/
def midB (x : Nat) : Bool := (ford (fsize x) 0 == some .eq) || ((ford (fsize x) lo900 == some .gt || ford (fsize x) lo900 == some .eq) && (ford (fsize x) hi900 == some .lt || ford (fsize x) hi900 == some .eq))
set_option maxHeartbeats 1000000 in
theorem midd_any (x : Nat) (w : World) : Calls Try.prog 38 #[.float .f64 x] w fun e w' => e = .returned (.bool (midB x)) ∧ w = w' := by
  obtain ⟨o1, h1⟩ : ∃ o, FloatKind.f64.format.order (fsize x) 0 = o := ⟨_, rfl⟩
  obtain ⟨o2, h2⟩ : ∃ o, FloatKind.f64.format.order (fsize x) lo900 = o := ⟨_, rfl⟩
  obtain ⟨o3, h3⟩ : ∃ o, FloatKind.f64.format.order (fsize x) hi900 = o := ⟨_, rfl⟩
  have hB : midB x = ((o1 == some .eq) || ((o2 == some .gt || o2 == some .eq) && (o3 == some .lt || o3 == some .eq))) := by rw [← h1, ← h2, ← h3]; rfl
  rw [hB]
  clear hB
  cases g1 : (o1 == some .eq) <;> cases g2 : (o2 == some .gt || o2 == some .eq)
  all_goals (go_enter Try.func38, Try.ntmps38)
  all_goals (go_wp2_with (first | (go_at_call 62; refine (abs_any _ _).mono ?_; rintro e w' ⟨rfl, rfl⟩) | (go_at_call 63; (with_reducible refine (ldexp_lo _).mono ?_); rintro e w' ⟨rfl, rfl⟩) | (go_at_call 63; (with_reducible refine (ldexp_hi _).mono ?_); rintro e w' ⟨rfl, rfl⟩)))
  all_goals go_ret
  all_goals exact ⟨by simp, rfl⟩
end Go.Proofs.Ytlgfpfjfoajjbaa
