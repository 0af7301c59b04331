/- a part of the proof of the last text -/
import Derived.Test.YtdepiggjneoopaaGreatDoorZParts
namespace Go.Proofs.YtdepiggjneoopaaGreatDoor
set_option linter.all false
set_option maxHeartbeats 4000000
set_option maxRecDepth 100000
open Go.RowKit
/-- 'x - x == 0' of what an operation gave. -/
theorem ffin_of {x r : Nat} (h : fc r = fop .sub (fc x) (fc x)) : (FloatKind.f64.format.order r 0 == some .eq) = ffin (fc x) := by
  have e0 : fc 0 = 0 := fc_of_not (by decide +kernel)
  show (ford r 0 == some .eq) = _
  rw [← ford_fc, h, e0]; rfl
/-- Whether both parts are finite, as the walks come to it. -/
theorem cfin_yes {a b r s : Nat} (h1 : fc r = fop .sub (fc a) (fc a)) (t : FloatKind.f64.format.order r 0 = some .eq) (h2 : fc s = fop .sub (fc b) (fc b)) :
    (FloatKind.f64.format.order s 0 == some .eq) = cfin (fc a, fc b) := by
  rw [ffin_of h2, cfin, ← ffin_of h1, t]; rfl
theorem cfin_no {a b r : Nat} (h1 : fc r = fop .sub (fc a) (fc a)) (t : ¬ FloatKind.f64.format.order r 0 = some .eq) : false = cfin (fc a, fc b) := by
  rw [cfin, ← ffin_of h1]
  have : (FloatKind.f64.format.order r 0 == some .eq) = false := by simpa using t
  rw [this]; rfl
theorem ret_bool {a b : Bool} (h : a = b) : Ending.returned (.bool a) = .returned (.bool b) := by rw [h]
set_option maxHeartbeats 400000 in
theorem pfin_any (a b : Nat) (w : World) :
    Calls Tryz.prog 41 #[.complex .f64 a b] w (Ret (fun v => v = .bool (cfin (fc a, fc b))) w) := by
  go_enter Tryz.func41, Tryz.ntmps41
  go_wp2_with (refine wpList_float rfl _ _ _ _ _ rfl rfl _ _ rfl rfl ?_; intro _ _ _)
  all_goals go_ret
  · rename_i r1 n1 h1 t r2 n2 h2
    exact ⟨_, _, rfl, rfl, congrArg Value.bool (cfin_yes h1 t h2)⟩
  · rename_i r1 n1 h1 t
    exact ⟨_, _, rfl, rfl, congrArg Value.bool (cfin_no h1 t)⟩
/-- The same real: the same bits, or both NaN. -/
theorem same_bits_nan {a b : Nat} (h : ¬ (a = b)) : (fc a = fc b) ↔ (fnan a = true ∧ fnan b = true) := by
  constructor
  · intro hf
    by_cases ha : fnan a = true
    · refine ⟨ha, ?_⟩
      rw [fc_of_nan ha] at hf
      exact fc_eq_qnan.1 hf.symm
    · by_cases hb : fnan b = true
      · rw [fc_of_nan hb] at hf
        exact absurd (fc_eq_qnan.1 hf) ha
      · rw [fc_of_not (by simpa using ha), fc_of_not (by simpa using hb)] at hf
        exact absurd hf h
  · rintro ⟨ha, hb⟩
    rw [fc_of_nan ha, fc_of_nan hb]
theorem neq_self (x : Nat) : (FloatKind.f64.format.order x x != some .eq) = fnan x := by
  have := ford_self x
  unfold ford at this
  unfold bne
  rw [this]; simp
theorem same_1 {a b : Nat} (h : (a : Int) = b) : true = (fc a == fc b) := by
  have : a = b := by omega
  simp [this]
theorem same_2 {a b : Nat} (h : ¬ (a : Int) = b) (h2 : FloatKind.f64.format.order a a = some .eq) : ((a : Int) == b) = (fc a == fc b) := by
  have hab : ¬ a = b := by omega
  have hn : fnan a = false := by rw [← neq_self, h2]; rfl
  have h1 : ((a : Int) == b) = false := by simpa using h
  have h3 : (fc a == fc b) = false := by
    rw [beq_eq_false_iff_ne]
    intro e
    have := ((same_bits_nan hab).1 e).1
    rw [hn] at this; cases this
  rw [h1, h3]
theorem same_3 {a b : Nat} (h : ¬ (a : Int) = b) :
    ((a : Int) == b || FloatKind.f64.format.order a a != some .eq && FloatKind.f64.format.order b b != some .eq) = (fc a == fc b) := by
  have hab : ¬ a = b := by omega
  have h1 : ((a : Int) == b) = false := by simpa using h
  rw [h1, neq_self, neq_self, Bool.eq_iff_iff]
  simp [same_bits_nan hab]
set_option maxHeartbeats 400000 in
theorem samereal_any (a b : Nat) (w : World) :
    Calls Tryz.prog 75 #[.float .f64 a, .float .f64 b] w fun e w' => e = .returned (.bool (fc a == fc b)) ∧ w = w' := by
  have b1 := bits_law
  go_enter Tryz.func75, Tryz.ntmps75
  go_wp2
  all_goals go_ret
  · rename_i h; exact ⟨ret_bool (same_1 h), rfl⟩
  · rename_i h h2; exact ⟨ret_bool (same_2 h h2), rfl⟩
  · rename_i h h2; exact ⟨ret_bool (same_3 h), rfl⟩
set_option maxHeartbeats 400000 in
theorem samenum_any (a b c d : Nat) (w : World) :
    Calls Tryz.prog 43 #[.complex .f64 a b, .complex .f64 c d] w fun e w' => e = .returned (.bool (fc a == fc c && fc b == fc d)) ∧ w = w' := by
  go_enter Tryz.func43, Tryz.ntmps43
  go_wp2_with (go_at_call 75; refine (samereal_any _ _ _).mono ?_; rintro e w' ⟨rfl, rfl⟩)
  all_goals go_ret
  all_goals exact ⟨ret_bool (by simp [*]), rfl⟩
end Go.Proofs.YtdepiggjneoopaaGreatDoor
