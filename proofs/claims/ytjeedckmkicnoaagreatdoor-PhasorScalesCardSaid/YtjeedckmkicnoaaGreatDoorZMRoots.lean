/- a part of the proof of the last text -/
import Derived.Test.YtjeedckmkicnoaaGreatDoorZWth
namespace Go.Proofs.YtjeedckmkicnoaaGreatDoor
set_option linter.all false
set_option maxHeartbeats 4000000
set_option maxRecDepth 100000
section
open Go.RowKit
theorem bad1_nz {l : List El} {k : Nat} {q : Nat × Int} : ∀ {r : List El}, firstBad l k r = some q → q.2 ≠ 0 := by
  intro r
  induction r generalizing k with
  | nil => intro h; cases h
  | cons x r ih =>
    intro h
    unfold firstBad at h
    split at h
    · exact ih h
    · rename_i h0
      obtain rfl := Option.some.inj h
      exact h0
theorem ofL_err {l : List El} (h : (ofL l).1 = false) : (ofL l).2.1 ≠ 0 := by
  unfold ofL at *
  split at h
  · rename_i h1; rw [if_pos h1]; decide
  · rename_i h1
    rw [if_neg h1]
    cases hf : firstBad l 0 l with
    | some q => exact bad1_nz hf
    | none =>
      rw [hf] at h
      dsimp only at h ⊢
      split at h
      · rename_i h2; rw [if_pos h2]; decide
      · cases h
theorem ofL_zero {l : List El} (h : (ofL l).1 = true) : (ofL l).2 = (0, 0) := by
  unfold ofL at *
  split at h
  · cases h
  · rename_i h1
    rw [if_neg h1]
    cases hf : firstBad l 0 l with
    | some q => rw [hf] at h; cases h
    | none =>
      rw [hf] at h
      dsimp only at h ⊢
      split at h
      · cases h
      · rename_i h2; rw [if_neg h2]
theorem retof_bad {R : World → Value → List El → Prop} {l : List El} {w w' : World} {e : Ending} (h : RetOf R l w e w') (h0 : (ofL l).1 = false) : ∃ x y : Int, e = .returned (.tuple #[.pointer none, .agg #[.int .i64 x, .int .i64 y]]) ∧ x ≠ 0 ∧ Below w.heap.size w w' := by
  obtain ⟨p, rfl, h, hb⟩ := h
  rcases h with ⟨_, rfl⟩ | ⟨h1, _⟩
  · exact ⟨_, _, rfl, ofL_err h0, hb⟩
  · rw [h0] at h1; cases h1
theorem retof_good {l : List El} {w w' : World} {e : Ending} (h : RetOf NN l w e w') (h0 : (ofL l).1 = true) : ∃ g : Nat, e = .returned (.tuple #[.pointer (some ⟨g, 0, none⟩), .agg #[.int .i64 0, .int .i64 0]]) ∧ NN w' (.pointer (some ⟨g, 0, none⟩)) l ∧ Below w.heap.size w w' := by
  obtain ⟨p, rfl, h, hb⟩ := h
  rcases h with ⟨h1, _⟩ | ⟨_, h2, h3⟩
  · rw [h0] at h1; cases h1
  · rw [ofL_zero h0]
    rcases h3 with ⟨h4, _⟩ | ⟨B, g, vl, vn, vb, bn, bp, bb, rfl, h4⟩
    · exact absurd h4 h2
    · exact ⟨g, rfl, .inr ⟨B, g, vl, vn, vb, bn, bp, bb, rfl, h4⟩, hb⟩
end
section
/- Walks of turns.Root and gridworkref04.Root: the 24 roots of a turn, by a table. -/
open Go.RowKit
/-- The cosine of 0 to 6 steps, by its bits. -/
def cst (k : Int) : Nat :=
  if k = 0 then 4607182418800017408 else if k = 1 then 4606875505927962389 else if k = 2 then 4605975682916830378 else if k = 3 then 4604544271217802189
  else if k = 4 then 4602678819172646912 else if k = 5 then 4598334089338226320 else 0
/-- The cosine of 0 to 23 steps. -/
def cosb (k : Int) : Nat :=
  if 17 < k then cst (24 - k) else if 12 < k then Op.negFloat .f64 (cst (k - 12)) else if 6 < k then Op.negFloat .f64 (cst (12 - k)) else cst k
/-- The root of a number of steps. -/
def root (k : Int) : Cx := (cosb (k % 24), cosb ((k + 18) % 24))
theorem cosb_fin (k : Int) (h : 0 ≤ k) (h2 : k < 24) : fc (cosb k) = cosb k := by
  obtain ⟨m, rfl⟩ := Int.eq_ofNat_of_zero_le h
  have : ∀ m : Fin 24, fc (cosb (m.val : Int)) = cosb (m.val : Int) := by decide +kernel
  exact this ⟨m, by omega⟩
theorem run_negf {P : Program} (x : Nat) (w : World) : (Op.unary .neg (.float .f64 x)).run P w = .ok (.float .f64 (Op.negFloat .f64 x)) w := rfl
set_option maxHeartbeats 400000 in
theorem tconst_any (k : Int) (w : World) :
    Calls Tryz.prog 169 #[.int .i64 k] w fun e w' => e = .returned (.float .f64 (cst k)) ∧ w = w' := by
  have b2 := frombits_law
  have hc : k = 0 ∨ k = 1 ∨ k = 2 ∨ k = 3 ∨ k = 4 ∨ k = 5 ∨ (k ≠ 0 ∧ k ≠ 1 ∧ k ≠ 2 ∧ k ≠ 3 ∧ k ≠ 4 ∧ k ≠ 5) := by omega
  rcases hc with rfl | rfl | rfl | rfl | rfl | rfl | ⟨h0, h1, h2, h3, h4, h5⟩
  all_goals (go_enter Tryz.func169, Tryz.ntmps169)
  all_goals go_wp2
  all_goals (try go_ret)
  all_goals (first | exact ⟨rfl, rfl⟩ | exact ⟨by simp [cst, *], rfl⟩)
set_option maxHeartbeats 400000 in
theorem tcos_any (k : Int) (w : World) (h : 0 ≤ k) (h2 : k < 24) :
    Calls Tryz.prog 156 #[.int .i64 k] w fun e w' => e = .returned (.float .f64 (cosb k)) ∧ w = w' := by
  have hn := fun (x : Nat) (w : World) => run_negf (P := Tryz.prog) x w
  have hc : 17 < k ∨ (¬ 17 < k ∧ 12 < k) ∨ (¬ 17 < k ∧ ¬ 12 < k ∧ 6 < k) ∨ (¬ 17 < k ∧ ¬ 12 < k ∧ ¬ 6 < k) := by omega
  rcases hc with h3 | ⟨h3, h4⟩ | ⟨h3, h4, h5⟩ | ⟨h3, h4, h5⟩
  all_goals (go_enter Tryz.func156, Tryz.ntmps156)
  all_goals (go_wp2_with (go_at_call 169; refine (tconst_any _ _).mono ?_; rintro e w' ⟨rfl, rfl⟩))
  all_goals (try rw [Exit.noGoto_ret])
  all_goals go_ret
  all_goals exact ⟨congrArg (fun x => Ending.returned (.float .f64 x)) (by unfold cosb; repeat (first | rw [if_pos (by omega)] | rw [if_neg (by omega)])), rfl⟩
theorem mod_p (n : Int) : (Int.tmod n 24 + 24).tmod 24 = n % 24 := by
  have h : Int.tmod n 24 = _ := Int.tmod_eq_emod
  rw [h]
  have h1 := Int.emod_nonneg n (show (24 : Int) ≠ 0 by decide)
  have h2 := Int.emod_lt_of_pos n (show (0 : Int) < 24 by decide)
  split
  · rw [Int.tmod_eq_emod_of_nonneg (by omega)]; omega
  · have : (24 : Int).natAbs = 24 := rfl
    rw [this, Int.tmod_eq_emod_of_nonneg (by omega)]; omega
theorem tmod_in (n : Int) : -23 ≤ Int.tmod n 24 ∧ Int.tmod n 24 ≤ 23 := by
  have h : Int.tmod n 24 = _ := Int.tmod_eq_emod
  rw [h]
  have h1 := Int.emod_nonneg n (show (24 : Int) ≠ 0 by decide)
  have h2 := Int.emod_lt_of_pos n (show (0 : Int) < 24 by decide)
  have h3 : (24 : Int).natAbs = 24 := rfl
  split
  · omega
  · rename_i h4
    have : n % 24 ≠ 0 := fun e => h4 (.inr (Int.dvd_of_emod_eq_zero e))
    rw [h3]; omega
theorem wrap_mod (n : Int) : wrap64 (Int.tmod n 24 + 24) = Int.tmod n 24 + 24 := by
  have := tmod_in n
  unfold wrap64; omega
set_option maxHeartbeats 400000 in
theorem troot_any (k : Int) (w : World) :
    Calls Tryz.prog 133 #[.int .i64 k] w fun e w' => e = .returned (.complex .f64 (root k).1 (root k).2) ∧ w = w' := by
  have hw := wrap_mod k
  obtain ⟨m, hm⟩ : ∃ m, k % 24 = m := ⟨_, rfl⟩
  have h1 := Int.emod_nonneg k (show (24 : Int) ≠ 0 by decide)
  have h2 := Int.emod_lt_of_pos k (show (0 : Int) < 24 by decide)
  have hp := mod_p k
  have hr : root k = (cosb m, cosb ((m + 18) % 24)) := by unfold root; rw [show (k + 18) % 24 = (m + 18) % 24 by omega, hm]
  rw [hm] at h1 h2 hp
  rw [hr]
  clear hm hr
  go_enter Tryz.func133, Tryz.ntmps133
  go_wp2_with (go_at_call 156; refine (tcos_any _ _ (by omega) (by omega)).mono ?_; rintro e w' ⟨rfl, rfl⟩)
  go_ret
  exact ⟨rfl, rfl⟩
theorem mul_24 {a b : Int} (h0 : 0 ≤ a) (h1 : a < 24) (h2 : 0 ≤ b) (h3 : b < 24) : 0 ≤ a * b ∧ a * b ≤ 529 := by
  refine ⟨Int.mul_nonneg h0 h2, ?_⟩
  have : a * b ≤ 23 * 23 := Int.mul_le_mul (by omega) (by omega) h2 (by omega)
  omega
theorem emod24 (k : Int) : 0 ≤ k % 24 ∧ k % 24 < 24 := ⟨Int.emod_nonneg _ (by decide), Int.emod_lt_of_pos _ (by decide)⟩
/-- The angle of a tone at a step. -/
def angl (ph h at_ : Int) : Int := ((h % 24) * (at_ % 24) + ph % 24) % 24
/-- What is left by a turn, as the reference's cosine takes it. -/
theorem rcos_cases (k : Int) (_ : -29 ≤ k) (_ : k < 24) : ∃ m, 0 ≤ m ∧ m < 24 ∧ k % 24 = m ∧ ((Int.tmod k 24 = m ∧ ¬ m < 0) ∨ (Int.tmod k 24 = m - 24 ∧ m - 24 < 0)) := by
  have h3 := emod24 k
  refine ⟨k % 24, h3.1, h3.2, rfl, ?_⟩
  have h : Int.tmod k 24 = _ := Int.tmod_eq_emod
  have h4 : (24 : Int).natAbs = 24 := rfl
  split at h
  · exact .inl ⟨by omega, by omega⟩
  · rw [h4] at h; exact .inr ⟨by omega, by omega⟩
theorem cos_parts (m : Int) (h0 : 0 ≤ m) (h1 : m < 24) : ((m = 6 ∨ m = 18) ∧ cosb m = 0) ∨ (¬ m = 6 ∧ ¬ m = 18 ∧ m < 6 ∧ cosb m = cst m) ∨
    (¬ m = 6 ∧ ¬ m = 18 ∧ ¬ m < 6 ∧ m ≤ 12 ∧ cosb m = Op.negFloat .f64 (cst (12 - m))) ∨ (¬ m = 6 ∧ ¬ m = 18 ∧ ¬ m < 6 ∧ ¬ m ≤ 12 ∧ m < 18 ∧ cosb m = Op.negFloat .f64 (cst (m - 12))) ∨
    (¬ m = 6 ∧ ¬ m = 18 ∧ ¬ m < 6 ∧ ¬ m ≤ 12 ∧ ¬ m < 18 ∧ cosb m = cst (24 - m)) := by
  obtain ⟨n, rfl⟩ := Int.eq_ofNat_of_zero_le h0
  have : ∀ n : Fin 24, (((n.val : Int) = 6 ∨ (n.val : Int) = 18) ∧ cosb n.val = 0) ∨ (¬ (n.val : Int) = 6 ∧ ¬ (n.val : Int) = 18 ∧ (n.val : Int) < 6 ∧ cosb n.val = cst n.val) ∨
    (¬ (n.val : Int) = 6 ∧ ¬ (n.val : Int) = 18 ∧ ¬ (n.val : Int) < 6 ∧ (n.val : Int) ≤ 12 ∧ cosb n.val = Op.negFloat .f64 (cst (12 - n.val))) ∨ (¬ (n.val : Int) = 6 ∧ ¬ (n.val : Int) = 18 ∧ ¬ (n.val : Int) < 6 ∧ ¬ (n.val : Int) ≤ 12 ∧ (n.val : Int) < 18 ∧ cosb n.val = Op.negFloat .f64 (cst (n.val - 12))) ∨
    (¬ (n.val : Int) = 6 ∧ ¬ (n.val : Int) = 18 ∧ ¬ (n.val : Int) < 6 ∧ ¬ (n.val : Int) ≤ 12 ∧ ¬ (n.val : Int) < 18 ∧ cosb n.val = cst (24 - n.val)) := by decide +kernel
  exact this ⟨n, by omega⟩
end
end Go.Proofs.YtjeedckmkicnoaaGreatDoor
