/- a part of the proof of the last text -/
import Derived.Test.YtdepiggjneoopaaGreatDoorZNegR
namespace Go.Proofs.YtdepiggjneoopaaGreatDoor
set_option linter.all false
set_option maxHeartbeats 4000000
set_option maxRecDepth 100000
open FV
/-- A double of a whole number. (U: 1074.) -/
def isW (U x : Nat) (n : Int) : Prop := fin x = true ∧ val x = n * ((2 ^ U : Nat) : Int)
theorem rnd_int {n : Nat} (h : n ≤ 2 ^ 53) : ∀ k, rnd (n * 2 ^ k) = n * 2 ^ k
  | 0 => by
    have h1 := rnd_mag (0 * 2 ^ 52 + n)
    rwa [mag_rung 0 n h (.inr rfl)] at h1
  | k + 1 => by
    rw [show n * 2 ^ (k + 1) = 2 * (n * 2 ^ k) by rw [Nat.pow_succ, ← Nat.mul_assoc, Nat.mul_comm], rnd_double, rnd_int h k]
theorem sg_abs (n : Int) : ∃ s, n = sg s n.natAbs := by
  by_cases h : n < 0
  · exact ⟨true, by unfold sg; rw [if_pos rfl]; omega⟩
  · exact ⟨false, by unfold sg; rw [if_neg (by simp)]; omega⟩
theorem abs_mul (n : Int) (k : Nat) : (n * ((2 ^ k : Nat) : Int)).natAbs = n.natAbs * 2 ^ k := by
  rw [Int.natAbs_mul, Int.natAbs_natCast]
theorem rndI_int {n : Int} (h : n.natAbs ≤ 2 ^ 53) (k : Nat) : rndI (n * ((2 ^ k : Nat) : Int)) = n * ((2 ^ k : Nat) : Int) := by
  obtain ⟨s, hs⟩ := sg_abs n
  generalize n.natAbs = m at *
  subst hs
  rw [← sg_mul, ← rndI_sg, rnd_int h k]
theorem small_lt {m K U : Nat} (h : m ≤ 2 ^ 53) (hUK : U < K) : m * 2 ^ U < 2 ^ (53 + K) := by
  refine Nat.lt_of_le_of_lt (Nat.mul_le_mul_right _ h) ?_
  rw [← Nat.pow_add]
  exact Nat.pow_lt_pow_right (by decide) (by omega)
theorem isW_add {U : Nat} (hU : U = 1074) {x y : Nat} {a b : Int} (hx : isW U x a) (hy : isW U y b) (h : (a + b).natAbs ≤ 2 ^ 53) : isW U (fadd x y) (a + b) := by
  obtain ⟨K, hK⟩ : ∃ K, K = 2045 := ⟨_, rfl⟩
  have hv : val x + val y = (a + b) * ((2 ^ U : Nat) : Int) := by rw [hx.2, hy.2, Int.add_mul]
  obtain ⟨z, h1, h2, h3, _⟩ := add_fin K hK hx.1 hy.1 (by rw [hv, abs_mul, rnd_int h]; exact small_lt h (by omega))
  have e : fadd x y = z := by
    show (dbl.add x y).getD qnan = z
    rw [h1]; rfl
  rw [e]
  exact ⟨h2, by rw [h3, hv, rndI_int h]⟩
theorem isW_neg {U x : Nat} {a : Int} (h : isW U x a) : isW U (x ^^^ 2 ^ 63) (-a) := by
  obtain ⟨h1, h2, _⟩ := neg_fin x
  exact ⟨by rw [h1]; exact h.1, by rw [h2, h.2, Int.neg_mul]⟩
theorem fsub_add {x y : Nat} (hy : fin y = true) : fsub x y = fadd x (y ^^^ 2 ^ 63) := by
  have h : dbl.read (y ^^^ 2 ^ 63) = (dbl.read y).opposite := by
    obtain ⟨h1, _, h3, h4⟩ := neg_fin y
    rw [read_fin hy, read_fin (by rw [h1]; exact hy), h3, h4, xor_sgn]
    rfl
  show (dbl.sub x y).getD qnan = (dbl.add x (y ^^^ 2 ^ 63)).getD qnan
  unfold Ieee.Format.sub Ieee.Format.add
  rw [h]
theorem isW_sub {U : Nat} (hU : U = 1074) {x y : Nat} {a b : Int} (hx : isW U x a) (hy : isW U y b) (h : (a - b).natAbs ≤ 2 ^ 53) : isW U (fsub x y) (a - b) := by
  rw [fsub_add hy.1]
  exact isW_add hU hx (isW_neg hy) (by rw [← Int.sub_eq_add_neg]; exact h)
theorem sig_lt (x : Nat) : sig x < 2 ^ 53 := by
  unfold sig
  split
  · rename_i h
    have : (2 : Nat) ^ 52 < 2 ^ 53 := by decide
    omega
  · have : x % 2 ^ 63 % 2 ^ 52 < 2 ^ 52 := Nat.mod_lt _ (by decide)
    have e : (2 : Nat) ^ 53 = 2 ^ 52 + 2 ^ 52 := by decide
    omega
theorem val_mag {U x : Nat} {a : Int} (h : isW U x a) : mag (x % 2 ^ 63) = a.natAbs * 2 ^ U := by
  have h1 := congrArg Int.natAbs h.2
  rw [abs_mul] at h1
  rw [← h1]
  unfold val sg
  split <;> simp
/-- A whole number's last place is not far down. -/
theorem isW_plc {U : Nat} (hU : U = 1074) {x : Nat} {a : Int} (h : isW U x a) (ha : a ≠ 0) : -52 ≤ plc x := by
  refine Decidable.byContradiction fun hp => ?_
  have h1 := sig_mag x
  rw [val_mag h] at h1
  have h2 : (plc x + 1074).toNat ≤ U - 53 := by omega
  have h3 : sig x * 2 ^ (plc x + 1074).toNat < 2 ^ 53 * 2 ^ (U - 53) := by
    refine Nat.lt_of_lt_of_le (Nat.mul_lt_mul_of_pos_right (sig_lt x) (Nat.two_pow_pos _)) ?_
    exact Nat.mul_le_mul_left _ (Nat.pow_le_pow_right (by decide) h2)
  rw [← Nat.pow_add, show 53 + (U - 53) = U by omega, h1] at h3
  have h4 : 1 * 2 ^ U ≤ a.natAbs * 2 ^ U := Nat.mul_le_mul_right _ (by omega)
  omega
theorem isW_zero {U x : Nat} (h : isW U x 0) : sig x = 0 := by
  have h1 := sig_mag x
  rw [val_mag h, Int.natAbs_zero, Nat.zero_mul] at h1
  rcases Nat.mul_eq_zero.1 h1 with h2 | h2
  · exact h2
  · exact absurd h2 (Nat.pos_iff_ne_zero.1 (Nat.two_pow_pos _))
theorem sg_prod (s t : Bool) (m n : Nat) : sg s m * sg t n = sg (s ^^ t) (m * n) := by
  unfold sg
  cases s <;> cases t <;> simp [Int.neg_mul, Int.mul_neg]
theorem isW_mul {U : Nat} (hU : U = 1074) {x y : Nat} {a b : Int} (hx : isW U x a) (hy : isW U y b) (h : (a * b).natAbs ≤ 2 ^ 53) : isW U (fmul x y) (a * b) := by
  obtain ⟨K, hK⟩ : ∃ K, K = 2045 := ⟨_, rfl⟩
  have hp : sig x * sig y = 0 ∨ -1074 ≤ plc x + plc y := by
    by_cases ha : a = 0
    · subst ha; exact .inl (by rw [isW_zero hx, Nat.zero_mul])
    · by_cases hb : b = 0
      · subst hb; exact .inl (by rw [isW_zero hy, Nat.mul_zero])
      · have := isW_plc hU hx ha
        have := isW_plc hU hy hb
        exact .inr (by omega)
  have hm : sig x * sig y * 2 ^ (plc x + plc y + 1074).toNat = (a * b).natAbs * 2 ^ U := by
    rcases hp with h0 | h0
    · have h1 : a.natAbs * b.natAbs = 0 := by
        rcases Nat.mul_eq_zero.1 h0 with h2 | h2
        · have h3 := val_mag hx
          rw [sig_zero h2] at h3
          rcases Nat.mul_eq_zero.1 h3.symm with h4 | h4
          · rw [h4, Nat.zero_mul]
          · exact absurd h4 (Nat.pos_iff_ne_zero.1 (Nat.two_pow_pos _))
        · have h3 := val_mag hy
          rw [sig_zero h2] at h3
          rcases Nat.mul_eq_zero.1 h3.symm with h4 | h4
          · rw [h4, Nat.mul_zero]
          · exact absurd h4 (Nat.pos_iff_ne_zero.1 (Nat.two_pow_pos _))
      rw [h0, Nat.zero_mul, Int.natAbs_mul, h1, Nat.zero_mul]
    · have h1 := sig_prod U hU x y h0
      rw [val_mag hx, val_mag hy] at h1
      have h2 : a.natAbs * 2 ^ U * (b.natAbs * 2 ^ U) = (a * b).natAbs * 2 ^ U * 2 ^ U := by
        rw [Int.natAbs_mul, Nat.mul_mul_mul_comm, Nat.mul_assoc (a.natAbs * b.natAbs)]
      rw [h2] at h1
      exact Nat.eq_of_mul_eq_mul_right (Nat.two_pow_pos U) h1
  obtain ⟨z, h1, h2, h3, _⟩ := mul_fin K hK hx.1 hy.1 hp (by rw [hm, rnd_int h]; exact small_lt h (by omega))
  have e : fmul x y = z := by
    show (dbl.mul x y).getD qnan = z
    rw [h1]; rfl
  rw [e]
  refine ⟨h2, ?_⟩
  rw [h3, hm, rnd_int h]
  have hx2 := hx.2
  have hy2 := hy.2
  unfold val at hx2 hy2
  rw [val_mag hx, sg_mul] at hx2
  rw [val_mag hy, sg_mul] at hy2
  have hpos : ((2 ^ U : Nat) : Int) ≠ 0 := by
    have := Nat.two_pow_pos U
    omega
  have ea : sg (sgn x) a.natAbs = a := Int.eq_of_mul_eq_mul_right hpos hx2
  have eb : sg (sgn y) b.natAbs = b := Int.eq_of_mul_eq_mul_right hpos hy2
  rw [sg_mul, Int.natAbs_mul, ← sg_prod, ea, eb]
theorem isW_eq {U x y : Nat} {a : Int} (hx : isW U x a) (hy : isW U y a) : ford x y = some .eq := order_eq hx.1 hy.1 (hx.2.trans hy.2.symm)
end Go.Proofs.YtdepiggjneoopaaGreatDoor
