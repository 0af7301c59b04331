/- a part of the proof of the last text -/
import Derived.Test.YtdepiggjneoopaaGreatDoorZFVal
import Derived.Test.YtdepiggjneoopaaGreatDoorZFloat
namespace Go.Proofs.YtdepiggjneoopaaGreatDoor
set_option linter.all false
set_option maxHeartbeats 4000000
set_option maxRecDepth 100000
open Go.RowKit FV
theorem sgn_lo {x : Nat} (h : x < 2 ^ 63) : sgn x = false := by unfold sgn; rw [Nat.div_eq_of_lt h]; rfl
theorem fsz_lt (x : Nat) : fsize x < 2 ^ 63 := Nat.mod_lt _ (by decide)
theorem fsz_mod (x : Nat) : fsize x % 2 ^ 63 = fsize x := Nat.mod_eq_of_lt (fsz_lt x)
/-- What the sizes of two numbers come to. -/
theorem near_pos {m : Nat} {e : Int} (hm : m ≠ 0) (he : -1074 ≤ e) : ∃ r, 0 < r ∧ r ≤ dbl.infRung ∧ dbl.nearest false m e = dbl.word false r := by
  refine ⟨_, ?_, Nat.min_le_right _ _, by unfold Ieee.Format.nearest; rw [if_neg hm]⟩
  have hinf : 0 < dbl.infRung := by decide
  rw [Nat.lt_min]
  refine ⟨?_, hinf⟩
  have hb : 0 < dbl.binade := by decide
  obtain ⟨last, hl⟩ : ∃ last, max (e + (m.log2 : Int) - dbl.fractionBits) dbl.leastPlace = last := ⟨_, rfl⟩
  rw [hl]
  have hlp : dbl.leastPlace = -1074 := lp_eq
  have h1 : -1074 ≤ last := by omega
  rcases Int.lt_or_le (-1074) last with h | h
  · have : 0 < (last - dbl.leastPlace).toNat := by omega
    have := Nat.mul_pos this hb
    omega
  · have hle : last = -1074 := by omega
    rw [show (last - e).toNat = 0 by omega, cut_even _ _ _ (by omega), cutE_zero]
    have : 0 < m <<< (e - last).toNat := by rw [Nat.shiftLeft_eq]; exact Nat.mul_pos (by omega) (Nat.two_pow_pos _)
    omega
theorem word_gt {r : Nat} (h0 : 0 < r) (h1 : r ≤ dbl.infRung) : ford (dbl.word false r) 0 = some .gt := by
  have hz : FV.fin 0 = true := by decide
  rcases Nat.lt_or_ge r dbl.infRung with h | h
  · obtain ⟨h2, h3⟩ := val_word false r h
    show dbl.order _ 0 = _
    rw [order_fin h2 hz, h3]
    have hv : val 0 = 0 := by decide
    have hm : 0 < mag r := by
      unfold mag
      split
      · exact h0
      · exact Nat.mul_pos (by have := Nat.two_pow_pos 52; omega) (Nat.two_pow_pos _)
    rw [hv]
    show some (compare ((mag r : Nat) : Int) 0) = some .gt
    congr 1
    rw [Int.compare_eq_gt]
    omega
  · obtain rfl : r = dbl.infRung := by omega
    decide +kernel
theorem size_pos {a b : Nat} (ha : FV.fin a = true) (hb : FV.fin b = true) (h : ¬ (fsize a = 0 ∧ fsize b = 0)) : ford (fadd (fsize a) (fsize b)) 0 = some .gt := by
  have fa : FV.fin (fsize a) = true := by unfold FV.fin at *; rw [fsz_mod]; exact ha
  have fb : FV.fin (fsize b) = true := by unfold FV.fin at *; rw [fsz_mod]; exact hb
  have px := plc_ge (fsize a)
  have py := plc_ge (fsize b)
  obtain ⟨e, he⟩ : ∃ e, min (plc (fsize a)) (plc (fsize b)) = e := ⟨_, rfl⟩
  have sg0 : ∀ {x : Nat}, fsize x ≠ 0 → sig (fsize x) ≠ 0 := fun {x} hx => by
    unfold sig
    rw [fsz_mod]
    split
    · exact hx
    · have := Nat.two_pow_pos 52; omega
  have hadd : dbl.add (fsize a) (fsize b) = some (dbl.nearest false (sig (fsize a) * 2 ^ (plc (fsize a) - e).toNat + sig (fsize b) * 2 ^ (plc (fsize b) - e).toNat) e) := by
    unfold Ieee.Format.add
    rw [read_fin fa, read_fin fb]
    simp only [Ieee.Datum.sum, he, signed_eq, sgn_lo (fsz_lt a), sgn_lo (fsz_lt b), Option.map_some, Ieee.Format.write]
    congr 1
    have e1 : sg false (sig (fsize a) * 2 ^ (plc (fsize a) - e).toNat) + sg false (sig (fsize b) * 2 ^ (plc (fsize b) - e).toNat) = ((sig (fsize a) * 2 ^ (plc (fsize a) - e).toNat + sig (fsize b) * 2 ^ (plc (fsize b) - e).toNat : Nat) : Int) := by
      unfold sg; simp
    rw [e1, Int.natAbs_natCast]
    congr 1
    split
    · rfl
    · exact decide_eq_false (by omega)
  have hm : sig (fsize a) * 2 ^ (plc (fsize a) - e).toNat + sig (fsize b) * 2 ^ (plc (fsize b) - e).toNat ≠ 0 := by
    intro h0
    have h1 : sig (fsize a) * 2 ^ (plc (fsize a) - e).toNat = 0 := by omega
    have h2 : sig (fsize b) * 2 ^ (plc (fsize b) - e).toNat = 0 := by omega
    have z : ∀ {s k : Nat}, s * 2 ^ k = 0 → s = 0 := fun {s k} h => by
      rcases Nat.mul_eq_zero.1 h with h | h
      · exact h
      · have := Nat.two_pow_pos k; omega
    refine h ⟨?_, ?_⟩
    · exact Classical.byContradiction fun hx => sg0 hx (z h1)
    · exact Classical.byContradiction fun hx => sg0 hx (z h2)
  obtain ⟨r, hr0, hr1, hr2⟩ := near_pos hm (e := e) (by omega)
  have : fadd (fsize a) (fsize b) = dbl.word false r := by
    unfold fadd fop
    show (dbl.add (fsize a) (fsize b)).getD qnan = _
    rw [hadd, hr2]; rfl
  rw [this]
  exact word_gt hr0 hr1
theorem size_zero : fadd 0 0 = 0 := by decide +kernel
/-- Finite: neither an infinity nor a NaN. -/
theorem ffin_fin {x : Nat} (h : ffin x = true) : FV.fin x = true := by
  cases hf : FV.fin x with
  | true => rfl
  | false =>
    exfalso
    have h3 : ¬ x % 2 ^ 63 < 2047 * 2 ^ 52 := by simpa [FV.fin] using hf
    have hr : (∃ s, dbl.read x = .infinity s) ∨ ∃ s t, dbl.read x = .nan s t := by
      unfold Ieee.Format.read
      simp only [sw_eq, inf_eq, bin_eq]
      have h4 : 2047 * 2 ^ 52 ≤ x % 2 ^ 63 := by omega
      rw [if_neg (by omega), if_neg (by omega)]
      split
      · exact .inl ⟨_, rfl⟩
      · exact .inr ⟨_, _, rfl⟩
    have hn : fsub x x = qnan := by
      unfold fsub fop
      show (dbl.sub x x).getD qnan = qnan
      unfold Ieee.Format.sub
      rcases hr with ⟨s, hr⟩ | ⟨s, t, hr⟩ <;> rw [hr] <;> cases s <;> simp [Ieee.Datum.sum, Ieee.Datum.opposite]
    unfold ffin at h
    rw [hn] at h
    revert h
    decide +kernel
/-- Equal to 0: a nought of either sign. -/
theorem zero_size {x : Nat} (h : ford x 0 = some .eq) : fsize x = 0 := by
  have hz : FV.fin 0 = true := by decide
  cases hf : FV.fin x with
  | true =>
    have h1 : dbl.order x 0 = some .eq := h
    rw [order_fin hf hz] at h1
    have hv : val 0 = 0 := by decide
    rw [hv] at h1
    have h2 : val x = 0 := by
      have := Option.some.inj h1
      exact Int.compare_eq_eq.1 this
    have h3 : mag (x % 2 ^ 63) = 0 := by
      unfold val sg at h2
      split at h2 <;> omega
    unfold mag at h3
    split at h3
    · exact h3
    · have : 0 < (2 ^ 52 + x % 2 ^ 63 % 2 ^ 52) * 2 ^ (x % 2 ^ 63 / 2 ^ 52 - 1) := Nat.mul_pos (by have := Nat.two_pow_pos 52; omega) (Nat.two_pow_pos _)
      omega
  | false =>
    exfalso
    have h3 : ¬ x % 2 ^ 63 < 2047 * 2 ^ 52 := by simpa [FV.fin] using hf
    have hr : (∃ s, dbl.read x = .infinity s) ∨ ∃ s t, dbl.read x = .nan s t := by
      unfold Ieee.Format.read
      simp only [sw_eq, inf_eq, bin_eq]
      rw [if_neg (by omega), if_neg (by omega)]
      split
      · exact .inl ⟨_, rfl⟩
      · exact .inr ⟨_, _, rfl⟩
    have h1 : dbl.order x 0 = some .eq := h
    unfold Ieee.Format.order at h1
    rw [read_fin hz] at h1
    rcases hr with ⟨s, hr⟩ | ⟨s, t, hr⟩ <;> rw [hr] at h1 <;> cases s <;> simp [Ieee.Datum.order] at h1
end Go.Proofs.YtdepiggjneoopaaGreatDoor
