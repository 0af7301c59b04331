/- a part of the proof of the last text -/
import Ieee.Arith
namespace Go.Proofs.YtdepiggjneoopaaGreatDoor.FV
set_option linter.all false
set_option maxHeartbeats 4000000
set_option maxRecDepth 100000
theorem log2_pow (m k : Nat) (h : m ≠ 0) : (m * 2 ^ k).log2 = m.log2 + k := by
  have hp : 0 < 2 ^ k := Nat.two_pow_pos k
  have h2 : m * 2 ^ k ≠ 0 := Nat.mul_ne_zero h (by omega)
  apply Nat.le_antisymm
  · apply Nat.le_of_lt_succ
    rw [Nat.log2_lt h2, Nat.succ_eq_add_one, show m.log2 + k + 1 = (m.log2 + 1) + k by omega, Nat.pow_add 2 (m.log2 + 1) k]
    exact Nat.mul_lt_mul_of_pos_right Nat.lt_log2_self hp
  · rw [Nat.le_log2 h2, Nat.pow_add]
    exact Nat.mul_le_mul_right _ (Nat.log2_self_le h)
/-- A whole number of units, rounded to so many digits less, then to even. -/
def cutE (n k : Nat) : Nat := n / 2 ^ k + (decide (2 ^ k < 2 * (n % 2 ^ k)) || (2 ^ k == 2 * (n % 2 ^ k) && n / 2 ^ k % 2 == 1)).toNat
theorem cut_even (neg : Bool) (n d : Nat) (h : d ≤ n.log2 + 2) : Ieee.Toward.even.cut neg n d = cutE n d := by
  unfold Ieee.Toward.cut cutE
  rw [Nat.min_eq_left h, Nat.one_shiftLeft]
/-- The places beyond 53 digits. -/
def over (n : Nat) : Nat := n.log2 - 52
/-- A size in units of the least one, rounded. -/
def rnd (n : Nat) : Nat := cutE n (over n) * 2 ^ over n
theorem cutE_pow (m k e : Nat) : cutE (m * 2 ^ e) (k + e) = cutE m k := by
  have hp : 0 < 2 ^ e := Nat.two_pow_pos e
  unfold cutE
  rw [Nat.pow_add, Nat.mul_div_mul_right _ _ hp, Nat.mul_mod_mul_right]
  congr 2
  · congr 1
    · rw [decide_eq_decide]
      constructor
      · intro h; rw [← Nat.mul_assoc] at h; exact Nat.lt_of_mul_lt_mul_right h
      · intro h; rw [← Nat.mul_assoc]; exact Nat.mul_lt_mul_of_pos_right h hp
    · congr 1
      rw [Bool.eq_iff_iff]
      simp only [beq_iff_eq, ← Nat.mul_assoc]
      exact ⟨fun h => Nat.eq_of_mul_eq_mul_right hp h, fun h => congrArg (· * 2 ^ e) h⟩
theorem cutE_zero (n : Nat) : cutE n 0 = n := by
  unfold cutE
  simp [Nat.mod_one]
theorem cutE_exact (n k : Nat) : cutE (n * 2 ^ k) k = n := by
  have := cutE_pow n 0 k
  rw [Nat.zero_add, cutE_zero] at this; exact this
theorem cutE_le (n k : Nat) : cutE n k ≤ n / 2 ^ k + 1 := by
  unfold cutE
  have : ∀ b : Bool, b.toNat ≤ 1 := by intro b; cases b <;> simp
  have := this (decide (2 ^ k < 2 * (n % 2 ^ k)) || (2 ^ k == 2 * (n % 2 ^ k) && n / 2 ^ k % 2 == 1))
  omega
theorem cutE_ge (n k : Nat) : n / 2 ^ k ≤ cutE n k := by unfold cutE; omega
theorem rnd_zero : rnd 0 = 0 := by decide
theorem rnd_double (n : Nat) : rnd (2 * n) = 2 * rnd n := by
  by_cases h0 : n = 0
  · subst h0; rfl
  · have hl : (2 * n).log2 = n.log2 + 1 := by rw [Nat.mul_comm]; exact log2_pow n 1 h0
    unfold rnd over
    rw [hl]
    by_cases h : 52 ≤ n.log2
    · rw [show n.log2 + 1 - 52 = (n.log2 - 52) + 1 by omega, show 2 * n = n * 2 ^ 1 by omega, cutE_pow, Nat.pow_succ]
      rw [Nat.mul_comm (2 ^ (n.log2 - 52)) 2, Nat.mul_left_comm]
    · rw [show n.log2 + 1 - 52 = 0 by omega, show n.log2 - 52 = 0 by omega, cutE_zero, cutE_zero]; simp
theorem rnd_le (n : Nat) : rnd n ≤ 2 * n := by
  unfold rnd over
  by_cases h : 52 < n.log2
  · have hn : n ≠ 0 := by intro e; rw [e] at h; simp at h
    have h1 := cutE_le n (n.log2 - 52)
    have h2 : 2 ^ (n.log2 - 52) ≤ n := Nat.le_trans (Nat.pow_le_pow_right (by decide) (by omega)) (Nat.log2_self_le hn)
    have h3 := Nat.div_mul_le_self n (2 ^ (n.log2 - 52))
    have h4 : cutE n (n.log2 - 52) * 2 ^ (n.log2 - 52) ≤ (n / 2 ^ (n.log2 - 52) + 1) * 2 ^ (n.log2 - 52) := Nat.mul_le_mul_right _ h1
    rw [Nat.add_mul, Nat.one_mul] at h4
    omega
  · rw [show n.log2 - 52 = 0 by omega, cutE_zero]; simp; omega
/-- The size that stands at a rung, in units of the least one. -/
def mag (r : Nat) : Nat := if r < 2 ^ 52 then r else (2 ^ 52 + r % 2 ^ 52) * 2 ^ (r / 2 ^ 52 - 1)
theorem mag_rung (k c : Nat) (h : c ≤ 2 ^ 53) (hk : 2 ^ 52 ≤ c ∨ k = 0) : mag (k * 2 ^ 52 + c) = c * 2 ^ k := by
  unfold mag
  by_cases h1 : c < 2 ^ 52
  · obtain rfl : k = 0 := by rcases hk with hk | hk <;> omega
    rw [if_pos (by omega)]; simp
  · rw [if_neg (by have := Nat.zero_le (k * 2 ^ 52); omega)]
    by_cases h2 : c = 2 ^ 53
    · subst h2
      rw [show k * 2 ^ 52 + 2 ^ 53 = (k + 2) * 2 ^ 52 by omega, Nat.mul_mod_left, Nat.mul_div_cancel _ (by decide), show k + 2 - 1 = k + 1 by omega, Nat.add_zero, Nat.pow_add 2 k 1]
      omega
    · obtain ⟨d, rfl⟩ : ∃ d, c = 2 ^ 52 + d := ⟨c - 2 ^ 52, by omega⟩
      rw [show k * 2 ^ 52 + (2 ^ 52 + d) = d + (k + 1) * 2 ^ 52 by omega, Nat.add_mul_mod_self_right, Nat.mod_eq_of_lt (by omega), Nat.add_mul_div_right _ _ (by decide), Nat.div_eq_of_lt (by omega)]
      simp
theorem cutE_53 (n : Nat) : cutE n (over n) ≤ 2 ^ 53 := by
  have h1 := cutE_le n (over n)
  have h2 : n / 2 ^ over n < 2 ^ 53 := by
    rw [Nat.div_lt_iff_lt_mul (Nat.two_pow_pos _), ← Nat.pow_add]
    refine Nat.lt_of_lt_of_le Nat.lt_log2_self (Nat.pow_le_pow_right (by decide) ?_)
    unfold over; omega
  omega
theorem cutE_52 (n : Nat) : 2 ^ 52 ≤ cutE n (over n) ∨ over n = 0 := by
  by_cases h : over n = 0
  · exact .inr h
  · refine .inl (Nat.le_trans ?_ (cutE_ge _ _))
    have hn : n ≠ 0 := by intro e; rw [e] at h; exact h rfl
    rw [Nat.le_div_iff_mul_le (Nat.two_pow_pos _), ← Nat.pow_add]
    refine Nat.le_trans (Nat.pow_le_pow_right (by decide) ?_) (Nat.log2_self_le hn)
    unfold over at *; omega
abbrev dbl : Ieee.Format := Ieee.double
theorem lp_eq : dbl.leastPlace = -1074 := by decide
theorem bin_eq : dbl.binade = 2 ^ 52 := rfl
/-- Rounding, told by the exact size. -/
theorem nearest_eq (K : Nat) (hK : K = 2045) (s : Bool) (m : Nat) (e : Int) (he : -1074 ≤ e) (hm : m ≠ 0) (hov : rnd (m * 2 ^ (e + 1074).toNat) < 2 ^ (53 + K)) :
    ∃ r, r < dbl.infRung ∧ dbl.nearest s m e = dbl.word s r ∧ mag r = rnd (m * 2 ^ (e + 1074).toNat) := by
  obtain ⟨E, hE⟩ : ∃ E : Nat, e + 1074 = E := ⟨(e + 1074).toNat, by omega⟩
  have hee : e = (E : Int) - 1074 := by omega
  subst hee
  rw [show ((E : Int) - 1074 + 1074).toNat = E by omega] at *
  have hlog := log2_pow m E hm
  obtain ⟨k, hk⟩ : ∃ k, over (m * 2 ^ E) = k := ⟨_, rfl⟩
  have hkl : k = m.log2 + E - 52 := by rw [← hk]; unfold over; rw [hlog]
  have hlast : max ((E : Int) - 1074 + m.log2 - (dbl.fractionBits : Int)) dbl.leastPlace = (k : Int) - 1074 := by
    rw [lp_eq, show (dbl.fractionBits : Int) = 52 from rfl]; omega
  have hcut : Ieee.Toward.even.cut s (m <<< ((E : Int) - 1074 - ((k : Int) - 1074)).toNat) (((k : Int) - 1074) - ((E : Int) - 1074)).toNat = cutE (m * 2 ^ E) k := by
    by_cases h : k ≤ E
    · rw [show ((k : Int) - 1074 - ((E : Int) - 1074)).toNat = 0 by omega, show ((E : Int) - 1074 - ((k : Int) - 1074)).toNat = E - k by omega, cut_even _ _ _ (Nat.zero_le _), cutE_zero, Nat.shiftLeft_eq]
      have : m * 2 ^ E = (m * 2 ^ (E - k)) * 2 ^ k := by rw [Nat.mul_assoc, ← Nat.pow_add, Nat.sub_add_cancel h]
      rw [this, cutE_exact]
    · rw [show ((k : Int) - 1074 - ((E : Int) - 1074)).toNat = k - E by omega, show ((E : Int) - 1074 - ((k : Int) - 1074)).toNat = 0 by omega, Nat.shiftLeft_zero, cut_even _ _ _ (by omega)]
      have := cutE_pow m (k - E) E
      rw [Nat.sub_add_cancel (by omega)] at this; rw [this]
  have h53 := cutE_53 (m * 2 ^ E)
  have h52 := cutE_52 (m * 2 ^ E)
  rw [hk] at h53 h52
  have hr : rnd (m * 2 ^ E) = cutE (m * 2 ^ E) k * 2 ^ k := by unfold rnd; rw [hk]
  have hinf : dbl.infRung = 2047 * 2 ^ 52 := by decide
  have hlt : k * 2 ^ 52 + cutE (m * 2 ^ E) k < 2047 * 2 ^ 52 := by
    rw [hr] at hov
    rcases h52 with h | h
    · have hk2 : k < 2046 := by
        have h1 : 2 ^ 52 * 2 ^ k < 2 ^ (53 + K) := Nat.lt_of_le_of_lt (Nat.mul_le_mul_right _ h) hov
        rw [← Nat.pow_add] at h1
        have := (Nat.pow_lt_pow_iff_right (by decide : 1 < 2)).1 h1
        omega
      by_cases h3 : k = K
      · subst h3
        have : cutE (m * 2 ^ E) k < 2 ^ 53 := by
          rw [Nat.pow_add 2 53 k] at hov
          exact Nat.lt_of_mul_lt_mul_right hov
        omega
      · omega
    · rw [h] at h53 ⊢; omega
  refine ⟨k * 2 ^ 52 + cutE (m * 2 ^ E) k, by rw [hinf]; exact hlt, ?_, by rw [mag_rung _ _ h53 h52, hr]⟩
  unfold Ieee.Format.nearest
  rw [if_neg hm]
  simp only [hlast, hcut]
  rw [show ((k : Int) - 1074 - dbl.leastPlace).toNat = k by rw [lp_eq]; omega, bin_eq, Nat.min_eq_left (by rw [hinf]; omega)]
/-- Is it a number: neither an infinity nor a NaN? -/
def fin (x : Nat) : Bool := decide (x % 2 ^ 63 < 2047 * 2 ^ 52)
def sgn (x : Nat) : Bool := x / 2 ^ 63 % 2 == 1
def sg (s : Bool) (n : Nat) : Int := if s then -(n : Int) else n
/-- A number's value, in units of the least one. -/
def val (x : Nat) : Int := sg (sgn x) (mag (x % 2 ^ 63))
/-- The place of a number's last digit. -/
def plc (x : Nat) : Int := if x % 2 ^ 63 < 2 ^ 52 then -1074 else ((x % 2 ^ 63 / 2 ^ 52 - 1 : Nat) : Int) - 1074
def sig (x : Nat) : Nat := if x % 2 ^ 63 < 2 ^ 52 then x % 2 ^ 63 else 2 ^ 52 + x % 2 ^ 63 % 2 ^ 52
theorem sw_eq : dbl.signWeight = 2 ^ 63 := rfl
theorem inf_eq : dbl.infRung = 2047 * 2 ^ 52 := by decide
theorem read_fin {x : Nat} (h : fin x = true) : dbl.read x = .number (sgn x) (sig x) (plc x) := by
  have h' : x % 2 ^ 63 < 2047 * 2 ^ 52 := by simpa [fin] using h
  unfold Ieee.Format.read sgn sig plc
  simp only [sw_eq, inf_eq, bin_eq, lp_eq]
  split
  · rfl
  · congr 1
theorem plc_ge (x : Nat) : -1074 ≤ plc x := by unfold plc; split <;> omega
theorem sig_mag (x : Nat) : sig x * 2 ^ (plc x + 1074).toNat = mag (x % 2 ^ 63) := by
  unfold sig plc mag
  split
  · simp
  · rw [show ((x % 2 ^ 63 / 2 ^ 52 - 1 : Nat) : Int) - 1074 + 1074 = ((x % 2 ^ 63 / 2 ^ 52 - 1 : Nat) : Int) by omega, Int.toNat_natCast]
theorem sig_zero {x : Nat} (h : sig x = 0) : mag (x % 2 ^ 63) = 0 := by rw [← sig_mag, h, Nat.zero_mul]
theorem word_mod (s : Bool) (r : Nat) (h : r < dbl.infRung) : (dbl.word s r) % 2 ^ 63 = r ∧ sgn (dbl.word s r) = s := by
  rw [inf_eq] at h
  unfold Ieee.Format.word sgn
  rw [sw_eq]
  cases s <;> simp <;> omega
theorem val_word (s : Bool) (r : Nat) (h : r < dbl.infRung) : fin (dbl.word s r) = true ∧ val (dbl.word s r) = sg s (mag r) := by
  obtain ⟨h1, h2⟩ := word_mod s r h
  unfold fin val
  rw [h1, h2]
  rw [inf_eq] at h
  exact ⟨by simpa using h, rfl⟩
/-- Rounding of a value. -/
def rndI (n : Int) : Int := if n < 0 then -(rnd n.natAbs : Int) else rnd n.natAbs
theorem rndI_sg (s : Bool) (n : Nat) : sg s (rnd n) = rndI (sg s n) := by
  cases s
  · simp [sg, rndI]; intro h; omega
  · by_cases h : n = 0
    · subst h; rfl
    · unfold sg rndI
      rw [if_pos rfl, if_pos (show (if true = true then -(n : Int) else n) < 0 by simp; omega)]
      simp
theorem rndI_neg (n : Int) : rndI (-n) = -rndI n := by
  unfold rndI
  rw [Int.natAbs_neg]
  by_cases h : n = 0
  · subst h; rfl
  · by_cases h2 : n < 0
    · rw [if_neg (by omega), if_pos h2]; omega
    · rw [if_pos (by omega), if_neg h2]
theorem rndI_double (n : Int) : rndI (2 * n) = 2 * rndI n := by
  unfold rndI
  rw [Int.natAbs_mul, show (2 : Int).natAbs = 2 from rfl, rnd_double]
  by_cases h2 : n < 0
  · rw [if_pos (by omega), if_pos h2]; omega
  · rw [if_neg (by omega), if_neg h2]; omega
theorem rndI_abs (n : Int) : (rndI n).natAbs = rnd n.natAbs := by
  unfold rndI
  split <;> omega
theorem rndI_le (n : Int) : (rndI n).natAbs ≤ 2 * n.natAbs := by rw [rndI_abs]; exact rnd_le _
/-- What a rounding leaves stays as it is. -/
theorem rnd_mag (r : Nat) : rnd (mag r) = mag r := by
  unfold mag
  split
  · rename_i h
    unfold rnd over
    by_cases h0 : r = 0
    · subst h0; rfl
    · have := (Nat.log2_lt h0).2 h
      rw [show r.log2 - 52 = 0 by omega, cutE_zero]; simp
  · rename_i h
    have hn : 2 ^ 52 + r % 2 ^ 52 ≠ 0 := by omega
    have hlog : (2 ^ 52 + r % 2 ^ 52).log2 = 52 := by
      apply Nat.le_antisymm
      · apply Nat.le_of_lt_succ
        rw [Nat.log2_lt hn]; omega
      · rw [Nat.le_log2 hn]; omega
    unfold rnd over
    rw [log2_pow _ _ hn, hlog, Nat.add_sub_cancel_left, cutE_exact]
theorem rndI_val (x : Nat) : rndI (val x) = val x := by
  unfold val
  rw [← rndI_sg, rnd_mag]
/-- The sum of two numbers, where it is not too great. -/
theorem signed_eq (s : Bool) (m u : Nat) : Ieee.signed s m u = sg s (m * 2 ^ u) := by
  unfold Ieee.signed sg
  rw [Nat.shiftLeft_eq]
theorem sg_mul (s : Bool) (m c : Nat) : sg s (m * c) = sg s m * c := by
  unfold sg
  cases s <;> simp [Int.neg_mul]
theorem add_fin (K : Nat) (hK : K = 2045) {x y : Nat} (hx : fin x = true) (hy : fin y = true) (hov : rnd (val x + val y).natAbs < 2 ^ (53 + K)) :
    ∃ z, dbl.add x y = some z ∧ fin z = true ∧ val z = rndI (val x + val y) ∧ z < 2 ^ 64 := by
  have px := plc_ge x
  have py := plc_ge y
  obtain ⟨b, hb⟩ : ∃ b, min (plc x) (plc y) = b := ⟨_, rfl⟩
  have hbx : b ≤ plc x := by omega
  have hby : b ≤ plc y := by omega
  have hbl : -1074 ≤ b := by omega
  have ex : sg (sgn x) (sig x * 2 ^ (plc x - b).toNat) * ((2 ^ (b + 1074).toNat : Nat) : Int) = val x := by
    rw [← sg_mul, Nat.mul_assoc, ← Nat.pow_add, show (plc x - b).toNat + (b + 1074).toNat = (plc x + 1074).toNat by omega, sig_mag]; rfl
  have ey : sg (sgn y) (sig y * 2 ^ (plc y - b).toNat) * ((2 ^ (b + 1074).toNat : Nat) : Int) = val y := by
    rw [← sg_mul, Nat.mul_assoc, ← Nat.pow_add, show (plc y - b).toNat + (b + 1074).toNat = (plc y + 1074).toNat by omega, sig_mag]; rfl
  obtain ⟨t, ht⟩ : ∃ t, sg (sgn x) (sig x * 2 ^ (plc x - b).toNat) + sg (sgn y) (sig y * 2 ^ (plc y - b).toNat) = t := ⟨_, rfl⟩
  have hv : t * ((2 ^ (b + 1074).toNat : Nat) : Int) = val x + val y := by rw [← ht, Int.add_mul, ex, ey]
  unfold Ieee.Format.add
  rw [read_fin hx, read_fin hy]
  simp only [Ieee.Datum.sum, hb, signed_eq, ht, Option.map_some, Ieee.Format.write]
  by_cases h0 : t = 0
  · subst h0
    rw [Int.zero_mul] at hv
    refine ⟨_, rfl, ?_⟩
    rw [← hv]
    obtain ⟨h1, h2⟩ := val_word (sgn x && sgn y) 0 (by decide)
    have : dbl.nearest (if (0 : Int) = 0 then sgn x && sgn y else decide ((0 : Int) < 0)) (Int.natAbs 0) b = dbl.word (sgn x && sgn y) 0 := by
      simp [Ieee.Format.nearest]
    rw [this]
    refine ⟨h1, by rw [h2]; cases (sgn x && sgn y) <;> rfl, by cases (sgn x && sgn y) <;> decide⟩
  · have hm : t.natAbs ≠ 0 := by omega
    have habs : t.natAbs * 2 ^ (b + 1074).toNat = (val x + val y).natAbs := by
      rw [← hv, Int.natAbs_mul, Int.natAbs_natCast]
    obtain ⟨r, hr1, hr2, hr3⟩ := nearest_eq K hK (decide (t < 0)) t.natAbs b hbl hm (by rw [habs]; exact hov)
    obtain ⟨h1, h2⟩ := val_word (decide (t < 0)) r hr1
    refine ⟨_, rfl, ?_⟩
    rw [if_neg h0, hr2]
    refine ⟨h1, ?_, ?_⟩
    · rw [h2, hr3, habs]
      have hp : (0 : Int) < ((2 ^ (b + 1074).toNat : Nat) : Int) := by have := Nat.two_pow_pos (b + 1074).toNat; omega
      unfold rndI sg
      by_cases ht0 : t < 0
      · have : val x + val y < 0 := by rw [← hv]; exact Int.mul_neg_of_neg_of_pos ht0 hp
        simp [ht0, this]
      · have : ¬ val x + val y < 0 := by rw [← hv]; have := Int.mul_nonneg (show 0 ≤ t by omega) (Int.le_of_lt hp); omega
        simp [ht0, this]
    · rw [inf_eq] at hr1
      unfold Ieee.Format.word
      rw [sw_eq]
      split <;> omega
theorem sig_prod (U : Nat) (hU : U = 1074) (x y : Nat) (h : -1074 ≤ plc x + plc y) : sig x * sig y * 2 ^ (plc x + plc y + 1074).toNat * 2 ^ U = mag (x % 2 ^ 63) * mag (y % 2 ^ 63) := by
  have px := plc_ge x
  have py := plc_ge y
  rw [← sig_mag, ← sig_mag, Nat.mul_assoc, ← Nat.pow_add, Nat.mul_mul_mul_comm, ← Nat.pow_add]
  congr 2
  omega
/-- The product of two numbers, where it is neither too great nor too small. -/
theorem mul_fin (K : Nat) (hK : K = 2045) {x y : Nat} (hx : fin x = true) (hy : fin y = true) (hp : sig x * sig y = 0 ∨ -1074 ≤ plc x + plc y)
    (hov : rnd (sig x * sig y * 2 ^ (plc x + plc y + 1074).toNat) < 2 ^ (53 + K)) :
    ∃ z, dbl.mul x y = some z ∧ fin z = true ∧ val z = sg (sgn x ^^ sgn y) (rnd (sig x * sig y * 2 ^ (plc x + plc y + 1074).toNat)) ∧ z < 2 ^ 64 := by
  have wlt : ∀ s r, r < dbl.infRung → dbl.word s r < 2 ^ 64 := by
    intro s r hr
    rw [inf_eq] at hr
    unfold Ieee.Format.word
    rw [sw_eq]
    split <;> omega
  unfold Ieee.Format.mul
  rw [read_fin hx, read_fin hy]
  simp only [Ieee.Datum.product, Option.map_some, Ieee.Format.write]
  by_cases h0 : sig x * sig y = 0
  · refine ⟨_, rfl, ?_⟩
    obtain ⟨h1, h2⟩ := val_word (sgn x ^^ sgn y) 0 (by decide)
    have : dbl.nearest (sgn x ^^ sgn y) (sig x * sig y) (plc x + plc y) = dbl.word (sgn x ^^ sgn y) 0 := by
      unfold Ieee.Format.nearest; rw [if_pos h0]
    rw [this, h0, Nat.zero_mul]
    exact ⟨h1, h2, wlt _ _ (by decide)⟩
  · have hp' : -1074 ≤ plc x + plc y := by rcases hp with h | h; exact absurd h h0; exact h
    obtain ⟨r, hr1, hr2, hr3⟩ := nearest_eq K hK (sgn x ^^ sgn y) (sig x * sig y) (plc x + plc y) hp' h0 hov
    obtain ⟨h1, h2⟩ := val_word (sgn x ^^ sgn y) r hr1
    refine ⟨_, rfl, ?_⟩
    rw [hr2]
    exact ⟨h1, by rw [h2, hr3], wlt _ _ hr1⟩
theorem compare_mul (a b : Int) (c : Nat) (h : 0 < c) : compare (a * c) (b * c) = compare a b := by
  have hc : (0 : Int) < c := by omega
  rcases Int.lt_trichotomy a b with hl | he | hl
  · have := Int.mul_lt_mul_of_pos_right hl hc
    simp [compare, compareOfLessAndEq, hl, this]
  · subst he; simp [compare, compareOfLessAndEq]
  · have := Int.mul_lt_mul_of_pos_right hl hc
    have h1 : ¬ a < b := by omega
    have h2 : ¬ a = b := by omega
    have h3 : ¬ a * c < b * c := by omega
    have h4 : ¬ a * c = b * c := by omega
    simp [compare, compareOfLessAndEq, h1, h2, h3, h4]
/-- Two numbers stand to each other as their values. -/
theorem order_fin {x y : Nat} (hx : fin x = true) (hy : fin y = true) : dbl.order x y = some (compare (val x) (val y)) := by
  have px := plc_ge x
  have py := plc_ge y
  obtain ⟨b, hb⟩ : ∃ b, min (plc x) (plc y) = b := ⟨_, rfl⟩
  have hbx : b ≤ plc x := by omega
  have hby : b ≤ plc y := by omega
  have hbl : -1074 ≤ b := by omega
  have ex : sg (sgn x) (sig x * 2 ^ (plc x - b).toNat) * ((2 ^ (b + 1074).toNat : Nat) : Int) = val x := by
    rw [← sg_mul, Nat.mul_assoc, ← Nat.pow_add, show (plc x - b).toNat + (b + 1074).toNat = (plc x + 1074).toNat by omega, sig_mag]; rfl
  have ey : sg (sgn y) (sig y * 2 ^ (plc y - b).toNat) * ((2 ^ (b + 1074).toNat : Nat) : Int) = val y := by
    rw [← sg_mul, Nat.mul_assoc, ← Nat.pow_add, show (plc y - b).toNat + (b + 1074).toNat = (plc y + 1074).toNat by omega, sig_mag]; rfl
  unfold Ieee.Format.order
  rw [read_fin hx, read_fin hy]
  simp only [Ieee.Datum.order, hb, signed_eq]
  rw [← ex, ← ey, compare_mul _ _ _ (Nat.two_pow_pos _)]
theorem order_eq {x y : Nat} (hx : fin x = true) (hy : fin y = true) (h : val x = val y) : dbl.order x y = some .eq := by
  rw [order_fin hx hy, h]; simp [compare, compareOfLessAndEq]
theorem xor_mod (x : Nat) : (x ^^^ 2 ^ 63) % 2 ^ 63 = x % 2 ^ 63 := by
  rw [Nat.xor_mod_two_pow, Nat.mod_self, Nat.xor_zero]
theorem xor_sgn (x : Nat) : sgn (x ^^^ 2 ^ 63) = !sgn x := by
  unfold sgn
  rw [Nat.xor_div_two_pow, Nat.div_self (by decide)]
  have h : ∀ a : Nat, (a % 2 == 1) = a.testBit 0 := by
    intro a; rw [Bool.eq_iff_iff, beq_iff_eq]; exact Nat.mod_two_eq_one_iff_testBit_zero
  rw [h, h, Nat.testBit_xor]
  cases (x / 2 ^ 63).testBit 0 <;> rfl
/-- A number's opposite. -/
theorem neg_fin (x : Nat) : fin (x ^^^ 2 ^ 63) = fin x ∧ val (x ^^^ 2 ^ 63) = -val x ∧ sig (x ^^^ 2 ^ 63) = sig x ∧ plc (x ^^^ 2 ^ 63) = plc x := by
  unfold fin val sig plc
  rw [xor_mod, xor_sgn]
  refine ⟨rfl, ?_, rfl, rfl⟩
  cases sgn x <;> simp [sg]
/-- Digits moved between the size and the place. -/
theorem near_shift (s : Bool) (m d : Nat) (e : Int) : dbl.nearest s (m * 2 ^ d) (e - d) = dbl.nearest s m e := by
  by_cases hm : m = 0
  · subst hm; simp [Ieee.Format.nearest]
  · have hp := Nat.two_pow_pos d
    have hm2 : m * 2 ^ d ≠ 0 := Nat.mul_ne_zero hm (by omega)
    have hlog := log2_pow m d hm
    unfold Ieee.Format.nearest
    rw [if_neg hm, if_neg hm2, hlog]
    obtain ⟨l, hl⟩ : ∃ l, max (e + (m.log2 : Int) - (dbl.fractionBits : Int)) dbl.leastPlace = l := ⟨_, rfl⟩
    have hl2 : max (e - (d : Int) + ((m.log2 + d : Nat) : Int) - (dbl.fractionBits : Int)) dbl.leastPlace = l := by rw [← hl]; congr 1; omega
    rw [hl, hl2]
    have key : Ieee.Toward.even.cut s ((m * 2 ^ d) <<< (e - (d : Int) - l).toNat) (l - (e - (d : Int))).toNat = Ieee.Toward.even.cut s (m <<< (e - l).toNat) (l - e).toNat := by
      rw [Nat.shiftLeft_eq, Nat.shiftLeft_eq]
      by_cases h1 : l ≤ e
      · rw [show (l - e).toNat = 0 by omega, cut_even _ _ 0 (Nat.zero_le _), cutE_zero]
        by_cases h2 : (d : Int) ≤ e - l
        · rw [show (l - (e - (d : Int))).toNat = 0 by omega, cut_even _ _ 0 (Nat.zero_le _), cutE_zero, Nat.mul_assoc, ← Nat.pow_add]
          congr 2; omega
        · rw [show (e - (d : Int) - l).toNat = 0 by omega, Nat.pow_zero, Nat.mul_one, cut_even _ _ _ (by rw [hlog]; omega)]
          have e1 : m * 2 ^ d = (m * 2 ^ (e - l).toNat) * 2 ^ (l - (e - (d : Int))).toNat := by rw [Nat.mul_assoc, ← Nat.pow_add]; congr 2; omega
          rw [e1, cutE_exact]
      · rw [show (e - l).toNat = 0 by omega, show (e - (d : Int) - l).toNat = 0 by omega, Nat.pow_zero, Nat.mul_one, Nat.mul_one]
        have hle : (l - e).toNat ≤ m.log2 + 2 ∨ ¬ (l - e).toNat ≤ m.log2 + 2 := by omega
        rcases hle with hle | hle
        · rw [cut_even _ _ _ (by rw [hlog]; omega), cut_even _ _ _ hle, show (l - (e - (d : Int))).toNat = (l - e).toNat + d by omega, cutE_pow]
        · unfold Ieee.Toward.cut
          rw [Nat.min_eq_right (by omega), hlog, Nat.min_eq_right (by omega), Nat.one_shiftLeft, Nat.one_shiftLeft, show m.log2 + d + 2 = m.log2 + 2 + d by omega]
          have := cutE_pow m (m.log2 + 2) d
          unfold cutE at this
          exact this
    simp only [key]
end Go.Proofs.YtdepiggjneoopaaGreatDoor.FV
