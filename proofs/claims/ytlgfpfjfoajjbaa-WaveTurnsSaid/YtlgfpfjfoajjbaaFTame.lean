/- Sums of tame tones: what is heard with each tone turned by half a turn, or twice as great. -/
import Derived.Test.YtlgfpfjfoajjbaaFVal
import Derived.Test.YtlgfpfjfoajjbaaSamples
namespace Go.Proofs.Ytlgfpfjfoajjbaa
open Go.RowKit FV

theorem fin_fnan {x : Nat} (h : fin x = true) : fnan x = false := by
  unfold fnan
  show (dbl.read x).isNaN = false
  rw [read_fin h]; rfl
theorem fin_fc {x : Nat} (h : fin x = true) : fc x = x := fc_of_not (fin_fnan h)
theorem fop_add_fin (K : Nat) (hK : K = 2045) {x y : Nat} (hx : fin x = true) (hy : fin y = true) (hov : rnd (val x + val y).natAbs < 2 ^ (53 + K)) :
    fin (fadd x y) = true ∧ val (fadd x y) = rndI (val x + val y) := by
  obtain ⟨z, h1, h2, h3, _⟩ := add_fin K hK hx hy hov
  have : fadd x y = z := by
    unfold fadd fop
    show (dbl.add x y).getD qnan = z
    rw [h1]; rfl
  rw [this]; exact ⟨h2, h3⟩
theorem fop_mul_fin (K : Nat) (hK : K = 2045) {x y : Nat} (hx : fin x = true) (hy : fin y = true) (hp : sig x * sig y = 0 ∨ -1074 ≤ plc x + plc y)
    (hov : rnd (sig x * sig y * 2 ^ (plc x + plc y + 1074).toNat) < 2 ^ (53 + K)) :
    fin (fmul x y) = true ∧ val (fmul x y) = sg (sgn x ^^ sgn y) (rnd (sig x * sig y * 2 ^ (plc x + plc y + 1074).toNat)) := by
  obtain ⟨z, h1, h2, h3, _⟩ := mul_fin K hK hx hy hp hov
  have : fmul x y = z := by
    unfold fmul fop
    show (dbl.mul x y).getD qnan = z
    rw [h1]; rfl
  rw [this]; exact ⟨h2, h3⟩
theorem ford_eq {x y : Nat} (hx : fin x = true) (hy : fin y = true) (h : val x = val y) : ford x y = some .eq := order_eq hx hy h
/-- From the size to the place. -/
theorem plc_of_mag {x t : Nat} (h : 2 ^ (52 + t) ≤ mag (x % 2 ^ 63)) : (t : Int) - 1074 ≤ plc x := by
  unfold mag at h
  unfold plc
  split
  · rename_i hr
    rw [if_pos hr] at h
    have : (2 : Nat) ^ 52 ≤ 2 ^ (52 + t) := Nat.pow_le_pow_right (by decide) (by omega)
    omega
  · rename_i hr
    rw [if_neg hr] at h
    have h2 : (2 ^ 52 + x % 2 ^ 63 % 2 ^ 52) * 2 ^ (x % 2 ^ 63 / 2 ^ 52 - 1) < 2 ^ 53 * 2 ^ (x % 2 ^ 63 / 2 ^ 52 - 1) := Nat.mul_lt_mul_of_pos_right (by omega) (Nat.two_pow_pos _)
    rw [← Nat.pow_add] at h2
    have := (Nat.pow_lt_pow_iff_right (by decide : 1 < 2)).1 (Nat.lt_of_le_of_lt h h2)
    omega
/-- A size that may be: 0, or from 2^-900 to 2^901 (U is 1074). -/
structure TameX (U x : Nat) : Prop where
  fin : fin x = true
  low : mag (x % 2 ^ 63) = 0 ∨ 2 ^ (52 + 122) ≤ mag (x % 2 ^ 63)
  high : mag (x % 2 ^ 63) ≤ 2 ^ (901 + U)
/-- A cosine: at most 1. -/
structure CosX (U c : Nat) : Prop where
  fin : FV.fin c = true
  low : sig c = 0 ∨ -60 ≤ plc c
  high : mag (c % 2 ^ 63) ≤ 2 ^ U
theorem sig_of_mag {x : Nat} (h : mag (x % 2 ^ 63) = 0) : sig x = 0 := by
  rw [← sig_mag] at h
  rcases Nat.mul_eq_zero.1 h with h | h
  · exact h
  · exact absurd h (Nat.pos_iff_ne_zero.1 (Nat.two_pow_pos _))
theorem sg_xor (a b : Bool) (m n : Nat) : sg (a ^^ b) (m * n) = sg a m * sg b n := by
  cases a <;> cases b <;> simp [sg, Int.mul_neg, Int.neg_mul]
theorem sg_abs (s : Bool) (n : Nat) : (sg s n).natAbs = n := by cases s <;> simp [sg]
/-- A product of two numbers, by its exact value Q. -/
theorem prod_val (U : Nat) (hU : U = 1074) (K : Nat) (hK : K = 2045) {x c : Nat} (hx : fin x = true) (hc : fin c = true) (hp : sig x * sig c = 0 ∨ -1074 ≤ plc x + plc c)
    (E : Nat) (hE : E + 1 < 53 + K) (hm : mag (x % 2 ^ 63) * mag (c % 2 ^ 63) ≤ 2 ^ E * 2 ^ U) :
    ∃ Q : Int, fin (fmul x c) = true ∧ val (fmul x c) = rndI Q ∧ Q.natAbs ≤ 2 ^ E ∧ Q * ((2 ^ U : Nat) : Int) = val x * val c := by
  obtain ⟨P, hP⟩ : ∃ P, sig x * sig c * 2 ^ (plc x + plc c + 1074).toNat = P := ⟨_, rfl⟩
  have hPU : P * 2 ^ U = mag (x % 2 ^ 63) * mag (c % 2 ^ 63) := by
    rcases hp with h | h
    · rw [h, Nat.zero_mul] at hP
      rw [← hP, Nat.zero_mul]
      rcases Nat.mul_eq_zero.1 h with h | h
      · rw [sig_zero h, Nat.zero_mul]
      · rw [sig_zero h, Nat.mul_zero]
    · rw [← hP]; exact sig_prod U hU x c h
  have hPle : P ≤ 2 ^ E := by
    rw [← hPU] at hm
    exact Nat.le_of_mul_le_mul_right hm (Nat.two_pow_pos _)
  have hov : rnd P < 2 ^ (53 + K) := by
    refine Nat.lt_of_le_of_lt (rnd_le P) ?_
    have h2 : 2 * P ≤ 2 ^ (E + 1) := by rw [Nat.pow_succ]; omega
    exact Nat.lt_of_le_of_lt h2 (Nat.pow_lt_pow_right (by decide) hE)
  obtain ⟨h1, h2⟩ := fop_mul_fin K hK hx hc hp (by rw [hP]; exact hov)
  refine ⟨sg (sgn x ^^ sgn c) P, h1, by rw [h2, hP, rndI_sg], by rw [sg_abs]; exact hPle, ?_⟩
  rw [← sg_mul, hPU, sg_xor]; rfl
theorem tame_mul (U : Nat) (hU : U = 1074) (K : Nat) (hK : K = 2045) {x c : Nat} (hx : TameX U x) (hc : CosX U c) :
    ∃ Q : Int, fin (fmul x c) = true ∧ val (fmul x c) = rndI Q ∧ Q.natAbs ≤ 2 ^ (901 + U) ∧ Q * ((2 ^ U : Nat) : Int) = val x * val c := by
  refine prod_val U hU K hK hx.fin hc.fin ?_ (901 + U) (by omega) (Nat.mul_le_mul hx.high hc.high)
  rcases hx.low with h | h
  · left; rw [sig_of_mag h, Nat.zero_mul]
  · rcases hc.low with h2 | h2
    · left; rw [h2, Nat.mul_zero]
    · right; have := plc_of_mag (x := x) (t := 122) h; omega
theorem tame_bound (U : Nat) {v Q : Int} (h : v = rndI Q) (hQ : Q.natAbs ≤ 2 ^ (901 + U)) : v.natAbs ≤ 2 ^ (903 + U) := by
  have h1 := rndI_le Q
  have h2 : 2 ^ (903 + U) = 4 * 2 ^ (901 + U) := by rw [show 903 + U = 901 + U + 2 by omega, Nat.pow_add _ (901 + U)]; omega
  rw [h]; omega
theorem cancel_pow {U : Nat} {a b : Int} (h : a * ((2 ^ U : Nat) : Int) = b * ((2 ^ U : Nat) : Int)) : a = b :=
  Int.eq_of_mul_eq_mul_right (by have := Nat.two_pow_pos U; omega) h

/-- What a factor does that goes well with rounding. -/
structure Fac (c : Int) : Prop where
  rnd : ∀ x, rndI (c * x) = c * rndI x
theorem fac_neg : Fac (-1) := ⟨fun x => by rw [Int.neg_one_mul, Int.neg_one_mul, rndI_neg]⟩
theorem fac_two : Fac 2 := ⟨rndI_double⟩

def smpFrom (l : List Tn) (n : Int) (s : Nat) : Nat := l.foldl (fun s t => fadd s (termb t n)) s
/-- Sums of terms that are c times one another. -/
theorem fold_rel (U : Nat) (hU : U = 1074) (K : Nat) (hK : K = 2045) (c : Int) (hc : Fac c) (n : Int) :
    ∀ (l : List (Tn × Tn)) (s s' j : Nat), (∀ p ∈ l, fin (termb p.1 n) = true ∧ fin (termb p.2 n) = true ∧ val (termb p.2 n) = c * val (termb p.1 n) ∧ (val (termb p.1 n)).natAbs ≤ 2 ^ (903 + U) ∧ (val (termb p.2 n)).natAbs ≤ 2 ^ (903 + U)) →
      fin s = true → fin s' = true → val s' = c * val s → (val s).natAbs + 2 * 2 ^ (903 + U) ≤ 2 ^ (j + 2) * 2 ^ (903 + U) → (val s').natAbs + 2 * 2 ^ (903 + U) ≤ 2 ^ (j + 2) * 2 ^ (903 + U) → j + l.length ≤ 70 →
      fin (smpFrom (l.map (·.1)) n s) = true ∧ fin (smpFrom (l.map (·.2)) n s') = true ∧ val (smpFrom (l.map (·.2)) n s') = c * val (smpFrom (l.map (·.1)) n s) ∧
        (val (smpFrom (l.map (·.1)) n s)).natAbs ≤ 2 ^ (72 + (903 + U)) ∧ (val (smpFrom (l.map (·.2)) n s')).natAbs ≤ 2 ^ (72 + (903 + U))
  | [], s, s', j, _, h1, h2, h3, h4, h5, h6 => by
    have hb : 2 ^ (j + 2) * 2 ^ (903 + U) ≤ 2 ^ (72 + (903 + U)) := by
      rw [← Nat.pow_add]; simp only [List.length_nil] at h6; exact Nat.pow_le_pow_right (by decide) (by omega)
    exact ⟨h1, h2, h3, by show (val s).natAbs ≤ _; omega, by show (val s').natAbs ≤ _; omega⟩
  | p :: l, s, s', j, h, h1, h2, h3, h4, h5, h6 => by
    obtain ⟨t1, t2, t3, t4, t5⟩ := h p List.mem_cons_self
    simp only [List.length_cons] at h6
    obtain ⟨B, hB⟩ : ∃ B, 2 ^ (903 + U) = B := ⟨_, rfl⟩
    have hpow : 2 ^ (j + 1 + 2) * B = 2 * (2 ^ (j + 2) * B) := by rw [show j + 1 + 2 = j + 2 + 1 by omega, Nat.pow_succ, Nat.mul_comm (2 ^ (j + 2)) 2, Nat.mul_assoc]
    have key : ∀ a b : Int, a.natAbs + 2 * B ≤ 2 ^ (j + 2) * B → b.natAbs ≤ B → rnd (a + b).natAbs < 2 ^ (53 + K) ∧ (rndI (a + b)).natAbs + 2 * B ≤ 2 ^ (j + 1 + 2) * B := by
      intro a b ha hb
      have e1 : (a + b).natAbs ≤ a.natAbs + b.natAbs := Int.natAbs_add_le a b
      have e2 := rnd_le (a + b).natAbs
      have e3 := rndI_le (a + b)
      refine ⟨?_, by omega⟩
      have e4 : rnd (a + b).natAbs ≤ 2 ^ (j + 1 + 2) * B := by omega
      refine Nat.lt_of_le_of_lt e4 ?_
      rw [← hB, ← Nat.pow_add]
      exact Nat.pow_lt_pow_right (by decide) (by omega)
    rw [hB] at h4 h5 t4 t5
    obtain ⟨k1, k2⟩ := key _ _ h4 t4
    obtain ⟨k3, k4⟩ := key _ _ h5 t5
    obtain ⟨a1, a2⟩ := fop_add_fin K hK h1 t1 k1
    obtain ⟨b1, b2⟩ := fop_add_fin K hK h2 t2 k3
    have hrel : val (fadd s' (termb p.2 n)) = c * val (fadd s (termb p.1 n)) := by
      rw [a2, b2, h3, t3, ← Int.mul_add, hc.rnd]
    rw [← a2, ← hB] at k2
    rw [← b2, ← hB] at k4
    exact fold_rel U hU K hK c hc n l _ _ (j + 1) (fun q hq => h q (List.mem_cons_of_mem _ hq)) a1 b1 hrel k2 k4 (by omega)

theorem cos_facts : ∀ k : Fin 24, fin (cosb (k.val : Int)) = true ∧ (sig (cosb (k.val : Int)) = 0 ∨ -60 ≤ plc (cosb (k.val : Int))) ∧ mag (cosb (k.val : Int) % 2 ^ 63) ≤ 2 ^ 1074 ∧
    val (cosb (((k.val : Int) + 12) % 24)) = -val (cosb (k.val : Int)) := by decide +kernel
theorem cos_x (U : Nat) (hU : U = 1074) (k : Int) : CosX U (root k).1 ∧ val (root (k + 12)).1 = -val (root k).1 := by
  have h := emod24 k
  obtain ⟨m, hm⟩ := Int.eq_ofNat_of_zero_le h.1
  have := cos_facts ⟨m, by omega⟩
  obtain ⟨h1, h2, h3, h4⟩ := this
  subst hU
  unfold root
  rw [hm]
  refine ⟨⟨h1, h2, h3⟩, ?_⟩
  rw [show (k + 12) % 24 = ((m : Int) + 12) % 24 by omega]; exact h4
theorem angl_12 (p h n : Int) : root (angl (p + 12) h n) = root (angl p h n + 12) := root_congr (by unfold angl; omega)
/-- A tame tone's term: exact, then rounded. -/
theorem tame_term (U : Nat) (hU : U = 1074) (K : Nat) (hK : K = 2045) {t : Tn} (h : TameX U t.1) (n : Int) :
    ∃ Q : Int, fin (termb t n) = true ∧ val (termb t n) = rndI Q ∧ Q.natAbs ≤ 2 ^ (901 + U) ∧ Q * ((2 ^ U : Nat) : Int) = val t.1 * val (root (angl t.2.1 t.2.2 n)).1 := by
  have := tame_mul U hU K hK h (cos_x U hU (angl t.2.1 t.2.2 n)).1
  unfold termb
  rw [fin_fc h.fin]; exact this

/-- A tone half a turn further. -/
def half (t : Tn) : Tn := (t.1, t.2.1 + 12, t.2.2)
def two64 : Nat := 4611686018427387904
/-- A tone twice as great. -/
def twice (t : Tn) : Tn := (fmul two64 t.1, t.2.1, t.2.2)
theorem two_facts : fin two64 = true ∧ sig two64 ≠ 0 ∧ plc two64 = -51 ∧ mag (two64 % 2 ^ 63) = 2 * 2 ^ 1074 ∧ val two64 = 2 * ((2 ^ 1074 : Nat) : Int) := by decide +kernel
theorem mag_val (x : Nat) : mag (x % 2 ^ 63) = (val x).natAbs := by unfold val; rw [sg_abs]
theorem tame_twice (U : Nat) (hU : U = 1074) (K : Nat) (hK : K = 2045) {x : Nat} (h : TameX U x) (hh : mag (x % 2 ^ 63) ≤ 2 ^ (900 + U)) :
    TameX U (fmul two64 x) ∧ val (fmul two64 x) = 2 * val x := by
  obtain ⟨f1, f2, f3, f4, f5⟩ := two_facts
  rw [← hU] at f4 f5
  have hp : sig two64 * sig x = 0 ∨ -1074 ≤ plc two64 + plc x := by
    rcases h.low with h | h
    · left; rw [sig_of_mag h, Nat.mul_zero]
    · right; have := plc_of_mag (x := x) (t := 122) h; omega
  have h901 : 2 ^ (901 + U) = 2 * 2 ^ (900 + U) := by rw [show 901 + U = 900 + U + 1 by omega, Nat.pow_succ]; omega
  obtain ⟨Q, q1, q2, q3, q4⟩ := prod_val U hU K hK f1 h.fin hp (901 + U) (by omega) (by
    rw [f4, h901, Nat.mul_comm (2 * 2 ^ U), ← Nat.mul_assoc]
    exact Nat.mul_le_mul_right _ (by omega))
  have hQ : Q = 2 * val x := by
    apply cancel_pow (U := U)
    rw [q4, f5, Int.mul_assoc, Int.mul_assoc, Int.mul_comm (val x)]
  have hv : val (fmul two64 x) = 2 * val x := by rw [q2, hQ, rndI_double, rndI_val]
  have hm : mag (fmul two64 x % 2 ^ 63) = 2 * mag (x % 2 ^ 63) := by rw [mag_val, mag_val, hv, Int.natAbs_mul]; rfl
  refine ⟨⟨q1, ?_, by rw [hm, h901]; omega⟩, hv⟩
  rcases h.low with h | h
  · left; rw [hm, h]
  · right; rw [hm]; omega

/-- What may be said of tones: of all sizes. -/
def TameL (U : Nat) (l : List Tn) : Prop := ∀ t ∈ l, TameX U t.1 ∧ mag (t.1 % 2 ^ 63) ≤ 2 ^ (900 + U)
theorem pairs_fst {α β : Type} (f : α → β) (l : List α) : (l.map fun t => (t, f t)).map (·.1) = l := by rw [List.map_map]; exact List.map_id' l
theorem pairs_snd {α β : Type} (f : α → β) (l : List α) : (l.map fun t => (t, f t)).map (·.2) = l.map f := by rw [List.map_map]; rfl
theorem val_zero : val 0 = 0 := by decide
theorem fin_zero : fin 0 = true := by decide
theorem fold_all (U : Nat) (hU : U = 1074) (K : Nat) (hK : K = 2045) (c : Int) (hc : Fac c) (f : Tn → Tn) (n : Int) (l : List Tn) (hl : l.length ≤ 66)
    (h : ∀ t ∈ l, fin (termb t n) = true ∧ fin (termb (f t) n) = true ∧ val (termb (f t) n) = c * val (termb t n) ∧ (val (termb t n)).natAbs ≤ 2 ^ (903 + U) ∧ (val (termb (f t) n)).natAbs ≤ 2 ^ (903 + U)) :
    fin (smp l n) = true ∧ fin (smp (l.map f) n) = true ∧ val (smp (l.map f) n) = c * val (smp l n) ∧ (val (smp l n)).natAbs ≤ 2 ^ (975 + U) ∧ (val (smp (l.map f) n)).natAbs ≤ 2 ^ (975 + U) := by
  have hB := Nat.two_pow_pos (903 + U)
  have := fold_rel U hU K hK c hc n (l.map fun t => (t, f t)) 0 0 0 (fun p hp => by
    obtain ⟨t, ht, rfl⟩ := List.mem_map.1 hp
    exact h t ht) fin_zero fin_zero (by rw [val_zero, Int.mul_zero]) (by rw [val_zero]; simp; omega) (by rw [val_zero]; simp; omega) (by simp; omega)
  rw [pairs_fst, pairs_snd, show 72 + (903 + U) = 975 + U by omega] at this
  exact this
theorem smp_half (U : Nat) (hU : U = 1074) (K : Nat) (hK : K = 2045) (n : Int) (l : List Tn) (hl : l.length ≤ 66) (h : TameL U l) :
    fin (smp l n) = true ∧ fin (smp (l.map half) n) = true ∧ val (smp (l.map half) n) = -1 * val (smp l n) ∧ (val (smp l n)).natAbs ≤ 2 ^ (975 + U) ∧ (val (smp (l.map half) n)).natAbs ≤ 2 ^ (975 + U) := by
  refine fold_all U hU K hK (-1) fac_neg half n l hl fun t ht => ?_
  obtain ⟨Q, q1, q2, q3, q4⟩ := tame_term U hU K hK (h t ht).1 n
  obtain ⟨R, r1, r2, r3, r4⟩ := tame_term U hU K hK (t := half t) (h t ht).1 n
  have hR : R = -1 * Q := by
    apply cancel_pow (U := U)
    rw [r4, Int.mul_assoc, q4]
    show val t.1 * val (root (angl (t.2.1 + 12) t.2.2 n)).1 = _
    rw [angl_12, (cos_x U hU _).2, Int.neg_one_mul, Int.mul_neg]
  exact ⟨q1, r1, by rw [r2, q2, hR, fac_neg.rnd], tame_bound U q2 q3, tame_bound U r2 r3⟩
theorem smp_twice (U : Nat) (hU : U = 1074) (K : Nat) (hK : K = 2045) (n : Int) (l : List Tn) (hl : l.length ≤ 66) (h : TameL U l) :
    fin (smp l n) = true ∧ fin (smp (l.map twice) n) = true ∧ val (smp (l.map twice) n) = 2 * val (smp l n) ∧ (val (smp l n)).natAbs ≤ 2 ^ (975 + U) ∧ (val (smp (l.map twice) n)).natAbs ≤ 2 ^ (975 + U) := by
  refine fold_all U hU K hK 2 fac_two twice n l hl fun t ht => ?_
  obtain ⟨Q, q1, q2, q3, q4⟩ := tame_term U hU K hK (h t ht).1 n
  obtain ⟨t1, t2⟩ := tame_twice U hU K hK (h t ht).1 (h t ht).2
  obtain ⟨R, r1, r2, r3, r4⟩ := tame_term U hU K hK (t := twice t) t1 n
  have hR : R = 2 * Q := by
    apply cancel_pow (U := U)
    rw [r4, Int.mul_assoc, q4, show val (twice t).1 = 2 * val t.1 from t2, Int.mul_assoc]; rfl
  exact ⟨q1, r1, by rw [r2, q2, hR, fac_two.rnd], tame_bound U q2 q3, tame_bound U r2 r3⟩
end Go.Proofs.Ytlgfpfjfoajjbaa
