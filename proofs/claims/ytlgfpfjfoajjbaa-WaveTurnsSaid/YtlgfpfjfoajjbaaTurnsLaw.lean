/- What follows for tones: a turn is a turn; half a turn, twice as much, a tone that is not heard, a row's sum with itself. -/
import Derived.Test.YtlgfpfjfoajjbaaMidd
import Derived.Test.YtlgfpfjfoajjbaaRowsW
import Derived.Test.YtlgfpfjfoajjbaaWaveSum
namespace Go.Proofs.Ytlgfpfjfoajjbaa
open Go.RowKit FV

def tcan (t : Tn) : Tn := (fc t.1, t.2.1, t.2.2)
theorem termb_congr {t : Tn} {n m : Int} (h : angl t.2.1 t.2.2 n = angl t.2.1 t.2.2 m) : termb t n = termb t m := by unfold termb; rw [h]
theorem fold_congr (n m : Int) : ∀ (l : List Tn) (s : Nat), (∀ t ∈ l, termb t n = termb t m) → l.foldl (fun s t => fadd s (termb t n)) s = l.foldl (fun s t => fadd s (termb t m)) s
  | [], _, _ => rfl
  | t :: l, s, h => by
    simp only [List.foldl_cons]
    rw [h t List.mem_cons_self]
    exact fold_congr n m l _ fun q hq => h q (List.mem_cons_of_mem _ hq)
theorem smp_24 (l : List Tn) (n : Int) : smp l (n + 24) = smp l n :=
  fold_congr _ _ l 0 fun t _ => termb_congr (by unfold angl; rw [show (n + 24) % 24 = n % 24 by omega])
theorem smp_per {l : List Tn} {p : Int} (h : IsPer l p) (n : Int) : smp l (n + p) = smp l n := by
  refine fold_congr _ _ l 0 fun t ht => termb_congr ?_
  have h1 := List.all_eq_true.1 h.yes t ht
  simp only [beq_iff_eq] at h1
  have h2 : (t.2.2 * p) % 24 = 0 := by rw [Int.mul_emod]; exact h1
  have h3 : t.2.2 % 24 * ((n + p) % 24) % 24 = t.2.2 % 24 * (n % 24) % 24 := by
    rw [← Int.mul_emod, ← Int.mul_emod, Int.mul_add]; omega
  unfold angl
  omega
theorem smp_tcan (l : List Tn) (n : Int) : smp (l.map tcan) n = smp l n := by
  unfold smp
  rw [List.foldl_map]
  have : (fun (s : Nat) (t : Tn) => fadd s (termb (tcan t) n)) = fun s t => fadd s (termb t n) := by
    funext s t
    unfold termb tcan
    simp only [fc_fc]
  rw [this]

theorem sgn_low {x : Nat} (h : x < 2 ^ 63) : sgn x = false := by unfold sgn; rw [Nat.div_eq_of_lt h]; rfl
theorem fsize_fin (x : Nat) : fin (fsize x) = fin x ∧ val (fsize x) = (mag (x % 2 ^ 63) : Int) := by
  have h1 : fsize x = x % 2 ^ 63 := rfl
  have h2 : x % 2 ^ 63 < 2 ^ 63 := Nat.mod_lt _ (by decide)
  unfold fin val
  rw [h1, Nat.mod_mod, sgn_low h2]
  exact ⟨rfl, rfl⟩
/-- What is no number stands to no number as less or equal. -/
theorem nofin_order {x y : Nat} (hx : fin x = false) (hy : fin y = true) : ford (fsize x) y = none ∨ ford (fsize x) y = some .gt := by
  have h1 : fsize x = x % 2 ^ 63 := rfl
  have h2 : x % 2 ^ 63 < 2 ^ 63 := Nat.mod_lt _ (by decide)
  have h3 : ¬ x % 2 ^ 63 < 2047 * 2 ^ 52 := by simpa [fin] using hx
  unfold ford
  show (dbl.read (fsize x)).order (dbl.read y) = none ∨ (dbl.read (fsize x)).order (dbl.read y) = some .gt
  rw [read_fin hy, h1]
  have hr : dbl.read (x % 2 ^ 63) = .infinity false ∨ ∃ t, dbl.read (x % 2 ^ 63) = .nan false t := by
    unfold Ieee.Format.read
    simp only [sw_eq, inf_eq, bin_eq, Nat.mod_mod, Nat.div_eq_of_lt h2]
    rw [if_neg (by omega), if_neg h3]
    split
    · exact .inl rfl
    · exact .inr ⟨_, rfl⟩
  rcases hr with hr | ⟨t, hr⟩
  · rw [hr]; exact .inr rfl
  · rw [hr]; exact .inl rfl
theorem lo_facts : fin lo900 = true ∧ val lo900 = ((2 ^ (52 + 122) : Nat) : Int) := by decide +kernel
theorem hi_facts : fin hi900 = true ∧ val hi900 = ((2 ^ (900 + 1074) : Nat) : Int) := by decide +kernel
theorem cmp_lt {a b : Int} (h : compare a b = .lt) : a < b := by
  simp only [compare, compareOfLessAndEq] at h
  split at h
  · assumption
  · split at h <;> cases h
theorem cmp_eq {a b : Int} (h : compare a b = .eq) : a = b := by
  simp only [compare, compareOfLessAndEq] at h
  split at h
  · cases h
  · split at h
    · assumption
    · cases h
theorem cmp_gt {a b : Int} (h : compare a b = .gt) : b < a := by
  simp only [compare, compareOfLessAndEq] at h
  split at h
  · cases h
  · split at h
    · cases h
    · omega
/-- What 'middling' says of a size. -/
theorem tame_of_mid (U : Nat) (hU : U = 1074) {x : Nat} (h : midB x = true) : TameX U x ∧ mag (x % 2 ^ 63) ≤ 2 ^ (900 + U) := by
  obtain ⟨l1, l2⟩ := lo_facts
  obtain ⟨h1, h2⟩ := hi_facts
  rw [← hU] at h2
  have h901 : 2 ^ (900 + U) ≤ 2 ^ (901 + U) := Nat.pow_le_pow_right (by decide) (by omega)
  cases hf : fin x
  · exfalso
    unfold midB at h
    rcases nofin_order hf fin_zero with e | e <;> rcases nofin_order hf h1 with e2 | e2 <;> rw [e, e2] at h <;> simp at h
  · obtain ⟨f1, f2⟩ := fsize_fin x
    rw [hf] at f1
    have o0 : ford (fsize x) 0 = _ := order_fin f1 fin_zero
    have o1 : ford (fsize x) lo900 = _ := order_fin f1 l1
    have o2 : ford (fsize x) hi900 = _ := order_fin f1 h1
    unfold midB at h
    rw [o0, o1, o2, f2, val_zero, l2, h2] at h
    simp only [Bool.or_eq_true, Bool.and_eq_true, beq_iff_eq, Option.some.injEq] at h
    rcases h with h | ⟨ha, hb⟩
    · have := cmp_eq h
      have h0 : mag (x % 2 ^ 63) = 0 := by omega
      exact ⟨⟨hf, .inl h0, by rw [h0]; exact Nat.zero_le _⟩, by rw [h0]; exact Nat.zero_le _⟩
    · have hlo : 2 ^ (52 + 122) ≤ mag (x % 2 ^ 63) := by
        rcases ha with ha | ha
        · have := cmp_gt ha; omega
        · have := cmp_eq ha; omega
      have hhi : mag (x % 2 ^ 63) ≤ 2 ^ (900 + U) := by
        rcases hb with hb | hb
        · have := cmp_lt hb; omega
        · have := cmp_eq hb; omega
      exact ⟨⟨hf, .inr hlo, by omega⟩, hhi⟩

/-- A number and nothing. -/
theorem add_zero_fin (K : Nat) (hK : K = 2045) {x z : Nat} (hx : fin x = true) (hz : fin z = true) (hv : val z = 0) (hb : (val x).natAbs < 2 ^ (53 + K)) :
    fin (fadd x z) = true ∧ val (fadd x z) = val x ∧ fin (fadd z x) = true ∧ val (fadd z x) = val x := by
  have e : rnd (val x).natAbs = (val x).natAbs := by rw [← rndI_abs, rndI_val]
  obtain ⟨a1, a2⟩ := fop_add_fin K hK hx hz (by rw [hv, Int.add_zero, e]; exact hb)
  obtain ⟨b1, b2⟩ := fop_add_fin K hK hz hx (by rw [hv, Int.zero_add, e]; exact hb)
  exact ⟨a1, by rw [a2, hv, Int.add_zero, rndI_val], b1, by rw [b2, hv, Int.zero_add, rndI_val]⟩
theorem fin_range (U : Nat) (hU : U = 1074) (K : Nat) (hK : K = 2045) {n : Nat} (h : n ≤ 2 ^ (976 + U)) : n < 2 ^ (53 + K) :=
  Nat.lt_of_le_of_lt h (Nat.pow_lt_pow_right (by decide) (by omega))
theorem p976 (U : Nat) : 2 ^ (976 + U) = 2 * 2 ^ (975 + U) := by rw [show 976 + U = 975 + U + 1 by omega, Nat.pow_succ]; omega
/-- A number with itself. -/
theorem add_self_fin (U : Nat) (hU : U = 1074) (K : Nat) (hK : K = 2045) {x y : Nat} (hx : fin x = true) (hy : fin y = true) (he : val y = val x) (hb : (val x).natAbs ≤ 2 ^ (975 + U)) :
    fin (fadd y x) = true ∧ val (fadd y x) = 2 * val x := by
  have e2 : val y + val x = 2 * val x := by rw [he]; omega
  have e : rndI (2 * val x) = 2 * val x := by rw [rndI_double, rndI_val]
  have e3 : rnd (2 * val x).natAbs = (2 * val x).natAbs := by rw [← rndI_abs, e]
  obtain ⟨a1, a2⟩ := fop_add_fin K hK hy hx (by rw [e2, e3]; exact fin_range U hU K hK (by rw [p976]; omega))
  exact ⟨a1, by rw [a2, e2, e]⟩
/-- Twice a number, by the product with 2. -/
theorem mul_two_fin (U : Nat) (hU : U = 1074) (K : Nat) (hK : K = 2045) {x : Nat} (hx : fin x = true) (hb : (val x).natAbs ≤ 2 ^ (975 + U)) :
    floatBits .mul .f64 two64 x = some (fmul two64 x) ∧ fin (fmul two64 x) = true ∧ val (fmul two64 x) = 2 * val x := by
  have t1 : fin two64 = true := by decide
  have t2 : sgn two64 = false := by decide
  have t3 : sig two64 = 2 ^ 52 := by decide
  have t4 : plc two64 = -51 := by decide
  have hm : mag (x % 2 ^ 63) = (val x).natAbs := mag_val x
  have hr : rnd (2 * mag (x % 2 ^ 63)) = 2 * mag (x % 2 ^ 63) := by rw [rnd_double, rnd_mag]
  have key : ∃ z, dbl.mul two64 x = some z ∧ fin z = true ∧ val z = 2 * val x := by
    unfold Ieee.Format.mul
    rw [read_fin t1, read_fin hx, t2, t3, t4]
    simp only [Ieee.Datum.product, Option.map_some, Ieee.Format.write, Bool.false_xor]
    have e : dbl.nearest (sgn x) (2 ^ 52 * sig x) (-51 + plc x) = dbl.nearest (sgn x) (2 * sig x) (plc x) := by
      have := near_shift (sgn x) (2 * sig x) 51 (plc x)
      rw [← this]
      congr 1
      · rw [show (2 : Nat) ^ 52 = 2 * 2 ^ 51 by decide, Nat.mul_assoc, Nat.mul_assoc, Nat.mul_comm (2 ^ 51)]
      · omega
    rw [e]
    refine ⟨_, rfl, ?_⟩
    by_cases h0 : sig x = 0
    · have hv : val x = 0 := by have := sig_zero h0; rw [hm] at this; omega
      rw [h0, hv]
      obtain ⟨w1, w2⟩ := val_word (sgn x) 0 (by decide)
      have : dbl.nearest (sgn x) (2 * 0) (plc x) = dbl.word (sgn x) 0 := by simp [Ieee.Format.nearest]
      rw [this]
      exact ⟨w1, by rw [w2]; cases sgn x <;> rfl⟩
    · have hs : 2 * sig x * 2 ^ (plc x + 1074).toNat = 2 * mag (x % 2 ^ 63) := by rw [Nat.mul_assoc, sig_mag]
      obtain ⟨r, r1, r2, r3⟩ := nearest_eq K hK (sgn x) (2 * sig x) (plc x) (plc_ge x) (by omega) (by rw [hs, hr]; exact fin_range U hU K hK (by rw [p976, hm]; omega))
      obtain ⟨w1, w2⟩ := val_word (sgn x) r r1
      rw [r2]
      refine ⟨w1, ?_⟩
      rw [w2, r3, hs, hr]
      unfold val sg
      split <;> omega
  obtain ⟨z, z1, z2, z3⟩ := key
  have hz : fmul two64 x = z := by
    unfold fmul fop
    show (dbl.mul two64 x).getD qnan = z
    rw [z1]; rfl
  rw [hz]
  exact ⟨z1, z2, z3⟩
/-- A tone of a Phase of 6 that does not turn. -/
def five : Tn := (4617315517961601024, 6, 0)
theorem five_zero (n : Int) : termb five n = 0 := by
  have : angl 6 0 n = 6 := by unfold angl; rw [show (0 : Int) % 24 = 0 from rfl, Int.zero_mul]; rfl
  unfold termb five
  simp only [this]
  decide +kernel
theorem smp_five (l : List Tn) (n : Int) : smp (l ++ [five]) n = fadd (smp l n) 0 := by
  unfold smp
  rw [List.foldl_append, List.foldl_cons, List.foldl_nil, five_zero]
theorem negf_eq (x : Nat) : Op.negFloat .f64 x = x ^^^ 2 ^ 63 := rfl
theorem rowSpec_in (l : List Tn) (m : Nat) (h : (m : Int) ≤ 65536) : rowSpec l m = (smps l m, 0) := by
  unfold rowSpec
  rw [if_neg (by omega), Int.toNat_natCast]
theorem smps_take (l : List Tn) {q m : Nat} (h : q ≤ m) : (smps l m).take q = smps l q := by
  unfold smps
  rw [← List.map_take, List.take_range, Nat.min_eq_left h]
theorem sum_two (xa : List Nat) (h : xa.length ≤ 65536) : sumSpec (lsOf 2 fun _ => xa) = ((List.range xa.length).map (colsum [xa, xa]), 0) := by
  rw [sum_all (by decide) (fun _ _ => rfl), if_neg (by omega)]; rfl
theorem row_elem {l : List Tn} {xa : List Nat} {j b : Nat} (h : xa.map fc = smps l xa.length) (hb : xa[j]? = some b) (hj : j < xa.length) : fc b = smp l j := by
  have := congrArg (fun x : List Nat => x[j]?) h
  simp only [List.getElem?_map, hb, Option.map_some] at this
  unfold smps at this
  simpa [hj] using this
theorem sum_elem {xa xz : List Nat} {j b1 b2 : Nat} (h : xz.map fc = (List.range xa.length).map (colsum [xa, xa])) (hb : xz[j]? = some b1) (hb2 : xa[j]? = some b2) (hj : j < xa.length) : fc b1 = fadd (fadd 0 (fc b2)) (fc b2) := by
  have := congrArg (fun x : List Nat => x[j]?) h
  simp only [List.getElem?_map, hb, Option.map_some] at this
  have e : xa.getD j 0 = b2 := by simp [List.getD, hb2]
  simp only [List.getElem?_range hj, Option.map_some, Option.some.injEq, colsum, List.foldl_cons, List.foldl_nil, e] at this
  exact this
theorem add_two_fin (U : Nat) (hU : U = 1074) (K : Nat) (hK : K = 2045) {x : Nat} (hx : fin x = true) (hb : (val x).natAbs ≤ 2 ^ (975 + U)) :
    fin (fadd (fadd 0 x) x) = true ∧ val (fadd (fadd 0 x) x) = 2 * val x := by
  obtain ⟨_, _, h3, h4⟩ := add_zero_fin K hK hx fin_zero val_zero (fin_range U hU K hK (by rw [p976]; omega))
  exact add_self_fin U hU K hK hx h3 h4 hb
end Go.Proofs.Ytlgfpfjfoajjbaa
