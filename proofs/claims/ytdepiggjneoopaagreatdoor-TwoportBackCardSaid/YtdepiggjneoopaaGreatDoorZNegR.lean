/- a part of the proof of the last text -/
import Derived.Test.YtdepiggjneoopaaGreatDoorZSz
namespace Go.Proofs.YtdepiggjneoopaaGreatDoor
set_option linter.all false
set_option maxHeartbeats 4000000
set_option maxRecDepth 100000
open FV
/-- Opposites, but for a zero's sign. -/
def DR : Ieee.Datum → Ieee.Datum → Prop
  | .nan _ _, .nan _ _ => True
  | .infinity s, .infinity t => t = !s
  | .number s m i, .number t n j => m = n ∧ i = j ∧ (t = (!s) ∨ m = 0)
  | _, _ => False
def ODR : Option Ieee.Datum → Option Ieee.Datum → Prop
  | none, none => True
  | some d, some e => DR d e ∧ d.isNaN = false
  | _, _ => False
theorem near_both (m : Nat) (e : Int) : ∃ r, r ≤ dbl.infRung ∧ (∀ t, dbl.nearest t m e = dbl.word t r) ∧ (m = 0 → r = 0) := by
  unfold Ieee.Format.nearest
  by_cases h : m = 0
  · exact ⟨0, Nat.zero_le _, fun t => by rw [if_pos h], fun _ => rfl⟩
  · exact ⟨min ((max (e + (m.log2 : Int) - (dbl.fractionBits : Int)) dbl.leastPlace - dbl.leastPlace).toNat * dbl.binade + Ieee.Toward.even.cut false (m <<< (e - max (e + (m.log2 : Int) - (dbl.fractionBits : Int)) dbl.leastPlace).toNat) (max (e + (m.log2 : Int) - (dbl.fractionBits : Int)) dbl.leastPlace - e).toNat) dbl.infRung,
      Nat.min_le_right _ _, fun t => by rw [if_neg h]; rfl, fun h2 => absurd h2 h⟩
theorem word_parts (t : Bool) (r : Nat) (h : r ≤ dbl.infRung) : dbl.word t r % 2 ^ 63 = r ∧ (dbl.word t r / 2 ^ 63 % 2 == 1) = t := by
  rw [inf_eq] at h
  unfold Ieee.Format.word
  rw [sw_eq]
  cases t <;> simp <;> omega
theorem read_word (t : Bool) (r : Nat) (h : r ≤ dbl.infRung) : dbl.read (dbl.word t r) = if r < 2 ^ 52 then .number t r dbl.leastPlace else if r < dbl.infRung then .number t (2 ^ 52 + r % 2 ^ 52) (dbl.leastPlace + (r / 2 ^ 52 - 1 : Nat)) else .infinity t := by
  obtain ⟨h1, h2⟩ := word_parts t r h
  unfold Ieee.Format.read
  simp only [sw_eq, bin_eq, h1, h2]
  by_cases h3 : r < 2 ^ 52
  · rw [if_pos h3, if_pos h3]
  · rw [if_neg h3, if_neg h3]
    by_cases h4 : r < dbl.infRung
    · rw [if_pos h4, if_pos h4]
    · rw [if_neg h4, if_neg h4, if_pos (by omega)]
theorem dr_word {s t : Bool} {r : Nat} (h : r ≤ dbl.infRung) (hs : t = (!s) ∨ r = 0) : DR (dbl.read (dbl.word s r)) (dbl.read (dbl.word t r)) := by
  rw [read_word s r h, read_word t r h]
  by_cases h3 : r < 2 ^ 52
  · rw [if_pos h3, if_pos h3]; exact ⟨rfl, rfl, hs⟩
  · have hs2 : t = (!s) := hs.resolve_right (fun e => h3 (by rw [e]; decide))
    rw [if_neg h3, if_neg h3]
    by_cases h4 : r < dbl.infRung
    · rw [if_pos h4, if_pos h4]; exact ⟨rfl, rfl, .inl hs2⟩
    · rw [if_neg h4, if_neg h4]; exact hs2
theorem dr_write {d e : Ieee.Datum} (h : DR d e) (hn : d.isNaN = false) : DR (dbl.read (dbl.write d)) (dbl.read (dbl.write e)) := by
  cases d with
  | nan => cases hn
  | infinity s =>
    cases e with
    | infinity t => exact dr_word (Nat.le_refl _) (.inl h)
    | nan => exact h.elim
    | number => exact h.elim
  | number s m i =>
    cases e with
    | infinity t => exact h.elim
    | nan => exact h.elim
    | number t n j =>
      obtain ⟨rfl, rfl, h3⟩ := h
      obtain ⟨r, h1, h2, h4⟩ := near_both m i
      show DR (dbl.read (dbl.nearest s m i)) (dbl.read (dbl.nearest t m i))
      rw [h2 s, h2 t]
      exact dr_word h1 (h3.elim .inl (fun e => .inr (h4 e)))
/-- Two floats, so. -/
def NR (x y : Nat) : Prop := DR (dbl.read x) (dbl.read y)
theorem nr_nan : NR qnan qnan := by
  obtain ⟨s, t, h⟩ := read_nan fnan_qnan
  unfold NR
  rw [show dbl.read qnan = .nan s t from h]
  trivial
theorem nr_opt {a b : Option Ieee.Datum} (h : ODR a b) : NR ((a.map dbl.write).getD qnan) ((b.map dbl.write).getD qnan) := by
  cases a with
  | none => cases b with
    | none => exact nr_nan
    | some e => exact h.elim
  | some d => cases b with
    | none => exact h.elim
    | some e => exact dr_write h.1 h.2
theorem opp_opp (d : Ieee.Datum) : d.opposite.opposite = d := by cases d <;> simp [Ieee.Datum.opposite]
theorem dr_opp (d : Ieee.Datum) : DR d d.opposite := by
  cases d with
  | nan => trivial
  | infinity s => rfl
  | number s m i => exact ⟨rfl, rfl, .inl rfl⟩
theorem dr_opp' (d : Ieee.Datum) : DR d.opposite d := by
  have := dr_opp d.opposite
  rwa [opp_opp] at this
theorem dr_both {d e : Ieee.Datum} (h : DR d e) : DR d.opposite e.opposite := by
  cases d <;> cases e <;> try exact h.elim
  · rename_i s m i t n j
    obtain ⟨rfl, rfl, h3⟩ := h
    exact ⟨rfl, rfl, h3.elim (fun h => .inl (by rw [h])) .inr⟩
  · rename_i s t
    show (!t) = !!s
    rw [show t = !s from h]
  · trivial
theorem signed_opp (s : Bool) (m k : Nat) : Ieee.signed (!s) m k = -Ieee.signed s m k := by
  unfold Ieee.signed
  cases s <;> simp
theorem signed_dr {s t : Bool} {m : Nat} (k : Nat) (h : t = (!s) ∨ m = 0) : Ieee.signed t m k = -Ieee.signed s m k := by
  rcases h with rfl | rfl
  · exact signed_opp s m k
  · unfold Ieee.signed; cases s <;> cases t <;> simp
theorem odr_sum {d e f g : Ieee.Datum} (h : DR d e) (h2 : DR f g) : ODR (d.sum f) (e.sum g) := by
  cases d with
  | nan =>
    cases e with
    | nan => cases f <;> cases g <;> first | trivial | exact h2.elim
    | infinity => exact h.elim
    | number => exact h.elim
  | infinity s =>
    cases e with
    | nan => exact h.elim
    | number => exact h.elim
    | infinity t =>
      obtain rfl : t = !s := h
      cases f with
      | nan => cases g <;> first | trivial | exact h2.elim
      | number => cases g <;> first | exact ⟨rfl, rfl⟩ | exact h2.elim
      | infinity u =>
        cases g with
        | nan => exact h2.elim
        | number => exact h2.elim
        | infinity v =>
          obtain rfl : v = !u := h2
          show ODR (if s = u then some (Ieee.Datum.infinity s) else none) (if (!s) = (!u) then some (Ieee.Datum.infinity (!s)) else none)
          by_cases hc : s = u
          · subst hc
            rw [if_pos rfl, if_pos rfl]; exact ⟨rfl, rfl⟩
          · rw [if_neg hc, if_neg (by cases s <;> cases u <;> simp at hc ⊢)]; trivial
  | number s m i =>
    cases e with
    | nan => exact h.elim
    | infinity => exact h.elim
    | number t n j =>
      obtain ⟨rfl, rfl, h3⟩ := h
      cases f with
      | nan => cases g <;> first | trivial | exact h2.elim
      | infinity u =>
        cases g with
        | nan => exact h2.elim
        | number => exact h2.elim
        | infinity v => exact ⟨h2, rfl⟩
      | number u p a =>
        cases g with
        | nan => exact h2.elim
        | infinity => exact h2.elim
        | number v q b =>
          obtain ⟨rfl, rfl, h4⟩ := h2
          unfold Ieee.Datum.sum
          simp only [signed_dr (i - min i a).toNat h3, signed_dr (a - min i a).toNat h4]
          generalize Ieee.signed s m (i - min i a).toNat = P
          generalize Ieee.signed u p (a - min i a).toNat = Q
          refine ⟨⟨by omega, rfl, ?_⟩, rfl⟩
          by_cases h0 : P + Q = 0
          · exact .inr (by omega)
          · refine .inl ?_
            rw [if_neg h0, if_neg (by omega)]
            by_cases hl : P + Q < 0
            · rw [decide_eq_true hl, decide_eq_false (by omega)]; rfl
            · rw [decide_eq_false hl, decide_eq_true (by omega)]; rfl
theorem sum_comm (d e : Ieee.Datum) : d.sum e = e.sum d := by
  cases d <;> cases e <;> unfold Ieee.Datum.sum <;> try rfl
  · rename_i s m i t n j
    simp only [Int.min_comm j i, Int.add_comm (Ieee.signed t n _), Bool.and_comm t s]
  · rename_i s t
    show (if s = t then some (Ieee.Datum.infinity s) else none) = (if t = s then some (Ieee.Datum.infinity t) else none)
    by_cases h : s = t
    · subst h; rfl
    · rw [if_neg h, if_neg (fun e => h e.symm)]
theorem odr_prod (c : Ieee.Datum) {d e : Ieee.Datum} (h : DR d e) : ODR (c.product d) (c.product e) := by
  cases c with
  | nan => cases d <;> cases e <;> first | trivial | exact h.elim
  | infinity s =>
    cases d with
    | nan => cases e <;> first | trivial | exact h.elim
    | infinity t =>
      cases e with
      | nan => exact h.elim
      | number => exact h.elim
      | infinity u => obtain rfl : u = !t := h; exact ⟨by show (s ^^ !t) = !(s ^^ t); cases s <;> cases t <;> rfl, rfl⟩
    | number t m i =>
      cases e with
      | nan => exact h.elim
      | infinity => exact h.elim
      | number u n j =>
        obtain ⟨rfl, rfl, h3⟩ := h
        show ODR (if m = 0 then none else some (Ieee.Datum.infinity (s ^^ t))) (if m = 0 then none else some (Ieee.Datum.infinity (s ^^ u)))
        by_cases h0 : m = 0
        · rw [if_pos h0, if_pos h0]; trivial
        · rw [if_neg h0, if_neg h0]
          obtain rfl := h3.resolve_right h0
          exact ⟨by show (s ^^ !t) = !(s ^^ t); cases s <;> cases t <;> rfl, rfl⟩
  | number s k l =>
    cases d with
    | nan => cases e <;> first | trivial | exact h.elim
    | infinity t =>
      cases e with
      | nan => exact h.elim
      | number => exact h.elim
      | infinity u =>
        obtain rfl : u = !t := h
        show ODR (if k = 0 then none else some (Ieee.Datum.infinity (t ^^ s))) (if k = 0 then none else some (Ieee.Datum.infinity ((!t) ^^ s)))
        by_cases h0 : k = 0
        · rw [if_pos h0, if_pos h0]; trivial
        · rw [if_neg h0, if_neg h0]
          exact ⟨by show ((!t) ^^ s) = !(t ^^ s); cases s <;> cases t <;> rfl, rfl⟩
    | number t m i =>
      cases e with
      | nan => exact h.elim
      | infinity => exact h.elim
      | number u n j =>
        obtain ⟨rfl, rfl, h3⟩ := h
        refine ⟨⟨rfl, rfl, ?_⟩, rfl⟩
        rcases h3 with rfl | rfl
        · exact .inl (by cases s <;> cases t <;> rfl)
        · exact .inr (Nat.mul_zero _)
theorem nr_add {x y u v : Nat} (h : NR x y) (h2 : NR u v) : NR (fadd x u) (fadd y v) := nr_opt (odr_sum h h2)
theorem nr_sub {x y u v : Nat} (h : NR x y) (h2 : NR u v) : NR (fsub x u) (fsub y v) := nr_opt (odr_sum h (dr_both h2))
theorem nr_mul (c : Nat) {x y : Nat} (h : NR x y) : NR (fmul c x) (fmul c y) := nr_opt (odr_prod _ h)
theorem nr_swap (x y : Nat) : NR (fsub x y) (fsub y x) := by
  have h : ODR ((dbl.read x).sum (dbl.read y).opposite) ((dbl.read y).sum (dbl.read x).opposite) := by
    rw [sum_comm (dbl.read y)]
    exact odr_sum (dr_opp _) (dr_opp' _)
  exact nr_opt h
/-- Complex numbers, so. -/
def CR (z u : Cx) : Prop := NR z.1 u.1 ∧ NR z.2 u.2
theorem cr_swap (z u : Cx) : CR (csub z u) (csub u z) := ⟨nr_swap _ _, nr_swap _ _⟩
theorem cr_mul (c : Cx) {z u : Cx} (h : CR z u) : CR (cmul c z) (cmul c u) := ⟨nr_sub (nr_mul _ h.1) (nr_mul _ h.2), nr_add (nr_mul _ h.2) (nr_mul _ h.1)⟩
/-- Is it a number's bits? -/
def isNum : Ieee.Datum → Bool
  | .number _ _ _ => true
  | _ => false
theorem dr_num {d e : Ieee.Datum} (h : DR d e) : isNum d = isNum e := by
  cases d <;> cases e <;> first | rfl | exact h.elim
theorem ffin_num (x : Nat) : ffin x = isNum (dbl.read x) := by
  cases hx : dbl.read x with
  | nan s t =>
    have h : ffin x = false := by
      unfold ffin fsub fop floatBits
      show (ford (((dbl.sub x x)).getD qnan) 0 == some .eq) = false
      unfold Ieee.Format.sub
      rw [hx]
      exact (by decide +kernel : (ford qnan 0 == some .eq) = false)
    rw [h]; rfl
  | infinity s =>
    have h : ffin x = false := by
      unfold ffin fsub fop floatBits
      show (ford (((dbl.sub x x)).getD qnan) 0 == some .eq) = false
      unfold Ieee.Format.sub
      rw [hx]
      simp only [Ieee.Datum.opposite, Ieee.Datum.sum]
      rw [if_neg (by cases s <;> simp)]
      exact (by decide +kernel : (ford qnan 0 == some .eq) = false)
    rw [h]; rfl
  | number s m i =>
    have h : ffin x = true := by
      unfold ffin fsub fop floatBits
      show (ford (((dbl.sub x x)).getD qnan) 0 == some .eq) = true
      unfold Ieee.Format.sub
      rw [hx]
      simp only [Ieee.Datum.opposite, Ieee.Datum.sum, signed_opp]
      rw [show Ieee.signed s m (i - min i i).toNat + -Ieee.signed s m (i - min i i).toNat = 0 by omega]
      rw [if_pos rfl]
      have h2 : ∀ b : Bool, (ford (dbl.nearest b 0 (min i i)) 0 == some .eq) = true := by
        intro b
        unfold Ieee.Format.nearest
        rw [if_pos rfl]
        cases b <;> decide +kernel
      exact h2 _
    rw [h]; rfl
theorem nr_fin {x y : Nat} (h : NR x y) : ffin x = ffin y := by rw [ffin_num, ffin_num]; exact dr_num h
theorem cr_fin {z u : Cx} (h : CR z u) : cfin z = cfin u := by unfold cfin; rw [nr_fin h.1, nr_fin h.2]
theorem sw_pow : dbl.signWeight = 9223372036854775808 := by decide
theorem read_eq (x : Nat) : dbl.read x = if x % 2 ^ 63 < 2 ^ 52 then Ieee.Datum.number (sgn x) (x % 2 ^ 63) dbl.leastPlace else if x % 2 ^ 63 < dbl.infRung then Ieee.Datum.number (sgn x) (2 ^ 52 + x % 2 ^ 63 % 2 ^ 52) (dbl.leastPlace + (x % 2 ^ 63 / 2 ^ 52 - 1 : Nat)) else if x % 2 ^ 63 = dbl.infRung then .infinity (sgn x) else .nan (sgn x) (x % 2 ^ 63 - dbl.infRung) := rfl
theorem read_neg (x : Nat) : dbl.read (Op.negFloat .f64 x) = (dbl.read x).opposite := by
  show dbl.read (x ^^^ 2 ^ 63) = _
  rw [read_eq, read_eq, FV.xor_mod x, xor_sgn x]
  by_cases a1 : x % 2 ^ 63 < 2 ^ 52
  · rw [if_pos a1, if_pos a1]; rfl
  · by_cases a2 : x % 2 ^ 63 < dbl.infRung
    · rw [if_neg a1, if_neg a1, if_pos a2, if_pos a2]; rfl
    · by_cases a3 : x % 2 ^ 63 = dbl.infRung
      · rw [if_neg a1, if_neg a1, if_neg a2, if_neg a2, if_pos a3, if_pos a3]; rfl
      · rw [if_neg a1, if_neg a1, if_neg a2, if_neg a2, if_neg a3, if_neg a3]; rfl
/-- A finite one equals the other's negation. -/
theorem nr_eq {x y : Nat} (h : NR x y) (hf : ffin x = true) : ford x (Op.negFloat .f64 y) = some .eq := by
  rw [ffin_num] at hf
  unfold NR at h
  show (dbl.read x).order (dbl.read (Op.negFloat .f64 y)) = some .eq
  rw [read_neg]
  cases hx : dbl.read x with
  | nan => rw [hx] at hf; cases hf
  | infinity => rw [hx] at hf; cases hf
  | number s m i =>
    rw [hx] at h
    cases hy : dbl.read y with
    | nan => rw [hy] at h; exact h.elim
    | infinity => rw [hy] at h; exact h.elim
    | number t n j =>
      rw [hy] at h
      obtain ⟨rfl, rfl, h3⟩ := h
      simp only [Ieee.Datum.opposite, Ieee.Datum.order, signed_opp, signed_dr _ h3, Int.neg_neg]
      simp
theorem fin_self {x : Nat} (hf : ffin x = true) : ford x x = some .eq := by
  rw [ffin_num] at hf
  show (dbl.read x).order (dbl.read x) = some .eq
  cases hx : dbl.read x with
  | nan => rw [hx] at hf; cases hf
  | infinity => rw [hx] at hf; cases hf
  | number s m i => simp [Ieee.Datum.order]
theorem bits_of {r z : Nat} (h : fc r = z) (hf : ffin z = true) : r = z := by
  by_cases hn : fnan r = true
  · rw [fc_of_nan hn] at h
    rw [← h] at hf
    exact absurd hf (by decide +kernel)
  · rw [fc_of_not (by simpa using hn)] at h; exact h
/-- What the program's own comparisons say of the numbers that come out. -/
theorem cx_bits {r i : Nat} {z : Cx} (h : (fc r, fc i) = z) (hf : cfin z = true) : r = z.1 ∧ i = z.2 := by
  subst h
  unfold cfin at hf
  rw [Bool.and_eq_true] at hf
  exact ⟨bits_of rfl hf.1, bits_of rfl hf.2⟩
theorem cx_self {z : Cx} (hf : cfin z = true) : ford z.1 z.1 = some .eq ∧ ford z.2 z.2 = some .eq := by
  unfold cfin at hf
  rw [Bool.and_eq_true] at hf
  exact ⟨fin_self hf.1, fin_self hf.2⟩
end Go.Proofs.YtdepiggjneoopaaGreatDoor
