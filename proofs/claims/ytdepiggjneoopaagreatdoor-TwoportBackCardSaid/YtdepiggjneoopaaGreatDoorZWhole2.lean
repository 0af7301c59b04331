/- a part of the proof of the last text -/
import Derived.Test.YtdepiggjneoopaaGreatDoorZWhole
namespace Go.Proofs.YtdepiggjneoopaaGreatDoor
set_option linter.all false
set_option maxHeartbeats 4000000
set_option maxRecDepth 100000
open FV
theorem one_read {U : Nat} (hU : U = 1074) {y : Nat} {s : Int} (h : isW U y s) (hs : s.natAbs = 1) : sig y = 2 ^ 52 ∧ plc y = -52 := by
  have hp := isW_plc hU h (by omega)
  have hm := sig_mag y
  rw [val_mag h, hs, Nat.one_mul] at hm
  have hge : 2 ^ 52 ≤ sig y := by
    unfold sig
    unfold plc at hp
    split at hp
    · omega
    · rename_i h1
      rw [if_neg h1]; omega
  obtain ⟨e, he⟩ : ∃ e, (plc y + 1074).toNat = e := ⟨_, rfl⟩
  rw [he] at hm
  have h1 : 2 ^ 52 * 2 ^ e ≤ 2 ^ U := by rw [← hm]; exact Nat.mul_le_mul_right _ hge
  rw [← Nat.pow_add] at h1
  have h2 : 52 + e ≤ U := (Nat.pow_le_pow_iff_right (by decide)).1 h1
  have h3 : e = U - 52 := by omega
  refine ⟨?_, by omega⟩
  have h4 : sig y * 2 ^ e = 2 ^ 52 * 2 ^ e := by rw [hm, ← Nat.pow_add, show 52 + e = U by omega]
  exact Nat.eq_of_mul_eq_mul_right (Nat.two_pow_pos e) h4
theorem isW_div {U : Nat} (hU : U = 1074) {x y : Nat} {a s : Int} (hx : isW U x a) (hy : isW U y s) (hs : s.natAbs = 1) (h : a.natAbs ≤ 2 ^ 53) : isW U (fdiv x y) (a * s) := by
  obtain ⟨K, hK⟩ : ∃ K, K = 2045 := ⟨_, rfl⟩
  obtain ⟨hs1, hp1⟩ := one_read hU hy hs
  have hlog : (sig x).log2 ≤ 52 := by
    by_cases h0 : sig x = 0
    · rw [h0]; decide
    · have := (Nat.log2_lt h0).2 (sig_lt x)
      omega
  obtain ⟨q, hq⟩ : ∃ q, 54 + (2 ^ 52 : Nat).log2 - (sig x).log2 = q + 52 := ⟨54 - (sig x).log2, by rw [Nat.log2_two_pow]; omega⟩
  have hdiv : (sig x <<< (q + 52)) / 2 ^ 52 = sig x * 2 ^ q ∧ (sig x <<< (q + 52)) % 2 ^ 52 = 0 := by
    rw [Nat.shiftLeft_eq, Nat.pow_add, ← Nat.mul_assoc]
    exact ⟨Nat.mul_div_cancel _ (Nat.two_pow_pos 52), Nat.mul_mod_left _ _⟩
  have e : fdiv x y = dbl.nearest (sgn x ^^ sgn y) (sig x) (plc x) := by
    show (dbl.div x y).getD qnan = _
    unfold Ieee.Format.div
    rw [read_fin hx.1, read_fin hy.1, hs1, hp1]
    have hz : ¬ ((2 : Nat) ^ 52 = 0) := by decide
    simp only [Ieee.Datum.quotient, if_neg hz]
    show dbl.nearest (sgn x ^^ sgn y) (2 * (sig x <<< (54 + (2 ^ 52 : Nat).log2 - (sig x).log2) / 2 ^ 52) + (sig x <<< (54 + (2 ^ 52 : Nat).log2 - (sig x).log2) % 2 ^ 52 != 0).toNat) (plc x - -52 - ((54 + (2 ^ 52 : Nat).log2 - (sig x).log2 : Nat) : Int) - 1) = _
    rw [hq, hdiv.1, hdiv.2]
    rw [show 2 * (sig x * 2 ^ q) + ((0 : Nat) != 0).toNat = sig x * 2 ^ (q + 1) by rw [Nat.pow_succ]; show 2 * (sig x * 2 ^ q) + 0 = _; rw [Nat.add_zero, Nat.mul_comm 2, Nat.mul_assoc]]
    rw [show plc x - -52 - ((q + 52 : Nat) : Int) - 1 = plc x - ((q + 1 : Nat) : Int) by push_cast; omega]
    exact near_shift _ _ _ _
  rw [e]
  have hmag : sig x * 2 ^ (plc x + 1074).toNat = a.natAbs * 2 ^ U := by rw [sig_mag, val_mag hx]
  have hx2 := hx.2
  have hy2 := hy.2
  unfold val at hx2 hy2
  rw [val_mag hx, sg_mul] at hx2
  rw [val_mag hy, sg_mul] at hy2
  have hpos : ((2 ^ U : Nat) : Int) ≠ 0 := by
    have := Nat.two_pow_pos U
    omega
  have ea : sg (sgn x) a.natAbs = a := Int.eq_of_mul_eq_mul_right hpos hx2
  have eb : sg (sgn y) s.natAbs = s := Int.eq_of_mul_eq_mul_right hpos hy2
  have hfin : sg (sgn x ^^ sgn y) (a.natAbs * 2 ^ U) = a * s * ((2 ^ U : Nat) : Int) := by
    rw [sg_mul]
    congr 1
    have := sg_prod (sgn x) (sgn y) a.natAbs s.natAbs
    rw [ea, eb, hs, Nat.mul_one] at this
    exact this.symm
  by_cases h0 : sig x = 0
  · have ha : a.natAbs * 2 ^ U = 0 := by rw [← hmag, h0, Nat.zero_mul]
    have ha0 : a = 0 := by
      rcases Nat.mul_eq_zero.1 ha with h1 | h1
      · omega
      · exact absurd h1 (Nat.pos_iff_ne_zero.1 (Nat.two_pow_pos _))
    subst ha0
    have e2 : dbl.nearest (sgn x ^^ sgn y) (sig x) (plc x) = dbl.word (sgn x ^^ sgn y) 0 := by
      unfold Ieee.Format.nearest
      rw [if_pos h0]
    obtain ⟨w1, w2⟩ := val_word (sgn x ^^ sgn y) 0 (by decide)
    rw [e2]
    refine ⟨w1, ?_⟩
    rw [w2, Int.zero_mul, Int.zero_mul]
    unfold sg mag
    split <;> rfl
  · obtain ⟨r, hr, hn, hmr⟩ := nearest_eq K hK (sgn x ^^ sgn y) (sig x) (plc x) (plc_ge x) h0 (by rw [hmag, rnd_int h]; exact small_lt h (by omega))
    rw [hn]
    obtain ⟨w1, w2⟩ := val_word (sgn x ^^ sgn y) r hr
    refine ⟨w1, ?_⟩
    rw [w2, hmr, hmag, rnd_int h, hfin]
/-- A complex number of whole parts. -/
def isC (U : Nat) (z : Cx) (p q : Int) : Prop := isW U z.1 p ∧ isW U z.2 q
theorem isW_fsize {U x : Nat} {a : Int} (h : isW U x a) : fin (fsize x) = true ∧ val (fsize x) = (a.natAbs * 2 ^ U : Nat) := by
  have hm : fsize x % 2 ^ 63 = x % 2 ^ 63 := by unfold fsize; omega
  refine ⟨?_, ?_⟩
  · have := h.1
    unfold fin at this ⊢
    rw [hm]; exact this
  · unfold val
    rw [sgn_lo (fsz_lt x), hm, val_mag h]; rfl
theorem isC_ge {U : Nat} {x y : Nat} {a : Int} (hx : isW U x a) (hy : isW U y 0) : isGe (fordz x y) = true := by
  obtain ⟨f1, v1⟩ := isW_fsize hx
  obtain ⟨f2, v2⟩ := isW_fsize hy
  unfold fordz
  have e : ford (fsize x) (fsize y) = some (compare (val (fsize x)) (val (fsize y))) := order_fin f1 f2
  rw [e, v1, v2, Int.natAbs_zero, Nat.zero_mul]
  rcases Nat.eq_zero_or_pos (a.natAbs * 2 ^ U) with h | h
  · rw [h]; rfl
  · rw [show compare ((a.natAbs * 2 ^ U : Nat) : Int) ((0 : Nat) : Int) = Ordering.gt from Int.compare_eq_gt.2 (by omega)]; rfl
theorem isC_add {U : Nat} (hU : U = 1074) {x y : Cx} {a b c d : Int} (hx : isC U x a b) (hy : isC U y c d) (h1 : (a + c).natAbs ≤ 2 ^ 53) (h2 : (b + d).natAbs ≤ 2 ^ 53) : isC U (cadd x y) (a + c) (b + d) :=
  ⟨isW_add hU hx.1 hy.1 h1, isW_add hU hx.2 hy.2 h2⟩
theorem isC_sub {U : Nat} (hU : U = 1074) {x y : Cx} {a b c d : Int} (hx : isC U x a b) (hy : isC U y c d) (h1 : (a - c).natAbs ≤ 2 ^ 53) (h2 : (b - d).natAbs ≤ 2 ^ 53) : isC U (csub x y) (a - c) (b - d) :=
  ⟨isW_sub hU hx.1 hy.1 h1, isW_sub hU hx.2 hy.2 h2⟩
theorem isC_mul {U : Nat} (hU : U = 1074) {x y : Cx} {a b c d : Int} (hx : isC U x a b) (hy : isC U y c d) (h1 : (a * c).natAbs ≤ 2 ^ 52) (h2 : (b * d).natAbs ≤ 2 ^ 52) (h3 : (a * d).natAbs ≤ 2 ^ 52) (h4 : (b * c).natAbs ≤ 2 ^ 52) : isC U (cmul x y) (a * c - b * d) (a * d + b * c) := by
  have e : (2 : Nat) ^ 53 = 2 ^ 52 + 2 ^ 52 := by decide
  have m1 := isW_mul hU hx.1 hy.1 (show (a * c).natAbs ≤ 2 ^ 53 by omega)
  have m2 := isW_mul hU hx.2 hy.2 (show (b * d).natAbs ≤ 2 ^ 53 by omega)
  have m3 := isW_mul hU hx.1 hy.2 (show (a * d).natAbs ≤ 2 ^ 53 by omega)
  have m4 := isW_mul hU hx.2 hy.1 (show (b * c).natAbs ≤ 2 ^ 53 by omega)
  exact ⟨isW_sub hU m1 m2 (by omega), isW_add hU m3 m4 (by omega)⟩
/-- Divided by 1 or its opposite. -/
theorem isC_div {U : Nat} (hU : U = 1074) {x y : Cx} {a b s : Int} (hx : isC U x a b) (hy : isC U y s 0) (hs : s.natAbs = 1) (h1 : a.natAbs ≤ 2 ^ 53) (h2 : b.natAbs ≤ 2 ^ 53) : isC U (cdiv x y) (a * s) (b * s) := by
  have hg := isC_ge hy.1 hy.2
  have hr : isW U (fdiv y.2 y.1) 0 := by
    have := isW_div hU hy.2 hy.1 hs (by simp)
    rwa [Int.zero_mul] at this
  have ht : isW U (fadd y.1 (fmul y.2 (fdiv y.2 y.1))) s := by
    have h3 : isW U (fmul y.2 (fdiv y.2 y.1)) 0 := by
      have := isW_mul hU hy.2 hr (by simp)
      rwa [Int.zero_mul] at this
    have := isW_add hU hy.1 h3 (by rw [Int.add_zero, hs]; decide)
    rwa [Int.add_zero] at this
  have hre : isW U (fadd x.1 (fmul x.2 (fdiv y.2 y.1))) a := by
    have h3 : isW U (fmul x.2 (fdiv y.2 y.1)) 0 := by
      have := isW_mul hU hx.2 hr (by simp)
      rwa [Int.mul_zero] at this
    have := isW_add hU hx.1 h3 (by rw [Int.add_zero]; exact h1)
    rwa [Int.add_zero] at this
  have him : isW U (fsub x.2 (fmul x.1 (fdiv y.2 y.1))) b := by
    have h3 : isW U (fmul x.1 (fdiv y.2 y.1)) 0 := by
      have := isW_mul hU hx.1 hr (by simp)
      rwa [Int.mul_zero] at this
    have := isW_sub hU hx.2 h3 (by rw [Int.sub_zero]; exact h2)
    rwa [Int.sub_zero] at this
  unfold cdiv
  rw [if_pos hg]
  exact ⟨isW_div hU hre ht hs h1, isW_div hU him ht hs h2⟩
theorem isC_eq {U : Nat} {x y : Cx} {a b : Int} (hx : isC U x a b) (hy : isC U y a b) : ford x.1 y.1 = some .eq ∧ ford x.2 y.2 = some .eq := ⟨isW_eq hx.1 hy.1, isW_eq hx.2 hy.2⟩
end Go.Proofs.YtdepiggjneoopaaGreatDoor
