/- a part of the proof of the last text -/
import Derived.Test.YtdepiggjneoopaaGreatDoorZWhole2
namespace Go.Proofs.YtdepiggjneoopaaGreatDoor
set_option linter.all false
set_option maxHeartbeats 4000000
set_option maxRecDepth 100000
open FV
theorem isW0 (U : Nat) : isW U 0 0 := ⟨by decide, by rw [Int.zero_mul]; decide⟩
theorem isW1 {U : Nat} (hU : U = 1074) : isW U 4607182418800017408 1 := by
  refine ⟨by decide, ?_⟩
  have h := mag_rung (U - 52) (2 ^ 52) (by decide) (.inl (Nat.le_refl _))
  have e : (U - 52) * 2 ^ 52 + 2 ^ 52 = 4607182418800017408 := by subst hU; decide
  rw [e, ← Nat.pow_add, show 52 + (U - 52) = U by omega] at h
  have e2 : (4607182418800017408 : Nat) % 2 ^ 63 = 4607182418800017408 := by decide
  have e3 : sgn 4607182418800017408 = false := by decide
  unfold val
  rw [e2, e3, h, Int.one_mul]
  rfl
theorem isW_ffin {U x : Nat} {a : Int} (h : isW U x a) : ffin x = true := by rw [ffin_num, read_fin h.1]; rfl
theorem isC_fin {U : Nat} {z : Cx} {a b : Int} (h : isC U z a b) : cfin z = true := by unfold cfin; rw [isW_ffin h.1, isW_ffin h.2]; rfl
theorem isW_fc {U x : Nat} {a : Int} (h : isW U x a) : fc x = x := by
  refine fc_of_not ?_
  unfold fnan
  show (dbl.read x).isNaN = false
  rw [read_fin h.1]; rfl
/-- What is not 0 is told from 0. -/
theorem isW_ne {U x : Nat} {a : Int} (h : isW U x a) (ha : a ≠ 0) : ford x 0 ≠ some .eq := fun e => by
  have h2 : ford x 0 = some (compare (val x) (val 0)) := order_fin h.1 (isW0 U).1
  rw [h2, h.2, (isW0 U).2, compare_mul _ _ _ (Nat.two_pow_pos U)] at e
  have h3 := Option.some.inj e
  rw [Int.compare_eq_eq] at h3
  exact ha h3
/-- A number's opposite, its bits turned. -/
def fng (x : Nat) : Nat := fc (x % 2 ^ 64 ^^^ 2 ^ 63)
theorem mod_64 (x : Nat) : (x % 2 ^ 64) % 2 ^ 63 = x % 2 ^ 63 ∧ sgn (x % 2 ^ 64) = sgn x := by
  have e : (2 : Nat) ^ 64 = 2 ^ 63 * 2 := by decide
  refine ⟨by omega, ?_⟩
  unfold sgn
  congr 1
  omega
theorem isW_mod {U x : Nat} {a : Int} (h : isW U x a) : isW U (x % 2 ^ 64) a := by
  obtain ⟨h1, h2⟩ := mod_64 x
  obtain ⟨k1, k2⟩ := h
  unfold fin at k1
  unfold val at k2
  refine ⟨?_, ?_⟩
  · unfold fin; rw [h1]; exact k1
  · unfold val; rw [h1, h2]; exact k2
theorem fnan_mod {x y : Nat} (h : x % 2 ^ 63 = y % 2 ^ 63) : fnan x = fnan y := by
  rw [← fnan_fsize x, ← fnan_fsize y]
  unfold fsize
  have e : (9223372036854775808 : Nat) = 2 ^ 63 := by decide
  rw [e, h]
theorem fng_fc (x : Nat) : fng (fc x) = fc (x % 2 ^ 64 ^^^ 2 ^ 63) := by
  by_cases h : fnan x = true
  · have hx : ∀ y, fnan y = true → fc (y % 2 ^ 64 ^^^ 2 ^ 63) = qnan := fun y hy => fc_of_nan (by
      rw [fnan_mod (show (y % 2 ^ 64 ^^^ 2 ^ 63) % 2 ^ 63 = y % 2 ^ 63 by rw [xor_mod, (mod_64 y).1]), hy])
    rw [hx x h]
    exact hx _ (by rw [fnan_fc]; exact h)
  · rw [fc_of_not (by simpa using h)]; rfl
def cng (z : Cx) : Cx := (fng z.1, fng z.2)
theorem isW_fng {U x : Nat} {a : Int} (h : isW U x a) : isW U (fng x) (-a) := by
  have h1 := isW_neg (isW_mod h)
  unfold fng
  rw [isW_fc h1]; exact h1
theorem isC_cng {U : Nat} {z : Cx} {a b : Int} (h : isC U z a b) : isC U (cng z) (-a) (-b) := ⟨isW_fng h.1, isW_fng h.2⟩
theorem isC_to {U : Nat} {z : Cx} {a b c d : Int} (h : isC U z a b) (h1 : a = c) (h2 : b = d) : isC U z c d := by subst h1 h2; exact h
theorem abs_le_mul {a b : Int} {m n : Nat} (h1 : a.natAbs ≤ m) (h2 : b.natAbs ≤ n) : (a * b).natAbs ≤ m * n := by
  rw [Int.natAbs_mul]; exact Nat.mul_le_mul h1 h2
theorem sq_one {s : Int} (hs : s.natAbs = 1) : s * s = 1 := by
  rcases (show s = 1 ∨ s = -1 by omega) with rfl | rfl <;> rfl
theorem abs_unit {a s : Int} (hs : s.natAbs = 1) : (a * s).natAbs = a.natAbs := by rw [Int.natAbs_mul, hs, Nat.mul_one]
/-- The determinant. -/
def detC (A B C D : Cx) : Cx := csub (cmul A D) (cmul B C)
theorem isC_det {U : Nat} (hU : U = 1074) {A B C D : Cx} {a1 a2 b1 b2 c1 c2 d1 d2 : Int} {m n p q : Nat} (hA : isC U A a1 a2) (hB : isC U B b1 b2) (hC : isC U C c1 c2) (hD : isC U D d1 d2)
    (ha : a1.natAbs ≤ m ∧ a2.natAbs ≤ m) (hb : b1.natAbs ≤ n ∧ b2.natAbs ≤ n) (hc : c1.natAbs ≤ p ∧ c2.natAbs ≤ p) (hd : d1.natAbs ≤ q ∧ d2.natAbs ≤ q) (h1 : m * q ≤ 2 ^ 50) (h2 : n * p ≤ 2 ^ 50) :
    isC U (detC A B C D) (a1 * d1 - a2 * d2 - (b1 * c1 - b2 * c2)) (a1 * d2 + a2 * d1 - (b1 * c2 + b2 * c1)) := by
  have e : (2 : Nat) ^ 53 = 8 * 2 ^ 50 := by decide
  have e2 : (2 : Nat) ^ 52 = 4 * 2 ^ 50 := by decide
  have k1 := abs_le_mul ha.1 hd.1
  have k2 := abs_le_mul ha.2 hd.2
  have k3 := abs_le_mul ha.1 hd.2
  have k4 := abs_le_mul ha.2 hd.1
  have k5 := abs_le_mul hb.1 hc.1
  have k6 := abs_le_mul hb.2 hc.2
  have k7 := abs_le_mul hb.1 hc.2
  have k8 := abs_le_mul hb.2 hc.1
  exact isC_sub hU (isC_mul hU hA hD (by omega) (by omega) (by omega) (by omega)) (isC_mul hU hB hC (by omega) (by omega) (by omega) (by omega)) (by omega) (by omega)
/-- The one form of a two-port whose determinant is 1 or its opposite. -/
theorem y_whole {U : Nat} (hU : U = 1074) {A B C D : Cx} {a1 a2 b1 b2 c1 c2 d1 d2 s : Int} (hA : isC U A a1 a2) (hB : isC U B b1 b2) (hC : isC U C c1 c2) (hD : isC U D d1 d2)
    (ha : a1.natAbs ≤ 2 ^ 25 ∧ a2.natAbs ≤ 2 ^ 25) (hb : b1.natAbs ≤ 2 ^ 25 ∧ b2.natAbs ≤ 2 ^ 25) (hc : c1.natAbs ≤ 2 ^ 25 ∧ c2.natAbs ≤ 2 ^ 25) (hd : d1.natAbs ≤ 2 ^ 25 ∧ d2.natAbs ≤ 2 ^ 25)
    (h1 : a1 * d1 - a2 * d2 - (b1 * c1 - b2 * c2) = s) (h2 : a1 * d2 + a2 * d1 - (b1 * c2 + b2 * c1) = 0) (hs : s.natAbs = 1) :
    isC U (detC A B C D) s 0 ∧ isC U (cdiv D (detC A B C D)) (d1 * s) (d2 * s) ∧ isC U (cng (cdiv B (detC A B C D))) (-(b1 * s)) (-(b2 * s)) ∧ isC U (cng (cdiv C (detC A B C D))) (-(c1 * s)) (-(c2 * s)) ∧ isC U (cdiv A (detC A B C D)) (a1 * s) (a2 * s) := by
  have e : (2 : Nat) ^ 25 ≤ 2 ^ 53 := by decide
  have hdet := isC_to (isC_det hU hA hB hC hD ha hb hc hd (by decide) (by decide)) h1 h2
  exact ⟨hdet, isC_div hU hD hdet hs (by omega) (by omega), isC_cng (isC_div hU hB hdet hs (by omega) (by omega)), isC_cng (isC_div hU hC hdet hs (by omega) (by omega)), isC_div hU hA hdet hs (by omega) (by omega)⟩
/-- .. and the one form of that. -/
theorem y_back {U : Nat} (hU : U = 1074) {A B C D A' B' C' D' : Cx} {a1 a2 b1 b2 c1 c2 d1 d2 s : Int} (hA : isC U A (d1 * s) (d2 * s)) (hB : isC U B (-(b1 * s)) (-(b2 * s))) (hC : isC U C (-(c1 * s)) (-(c2 * s))) (hD : isC U D (a1 * s) (a2 * s))
    (ha : a1.natAbs ≤ 2 ^ 25 ∧ a2.natAbs ≤ 2 ^ 25) (hb : b1.natAbs ≤ 2 ^ 25 ∧ b2.natAbs ≤ 2 ^ 25) (hc : c1.natAbs ≤ 2 ^ 25 ∧ c2.natAbs ≤ 2 ^ 25) (hd : d1.natAbs ≤ 2 ^ 25 ∧ d2.natAbs ≤ 2 ^ 25)
    (h1 : a1 * d1 - a2 * d2 - (b1 * c1 - b2 * c2) = s) (h2 : a1 * d2 + a2 * d1 - (b1 * c2 + b2 * c1) = 0) (hs : s.natAbs = 1)
    (eA : A' = cdiv D (detC A B C D)) (eB : B' = cng (cdiv B (detC A B C D))) (eC : C' = cng (cdiv C (detC A B C D))) (eD : D' = cdiv A (detC A B C D)) :
    isC U (detC A B C D) s 0 ∧ isC U A' a1 a2 ∧ isC U B' b1 b2 ∧ isC U C' c1 c2 ∧ isC U D' d1 d2 := by
  have hq := sq_one hs
  obtain ⟨g0, g1, g2, g3, g4⟩ := y_whole hU hA hB hC hD (s := s) (by rw [abs_unit hs, abs_unit hs]; exact hd) (by rw [Int.natAbs_neg, Int.natAbs_neg, abs_unit hs, abs_unit hs]; exact hb) (by rw [Int.natAbs_neg, Int.natAbs_neg, abs_unit hs, abs_unit hs]; exact hc) (by rw [abs_unit hs, abs_unit hs]; exact ha)
    (by grind) (by grind) hs
  subst eA eB eC eD
  exact ⟨g0, isC_to g1 (by grind) (by grind), isC_to g2 (by grind) (by grind), isC_to g3 (by grind) (by grind), isC_to g4 (by grind) (by grind)⟩
/-- The chain of a two-port whose z21 is 1 or its opposite. -/
theorem ch_whole {U : Nat} (hU : U = 1074) {A B C D O : Cx} {a1 a2 b1 b2 d1 d2 s : Int} {n : Nat} (hO : isC U O 1 0) (hA : isC U A a1 a2) (hB : isC U B b1 b2) (hC : isC U C s 0) (hD : isC U D d1 d2)
    (ha : a1.natAbs ≤ 2 ^ 21 ∧ a2.natAbs ≤ 2 ^ 21) (hb : b1.natAbs ≤ n ∧ b2.natAbs ≤ n) (hn : n ≤ 2 ^ 45) (hd : d1.natAbs ≤ 2 ^ 21 ∧ d2.natAbs ≤ 2 ^ 21) (hs : s.natAbs = 1) :
    isC U (cdiv A C) (a1 * s) (a2 * s) ∧ isC U (cdiv (detC A B C D) C) ((a1 * d1 - a2 * d2 - b1 * s) * s) ((a1 * d2 + a2 * d1 - b2 * s) * s) ∧ isC U (cdiv O C) s 0 ∧ isC U (cdiv D C) (d1 * s) (d2 * s) := by
  have e : (2 : Nat) ^ 21 ≤ 2 ^ 53 := by decide
  have e1 : (2 : Nat) ^ 21 * 2 ^ 21 = 2 ^ 42 := by decide
  have e2 : 2 ^ 42 + 2 ^ 42 + 2 ^ 45 ≤ 2 ^ 53 := by decide
  have k1 := abs_le_mul ha.1 hd.1
  have k2 := abs_le_mul ha.2 hd.2
  have k3 := abs_le_mul ha.1 hd.2
  have k4 := abs_le_mul ha.2 hd.1
  have k5 : (b1 * s).natAbs ≤ n := by rw [abs_unit hs]; exact hb.1
  have k6 : (b2 * s).natAbs ≤ n := by rw [abs_unit hs]; exact hb.2
  have h50 : n * 1 ≤ 2 ^ 50 := by
    have : (2 : Nat) ^ 45 ≤ 2 ^ 50 := by decide
    omega
  have hdet := isC_to (isC_det hU hA hB hC hD ha hb (p := 1) ⟨by omega, by decide⟩ hd (by decide) h50) (show _ = a1 * d1 - a2 * d2 - b1 * s by grind) (show _ = a1 * d2 + a2 * d1 - b2 * s by grind)
  refine ⟨isC_div hU hA hC hs (by omega) (by omega), isC_div hU hdet hC hs (by omega) (by omega), isC_to (isC_div hU hO hC hs (by decide) (by decide)) (by grind) (by grind), isC_div hU hD hC hs (by omega) (by omega)⟩
/-- .. and the chain of that. -/
theorem ch_back {U : Nat} (hU : U = 1074) {A B C D O A' B' C' D' : Cx} {a1 a2 b1 b2 d1 d2 s : Int} (hO : isC U O 1 0) (hA : isC U A (a1 * s) (a2 * s)) (hB : isC U B ((a1 * d1 - a2 * d2 - b1 * s) * s) ((a1 * d2 + a2 * d1 - b2 * s) * s)) (hC : isC U C s 0) (hD : isC U D (d1 * s) (d2 * s))
    (ha : a1.natAbs ≤ 2 ^ 21 ∧ a2.natAbs ≤ 2 ^ 21) (hb : b1.natAbs ≤ 2 ^ 21 ∧ b2.natAbs ≤ 2 ^ 21) (hd : d1.natAbs ≤ 2 ^ 21 ∧ d2.natAbs ≤ 2 ^ 21) (hs : s.natAbs = 1)
    (eA : A' = cdiv A C) (eB : B' = cdiv (detC A B C D) C) (eC : C' = cdiv O C) (eD : D' = cdiv D C) :
    isC U A' a1 a2 ∧ isC U B' b1 b2 ∧ isC U C' s 0 ∧ isC U D' d1 d2 := by
  have hq := sq_one hs
  have e1 : (2 : Nat) ^ 21 * 2 ^ 21 = 2 ^ 42 := by decide
  have e2 : 2 ^ 42 + 2 ^ 42 + 2 ^ 21 ≤ 2 ^ 45 := by decide
  have k1 := abs_le_mul ha.1 hd.1
  have k2 := abs_le_mul ha.2 hd.2
  have k3 := abs_le_mul ha.1 hd.2
  have k4 := abs_le_mul ha.2 hd.1
  have k5 : (b1 * s).natAbs ≤ 2 ^ 21 := by rw [abs_unit hs]; exact hb.1
  have k6 : (b2 * s).natAbs ≤ 2 ^ 21 := by rw [abs_unit hs]; exact hb.2
  obtain ⟨g1, g2, g3, g4⟩ := ch_whole hU hO hA hB hC hD (by rw [abs_unit hs, abs_unit hs]; exact ha) (n := 2 ^ 45) (by rw [abs_unit hs, abs_unit hs]; omega) (Nat.le_refl _) (by rw [abs_unit hs, abs_unit hs]; exact hd) hs
  subst eA eB eC eD
  exact ⟨isC_to g1 (by grind) (by grind), isC_to g2 (by grind) (by grind), g3, isC_to g4 (by grind) (by grind)⟩
/-- A row times a column of the idle two-port. -/
theorem dot_whole {U : Nat} (hU : U = 1074) {Z A B P Q : Cx} {a1 a2 b1 b2 p q : Int} {n : Nat} (hZ : isC U Z 0 0) (hA : isC U A a1 a2) (hB : isC U B b1 b2) (hP : isC U P p 0) (hQ : isC U Q q 0) (hp : p = 0 ∨ p = 1) (hq : q = 0 ∨ q = 1)
    (ha : a1.natAbs ≤ n ∧ a2.natAbs ≤ n) (hb : b1.natAbs ≤ n ∧ b2.natAbs ≤ n) (hn : n ≤ 2 ^ 45) : isC U (cadd (cadd Z (cmul A P)) (cmul B Q)) (a1 * p + b1 * q) (a2 * p + b2 * q) ∧ isC U (cadd (cadd Z (cmul P A)) (cmul Q B)) (a1 * p + b1 * q) (a2 * p + b2 * q) := by
  have e : (2 : Nat) ^ 53 = 256 * 2 ^ 45 := by decide
  have e2 : (2 : Nat) ^ 52 = 128 * 2 ^ 45 := by decide
  have hA0 : isC U (cmul A P) (a1 * p) (a2 * p) ∧ isC U (cmul P A) (a1 * p) (a2 * p) := by
    rcases hp with rfl | rfl
    · exact ⟨isC_to (isC_mul hU hA hP (by simp) (by simp) (by simp) (by simp)) (by grind) (by grind), isC_to (isC_mul hU hP hA (by simp) (by simp) (by simp) (by simp)) (by grind) (by grind)⟩
    · exact ⟨isC_to (isC_mul hU hA hP (by omega) (by simp) (by simp) (by omega)) (by grind) (by grind), isC_to (isC_mul hU hP hA (by omega) (by simp) (by omega) (by simp)) (by grind) (by grind)⟩
  have hB0 : isC U (cmul B Q) (b1 * q) (b2 * q) ∧ isC U (cmul Q B) (b1 * q) (b2 * q) := by
    rcases hq with rfl | rfl
    · exact ⟨isC_to (isC_mul hU hB hQ (by simp) (by simp) (by simp) (by simp)) (by grind) (by grind), isC_to (isC_mul hU hQ hB (by simp) (by simp) (by simp) (by simp)) (by grind) (by grind)⟩
    · exact ⟨isC_to (isC_mul hU hB hQ (by omega) (by simp) (by simp) (by omega)) (by grind) (by grind), isC_to (isC_mul hU hQ hB (by omega) (by simp) (by omega) (by simp)) (by grind) (by grind)⟩
  have k1 : (a1 * p).natAbs ≤ n := by rcases hp with rfl | rfl <;> simp <;> omega
  have k2 : (a2 * p).natAbs ≤ n := by rcases hp with rfl | rfl <;> simp <;> omega
  have k3 : (b1 * q).natAbs ≤ n := by rcases hq with rfl | rfl <;> simp <;> omega
  have k4 : (b2 * q).natAbs ≤ n := by rcases hq with rfl | rfl <;> simp <;> omega
  exact ⟨isC_to (isC_add hU (isC_add hU hZ hA0.1 (by omega) (by omega)) hB0.1 (by omega) (by omega)) (by omega) (by omega), isC_to (isC_add hU (isC_add hU hZ hA0.2 (by omega) (by omega)) hB0.2 (by omega) (by omega)) (by omega) (by omega)⟩
end Go.Proofs.YtdepiggjneoopaaGreatDoor
