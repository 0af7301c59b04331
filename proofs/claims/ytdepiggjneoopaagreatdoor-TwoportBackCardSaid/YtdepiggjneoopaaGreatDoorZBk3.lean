/- a part of the proof of the last text -/
import Derived.Test.YtdepiggjneoopaaGreatDoorZBk2
import Derived.Test.YtdepiggjneoopaaGreatDoorZEqN
namespace Go.Proofs.YtdepiggjneoopaaGreatDoor
set_option linter.all false
set_option maxHeartbeats 4000000
set_option maxRecDepth 100000
open Go.RowKit FV
theorem isW_raw {U x : Nat} {a : Int} (h : isW U (fc x) a) : isW U x a := by
  cases hn : fnan x
  · rwa [fc_of_not hn] at h
  · rw [fc_of_nan hn] at h
    exact absurd (isW_ffin h) (by decide +kernel)
theorem isC_raw {U : Nat} {z : Cx} {a b : Int} (h : isC U (ck z) a b) : isC U z a b := ⟨isW_raw h.1, isW_raw h.2⟩
theorem isC_ck {U : Nat} {z : Cx} {a b : Int} (h : isC U z a b) : ck z = z := Prod.ext (isW_fc h.1) (isW_fc h.2)
theorem isW_near {U : Nat} (hU : U = 1074) {n : Int} (h : n.natAbs ≤ 2 ^ 53) : isW U (FloatKind.f64.nearest n) n := by
  by_cases h0 : n = 0
  · subst h0; exact isW0 U
  · obtain ⟨K, hK⟩ : ∃ K, K = 2045 := ⟨_, rfl⟩
    have he : FloatKind.f64.nearest n = dbl.nearest (decide (n < 0)) n.natAbs 0 := rfl
    have hz : ((0 : Int) + 1074).toNat = U := by rw [hU]; rfl
    obtain ⟨r, h1, h2, h3⟩ := nearest_eq K hK (decide (n < 0)) n.natAbs 0 (by decide) (by omega) (by rw [hz, rnd_int h]; exact small_lt h (by omega))
    rw [hz, rnd_int h] at h3
    obtain ⟨g1, g2⟩ := val_word (decide (n < 0)) r h1
    rw [he, h2]
    refine ⟨g1, ?_⟩
    rw [g2, h3]
    obtain ⟨s, hs⟩ := sg_abs n
    by_cases hn : n < 0
    · rw [decide_eq_true hn]
      unfold sg
      rw [if_pos rfl, Int.natCast_mul, ← Int.neg_mul]
      congr 1
      omega
    · rw [decide_eq_false hn]
      unfold sg
      rw [if_neg (by simp), Int.natCast_mul]
      congr 1
      omega
/-- Four whole numbers. -/
def Four (U : Nat) (xs : List Cx) (a1 a2 b1 b2 c1 c2 d1 d2 : Int) : Prop := ∃ A B C D, xs = [A, B, C, D] ∧ isC U A a1 a2 ∧ isC U B b1 b2 ∧ isC U C c1 c2 ∧ isC U D d1 d2
section
variable {U : Nat} {xs ys : List Cx} {a1 a2 b1 b2 c1 c2 d1 d2 s : Int}
theorem four_of {x y z u : Cx} (h : ys.map ck = [x, y, z, u]) (hx : isC U x a1 a2) (hy : isC U y b1 b2) (hz : isC U z c1 c2) (hu : isC U u d1 d2) : Four U ys a1 a2 b1 b2 c1 c2 d1 d2 := by
  obtain ⟨A, B, C, D, rfl⟩ : ∃ A B C D, ys = [A, B, C, D] := by
    have hlen := congrArg List.length h
    match ys, hlen with
    | [A, B, C, D], _ => exact ⟨A, B, C, D, rfl⟩
  simp only [List.map_cons, List.map_nil] at h
  obtain ⟨e1, h⟩ := List.cons.inj h
  obtain ⟨e2, h⟩ := List.cons.inj h
  obtain ⟨e3, h⟩ := List.cons.inj h
  obtain ⟨e4, _⟩ := List.cons.inj h
  exact ⟨A, B, C, D, rfl, isC_raw (by rw [e1]; exact hx), isC_raw (by rw [e2]; exact hy), isC_raw (by rw [e3]; exact hz), isC_raw (by rw [e4]; exact hu)⟩
theorem Four.tak (h : Four U xs a1 a2 b1 b2 c1 c2 d1 d2) : takS 2 2 xs = 0 := by
  obtain ⟨A, B, C, D, rfl, hA, hB, hC, hD⟩ := h
  unfold takS
  rw [if_neg (by simp), if_pos]
  simp only [List.all_cons, List.all_nil, isC_ck hA, isC_ck hB, isC_ck hC, isC_ck hD, isC_fin hA, isC_fin hB, isC_fin hC, isC_fin hD, Bool.and_self]
theorem Four.len (h : Four U xs a1 a2 b1 b2 c1 c2 d1 d2) : xs.length = 4 := by
  obtain ⟨A, B, C, D, rfl, _⟩ := h; rfl
theorem Four.eq (h : Four U xs a1 a2 b1 b2 c1 c2 d1 d2) (g : Four U ys a1 a2 b1 b2 c1 c2 d1 d2) : EqL xs ys := by
  obtain ⟨A, B, C, D, rfl, hA, hB, hC, hD⟩ := h
  obtain ⟨A', B', C', D', rfl, gA, gB, gC, gD⟩ := g
  refine ⟨rfl, fun k x y hx hy => ?_⟩
  match k, hx, hy with
  | 0, hx, hy => cases hx; cases hy; exact isC_eq hA gA
  | 1, hx, hy => cases hx; cases hy; exact isC_eq hB gB
  | 2, hx, hy => cases hx; cases hy; exact isC_eq hC gC
  | 3, hx, hy => cases hx; cases hy; exact isC_eq hD gD
  | k + 4, hx, hy => simp at hx
theorem told_four {x y z u : Cx} (hx : isC U x a1 a2) (hy : isC U y b1 b2) (hz : isC U z c1 c2) (hu : isC U u d1 d2) : ∃ Y, told4S 0 x y z u = ((2, Y), 0) ∧ ∀ ys, ys.map ck = Y → Four U ys a1 a2 b1 b2 c1 c2 d1 d2 := by
  refine ⟨[ck x, ck y, ck z, ck u], ?_, fun ys h => four_of h (by rw [isC_ck hx]; exact hx) (by rw [isC_ck hy]; exact hy) (by rw [isC_ck hz]; exact hz) (by rw [isC_ck hu]; exact hu)⟩
  unfold told4S
  rw [if_neg (by simp), if_pos]
  unfold fin4
  rw [isC_ck hx, isC_ck hy, isC_ck hz, isC_ck hu, isC_fin hx, isC_fin hy, isC_fin hz, isC_fin hu]
  rfl
theorem unit_ne {z : Cx} (h : isC U z s 0) (hs : s.natAbs = 1) : czero z = false := by
  have h1 := isW_ne h.1 (show s ≠ 0 by omega)
  unfold czero
  have h2 : (ford z.1 0 == some .eq) = false := beq_eq_false_iff_ne.2 h1
  rw [h2]; rfl
theorem y_four (hU : U = 1074) (h : Four U xs a1 a2 b1 b2 c1 c2 d1 d2)
    (ha : a1.natAbs ≤ 2 ^ 25 ∧ a2.natAbs ≤ 2 ^ 25) (hb : b1.natAbs ≤ 2 ^ 25 ∧ b2.natAbs ≤ 2 ^ 25) (hc : c1.natAbs ≤ 2 ^ 25 ∧ c2.natAbs ≤ 2 ^ 25) (hd : d1.natAbs ≤ 2 ^ 25 ∧ d2.natAbs ≤ 2 ^ 25)
    (h1 : a1 * d1 - a2 * d2 - (b1 * c1 - b2 * c2) = s) (h2 : a1 * d2 + a2 * d1 - (b1 * c2 + b2 * c1) = 0) (hs : s.natAbs = 1) :
    ∃ Y, frM yQ 2 2 xs = ((2, Y), 0) ∧ ∀ ys, ys.map ck = Y → Four U ys (d1 * s) (d2 * s) (-(b1 * s)) (-(b2 * s)) (-(c1 * s)) (-(c2 * s)) (a1 * s) (a2 * s) := by
  have ht := h.tak
  obtain ⟨A, B, C, D, rfl, hA, hB, hC, hD⟩ := h
  obtain ⟨k0, k1, k2, k3, k4⟩ := y_whole hU hA hB hC hD ha hb hc hd h1 h2 hs
  rw [frM_good ht rfl, isC_ck hA, isC_ck hB, isC_ck hC, isC_ck hD]
  unfold yQ
  rw [if_neg (by rw [unit_ne k0 hs]; simp)]
  exact told_four k1 k2 k3 k4
theorem y_four_back (hU : U = 1074) (h : Four U xs (d1 * s) (d2 * s) (-(b1 * s)) (-(b2 * s)) (-(c1 * s)) (-(c2 * s)) (a1 * s) (a2 * s))
    (ha : a1.natAbs ≤ 2 ^ 25 ∧ a2.natAbs ≤ 2 ^ 25) (hb : b1.natAbs ≤ 2 ^ 25 ∧ b2.natAbs ≤ 2 ^ 25) (hc : c1.natAbs ≤ 2 ^ 25 ∧ c2.natAbs ≤ 2 ^ 25) (hd : d1.natAbs ≤ 2 ^ 25 ∧ d2.natAbs ≤ 2 ^ 25)
    (h1 : a1 * d1 - a2 * d2 - (b1 * c1 - b2 * c2) = s) (h2 : a1 * d2 + a2 * d1 - (b1 * c2 + b2 * c1) = 0) (hs : s.natAbs = 1) :
    ∃ Y, frM yQ 2 2 xs = ((2, Y), 0) ∧ ∀ ys, ys.map ck = Y → Four U ys a1 a2 b1 b2 c1 c2 d1 d2 := by
  have hq := sq_one hs
  have q1 : ∀ t : Int, t * s * s = t := fun t => by rw [Int.mul_assoc, hq, Int.mul_one]
  have q2 : ∀ t : Int, -(-(t * s) * s) = t := fun t => by rw [Int.neg_mul, Int.neg_neg, q1]
  have e1 : d1 * s * (a1 * s) - d2 * s * (a2 * s) - (-(b1 * s) * -(c1 * s) - -(b2 * s) * -(c2 * s)) = s := by
    have : d1 * s * (a1 * s) - d2 * s * (a2 * s) - (-(b1 * s) * -(c1 * s) - -(b2 * s) * -(c2 * s)) = (a1 * d1 - a2 * d2 - (b1 * c1 - b2 * c2)) * (s * s) := by grind
    rw [this, h1, hq, Int.mul_one]
  have e2 : d1 * s * (a2 * s) + d2 * s * (a1 * s) - (-(b1 * s) * -(c2 * s) + -(b2 * s) * -(c1 * s)) = 0 := by
    have : d1 * s * (a2 * s) + d2 * s * (a1 * s) - (-(b1 * s) * -(c2 * s) + -(b2 * s) * -(c1 * s)) = (a1 * d2 + a2 * d1 - (b1 * c2 + b2 * c1)) * (s * s) := by grind
    rw [this, h2, Int.zero_mul]
  have ab : ∀ t : Int, t.natAbs ≤ 2 ^ 25 → (t * s).natAbs ≤ 2 ^ 25 ∧ (-(t * s)).natAbs ≤ 2 ^ 25 := fun t ht => by rw [Int.natAbs_neg, abs_unit hs]; exact ⟨ht, ht⟩
  obtain ⟨Y, g1, g2⟩ := y_four hU h ⟨(ab _ hd.1).1, (ab _ hd.2).1⟩ ⟨(ab _ hb.1).2, (ab _ hb.2).2⟩ ⟨(ab _ hc.1).2, (ab _ hc.2).2⟩ ⟨(ab _ ha.1).1, (ab _ ha.2).1⟩ e1 e2 hs
  refine ⟨Y, g1, fun ys hy => ?_⟩
  have h3 := g2 ys hy
  rw [q1, q1, q2, q2, q2, q2, q1, q1] at h3
  exact h3
theorem ch_four (hU : U = 1074) (h : Four U xs a1 a2 b1 b2 s 0 d1 d2)
    (ha : a1.natAbs ≤ 2 ^ 21 ∧ a2.natAbs ≤ 2 ^ 21) (hb : b1.natAbs ≤ 2 ^ 45 ∧ b2.natAbs ≤ 2 ^ 45) (hd : d1.natAbs ≤ 2 ^ 21 ∧ d2.natAbs ≤ 2 ^ 21) (hs : s.natAbs = 1) :
    ∃ Y, frM chQ 2 2 xs = ((2, Y), 0) ∧ ∀ ys, ys.map ck = Y → Four U ys (a1 * s) (a2 * s) ((a1 * d1 - a2 * d2 - b1 * s) * s) ((a1 * d2 + a2 * d1 - b2 * s) * s) s 0 (d1 * s) (d2 * s) := by
  have ht := h.tak
  obtain ⟨A, B, C, D, rfl, hA, hB, hC, hD⟩ := h
  have hO : isC U (fc 4607182418800017408, fc 0) 1 0 := by
    have h1 : isW U 4607182418800017408 1 := isW1 hU
    exact ⟨by rw [isW_fc h1]; exact h1, by rw [isW_fc (isW0 U)]; exact isW0 U⟩
  obtain ⟨k1, k2, k3, k4⟩ := ch_whole hU hO hA hB hC hD ha hb (Nat.le_refl _) hd hs
  rw [frM_good ht rfl, isC_ck hA, isC_ck hB, isC_ck hC, isC_ck hD]
  unfold chQ
  rw [if_neg (by rw [unit_ne hC hs]; simp)]
  exact told_four k1 k2 k3 k4
theorem ch_four_back (hU : U = 1074) (h : Four U xs (a1 * s) (a2 * s) ((a1 * d1 - a2 * d2 - b1 * s) * s) ((a1 * d2 + a2 * d1 - b2 * s) * s) s 0 (d1 * s) (d2 * s))
    (ha : a1.natAbs ≤ 2 ^ 20 ∧ a2.natAbs ≤ 2 ^ 20) (hb : b1.natAbs ≤ 2 ^ 20 ∧ b2.natAbs ≤ 2 ^ 20) (hd : d1.natAbs ≤ 2 ^ 20 ∧ d2.natAbs ≤ 2 ^ 20) (hs : s.natAbs = 1) :
    ∃ Y, frM chQ 2 2 xs = ((2, Y), 0) ∧ ∀ ys, ys.map ck = Y → Four U ys a1 a2 b1 b2 s 0 d1 d2 := by
  have hq := sq_one hs
  have q1 : ∀ t : Int, t * s * s = t := fun t => by rw [Int.mul_assoc, hq, Int.mul_one]
  have n1 := abs_le_mul ha.1 hd.1
  have n2 := abs_le_mul ha.2 hd.2
  have n3 := abs_le_mul ha.1 hd.2
  have n4 := abs_le_mul ha.2 hd.1
  have n5 : (b1 * s).natAbs = b1.natAbs := abs_unit hs
  have n6 : (b2 * s).natAbs = b2.natAbs := abs_unit hs
  have p20 : (2 : Nat) ^ 20 * 2 ^ 20 = 2 ^ 40 := by decide
  have p45 : (2 : Nat) ^ 45 = 32 * 2 ^ 40 := by decide
  have p40 : (2 : Nat) ^ 40 = 1048576 * 2 ^ 20 := by decide
  have p21 : (2 : Nat) ^ 21 = 2 * 2 ^ 20 := by decide
  obtain ⟨Y, g1, g2⟩ := ch_four hU h ⟨by rw [abs_unit hs]; omega, by rw [abs_unit hs]; omega⟩ ⟨by rw [abs_unit hs]; omega, by rw [abs_unit hs]; omega⟩ ⟨by rw [abs_unit hs]; omega, by rw [abs_unit hs]; omega⟩ hs
  refine ⟨Y, g1, fun ys hy => ?_⟩
  have h3 := g2 ys hy
  have e1 : (a1 * s * (d1 * s) - a2 * s * (d2 * s) - (a1 * d1 - a2 * d2 - b1 * s) * s * s) * s = b1 := by
    have : (a1 * s * (d1 * s) - a2 * s * (d2 * s) - (a1 * d1 - a2 * d2 - b1 * s) * s * s) * s = b1 * (s * s) * (s * s) := by grind
    rw [this, hq, Int.mul_one, Int.mul_one]
  have e2 : (a1 * s * (d2 * s) + a2 * s * (d1 * s) - (a1 * d2 + a2 * d1 - b2 * s) * s * s) * s = b2 := by
    have : (a1 * s * (d2 * s) + a2 * s * (d1 * s) - (a1 * d2 + a2 * d1 - b2 * s) * s * s) * s = b2 * (s * s) * (s * s) := by grind
    rw [this, hq, Int.mul_one, Int.mul_one]
  rw [q1, q1, e1, e2, q1, q1] at h3
  exact h3
/-- The idle two-port, behind or ahead. -/
theorem idle_four (hU : U = 1074) {A B C D O Z : Cx} (hO : isC U O 1 0) (hZ : isC U Z 0 0) (hA : isC U A a1 a2) (hB : isC U B b1 b2) (hC : isC U C c1 c2) (hD : isC U D d1 d2)
    (ha : a1.natAbs ≤ 2 ^ 45 ∧ a2.natAbs ≤ 2 ^ 45) (hb : b1.natAbs ≤ 2 ^ 45 ∧ b2.natAbs ≤ 2 ^ 45) (hc : c1.natAbs ≤ 2 ^ 45 ∧ c2.natAbs ≤ 2 ^ 45) (hd : d1.natAbs ≤ 2 ^ 45 ∧ d2.natAbs ≤ 2 ^ 45) :
    (∀ ys, ys.map ck = prodL (elK A B C D) (elK O Z Z O) → Four U ys a1 a2 b1 b2 c1 c2 d1 d2) ∧ (∀ ys, ys.map ck = prodL (elK O Z Z O) (elK A B C D) → Four U ys a1 a2 b1 b2 c1 c2 d1 d2) ∧
    (∀ z ∈ prodL (elK A B C D) (elK O Z Z O), cfin z = true) ∧ ∀ z ∈ prodL (elK O Z Z O) (elK A B C D), cfin z = true := by
  have z0 : isC U (fc 0, fc 0) 0 0 := ⟨by rw [isW_fc (isW0 U)]; exact isW0 U, by rw [isW_fc (isW0 U)]; exact isW0 U⟩
  have key : ∀ {P Q : Cx} {p1 p2 q1 q2 : Int}, isC U P p1 p2 → isC U Q q1 q2 → (p1.natAbs ≤ 2 ^ 45 ∧ p2.natAbs ≤ 2 ^ 45) → (q1.natAbs ≤ 2 ^ 45 ∧ q2.natAbs ≤ 2 ^ 45) →
      (isC U (cadd (cadd (fc 0, fc 0) (cmul (ck P) (ck O))) (cmul (ck Q) (ck Z))) p1 p2 ∧ isC U (cadd (cadd (fc 0, fc 0) (cmul (ck P) (ck Z))) (cmul (ck Q) (ck O))) q1 q2) ∧
      (isC U (cadd (cadd (fc 0, fc 0) (cmul (ck O) (ck P))) (cmul (ck Z) (ck Q))) p1 p2 ∧ isC U (cadd (cadd (fc 0, fc 0) (cmul (ck Z) (ck P))) (cmul (ck O) (ck Q))) q1 q2) := by
    intro P Q p1 p2 q1 q2 hP hQ bp bq
    rw [isC_ck hP, isC_ck hQ, isC_ck hO, isC_ck hZ]
    obtain ⟨k1, k2⟩ := dot_whole hU z0 hP hQ hO hZ (.inr rfl) (.inl rfl) bp bq (Nat.le_refl _)
    obtain ⟨k3, k4⟩ := dot_whole hU z0 hP hQ hZ hO (.inl rfl) (.inr rfl) bp bq (Nat.le_refl _)
    exact ⟨⟨isC_to k1 (by omega) (by omega), isC_to k3 (by omega) (by omega)⟩, ⟨isC_to k2 (by omega) (by omega), isC_to k4 (by omega) (by omega)⟩⟩
  obtain ⟨⟨r1, r2⟩, _⟩ := key hA hB ha hb
  obtain ⟨⟨r3, r4⟩, _⟩ := key hC hD hc hd
  obtain ⟨_, l1, l3⟩ := key hA hC ha hc
  obtain ⟨_, l2, l4⟩ := key hB hD hb hd
  refine ⟨fun ys h => four_of h r1 r2 r3 r4, fun ys h => four_of h l1 l2 l3 l4, fun z hz => ?_, fun z hz => ?_⟩
  · rcases List.mem_cons.1 hz with rfl | hz
    · exact isC_fin r1
    rcases List.mem_cons.1 hz with rfl | hz
    · exact isC_fin r2
    rcases List.mem_cons.1 hz with rfl | hz
    · exact isC_fin r3
    obtain rfl := List.mem_singleton.1 hz
    exact isC_fin r4
  · rcases List.mem_cons.1 hz with rfl | hz
    · exact isC_fin l1
    rcases List.mem_cons.1 hz with rfl | hz
    · exact isC_fin l2
    rcases List.mem_cons.1 hz with rfl | hz
    · exact isC_fin l3
    obtain rfl := List.mem_singleton.1 hz
    exact isC_fin l4
end
/-- Complex numbers multiplied and added as the language has it, where nothing is NaN. -/
theorem fop_some {op : BinOp} {x y : Nat} (h : ffin (fop op x y) = true) : floatBits op .f64 x y = some (fop op x y) := by
  unfold fop at h ⊢
  cases hb : floatBits op .f64 x y with
  | some r => rfl
  | none => rw [hb] at h; exact absurd h (by decide +kernel)
theorem run_cadd {P : Program} (t : TypeId) {a b c d : Nat} (h1 : ffin (fadd a c) = true) (h2 : ffin (fadd b d) = true) (w : World) : (binOp .add t (.complex .f64 a b) (.complex .f64 c d)).run P w = .ok (.complex .f64 (fadd a c) (fadd b d)) w := by
  have e1 := fop_some (op := .add) h1
  have e2 := fop_some (op := .add) h2
  simp only [floatBits] at e1 e2
  simp [binOp, Op.complexOp, Op.Complex.arith, Op.floatArith, e1, e2, Sem.run_bind, Result.andThen]
  exact ⟨rfl, rfl⟩
theorem run_cmul {P : Program} (t : TypeId) {a b c d : Nat} (h1 : ffin (fmul a c) = true) (h2 : ffin (fmul b d) = true) (h3 : ffin (fmul a d) = true) (h4 : ffin (fmul b c) = true) (h5 : ffin (fsub (fmul a c) (fmul b d)) = true) (h6 : ffin (fadd (fmul a d) (fmul b c)) = true) (w : World) :
    (binOp .mul t (.complex .f64 a b) (.complex .f64 c d)).run P w = .ok (.complex .f64 (fsub (fmul a c) (fmul b d)) (fadd (fmul a d) (fmul b c))) w := by
  have e1 := fop_some (op := .mul) h1
  have e2 := fop_some (op := .mul) h2
  have e3 := fop_some (op := .mul) h3
  have e4 := fop_some (op := .mul) h4
  have e5 := fop_some (op := .sub) h5
  have e6 := fop_some (op := .add) h6
  simp only [floatBits] at e1 e2 e3 e4 e5 e6
  simp [binOp, Op.complexOp, Op.Complex.product, Op.Complex.mul, Op.Complex.sub, Op.Complex.add, Op.Complex.conv, Op.Complex.arith, Op.floatArith, e1, e2, e3, e4, Sem.run_bind, Result.andThen]
  simp [fmul] at e5 e6 ⊢
  simp [e5, e6]
  exact ⟨rfl, rfl⟩
end Go.Proofs.YtdepiggjneoopaaGreatDoor
