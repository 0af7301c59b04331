/- a part of the proof of the last text -/
import Derived.Test.YtjeedckmkicnoaaGreatDoorZMPhas
namespace Go.Proofs.YtjeedckmkicnoaaGreatDoor
set_option linter.all false
set_option maxHeartbeats 4000000
set_option maxRecDepth 100000
open Go.RowKit
/-- A real with its sign turned. -/
def fneg (x : Nat) : Nat := fc (Op.negFloat .f64 x)
theorem xor_mod (x : Nat) : (x ^^^ 9223372036854775808) % 9223372036854775808 = x % 9223372036854775808 := by
  rw [show (9223372036854775808 : Nat) = 2 ^ 63 from by decide]
  apply Nat.eq_of_testBit_eq
  intro i
  rw [Nat.testBit_mod_two_pow, Nat.testBit_mod_two_pow, Nat.testBit_xor, Nat.testBit_two_pow]
  by_cases h : i < 63
  · have : ¬ 63 = i := by omega
    simp [h, this]
  · simp [h]
theorem fnan_neg (x : Nat) : fnan (Op.negFloat .f64 x) = fnan x := by
  rw [← fnan_fsize, ← fnan_fsize x]
  exact congrArg fnan (xor_mod x)
theorem fc_neg (x : Nat) : fc (Op.negFloat .f64 x) = fneg (fc x) := by
  unfold fneg
  cases h : fnan x
  · rw [fc_of_not h]
  · rw [fc_of_nan h, fc_of_nan ((fnan_neg x).trans h), fc_of_nan ((fnan_neg qnan).trans fnan_qnan)]
/-- A number, or 6 if it is not finite. -/
def fin6 (z : Cx) : Cx × Int := if cfin z = true then (z, 0) else ((fc 0, fc 0), 6)
def fone : Nat := fc 4607182418800017408
/-- What an element's admittance is: behind omega and the element have been looked at. -/
def admB (e : El) (o : Nat) : Cx × Int :=
  if (e.kind == 1 || e.kind == 8) = true then fin6 (fdiv fone (fc e.val), fc 0) else
  if (e.kind == 2) = true then (if ffin (fmul (fc o) (fc e.val)) = true then fin6 (fc 0, fneg (fdiv fone (fmul (fc o) (fc e.val)))) else ((fc 0, fc 0), 6)) else
  fin6 (fc 0, fmul (fc o) (fc e.val))
def isAd (e : El) : Bool := e.kind == 1 || e.kind == 8 || e.kind == 2 || e.kind == 3
def mayE (e : El) (o : Nat) : Int := if angE o = 0 then (if checkE e = 0 then (if isAd e = true then 0 else 2) else checkE e) else angE o
/-- An element's admittance, or what is wrong. -/
def admS (e : El) (o : Nat) : Cx × Int := if mayE e o = 0 then admB e o else ((fc 0, fc 0), mayE e o)
set_option maxHeartbeats 400000 in
theorem tang_any (o : Nat) (w : World) :
    Calls Tryz.prog 131 #[.float .f64 o] w (Ret (fun v => v = .int .i64 (angE o)) w) := by
  cases hf : ffin (fc o)
  · have HF := hid hf
    go_enter Tryz.func131, Tryz.ntmps131
    go_wp2_with (refine wpList_float rfl _ _ _ _ _ rfl rfl _ _ rfl rfl ?_; intro r n hr; have hq := neq_fin hr HF.out; simp only [Bool.not_false] at hq; clear hr)
    (try rw [Exit.noGoto_ret])
    go_ret
    exact ⟨_, _, rfl, rfl, by rw [ang_5 HF.out]; rfl⟩
  · have HF := hid hf
    cases hg : (FloatKind.f64.format.order o 0 == some .gt)
    · have HG := hid hg
      go_enter Tryz.func131, Tryz.ntmps131
      go_wp2_with (refine wpList_float rfl _ _ _ _ _ rfl rfl _ _ rfl rfl ?_; intro r n hr; have hq := neq_fin hr HF.out; simp only [Bool.not_true] at hq; clear hr)
      (try rw [Exit.noGoto_ret])
      go_ret
      exact ⟨_, _, rfl, rfl, by rw [ang_2 HF.out HG.out]; rfl⟩
    · have HG := hid hg
      go_enter Tryz.func131, Tryz.ntmps131
      go_wp2_with (refine wpList_float rfl _ _ _ _ _ rfl rfl _ _ rfl rfl ?_; intro r n hr; have hq := neq_fin hr HF.out; simp only [Bool.not_true] at hq; clear hr)
      (try rw [Exit.noGoto_ret])
      go_ret
      exact ⟨_, _, rfl, rfl, by rw [ang_0 HF.out HG.out]; rfl⟩
theorem ad_ways (e : El) : ((e.kind == 1) = true ∧ (e.kind != 1) = false) ∨
    ((e.kind == 1) = false ∧ (e.kind != 1) = true ∧ (e.kind == 8) = true ∧ (e.kind != 8) = false) ∨
    ((e.kind == 1) = false ∧ (e.kind != 1) = true ∧ (e.kind == 8) = false ∧ (e.kind != 8) = true ∧ (e.kind == 2) = true ∧ (e.kind != 2) = false ∧ (e.kind == 3) = false ∧ (e.kind != 3) = true) ∨
    ((e.kind == 1) = false ∧ (e.kind != 1) = true ∧ (e.kind == 8) = false ∧ (e.kind != 8) = true ∧ (e.kind == 2) = false ∧ (e.kind != 2) = true ∧ (e.kind == 3) = true ∧ (e.kind != 3) = false) ∨
    ((e.kind == 1) = false ∧ (e.kind != 1) = true ∧ (e.kind == 8) = false ∧ (e.kind != 8) = true ∧ (e.kind == 2) = false ∧ (e.kind != 2) = true ∧ (e.kind == 3) = false ∧ (e.kind != 3) = true) := by
  unfold bne
  by_cases h2 : e.kind = 2
  · rw [h2]; decide
  · have : (e.kind == 2) = false := by simpa using h2
    rw [this]
    cases (e.kind == 1) <;> cases (e.kind == 8) <;> cases (e.kind == 3) <;> simp
theorem may_ang {e : El} {o : Nat} (h : ¬ angE o = 0) : mayE e o = angE o := by unfold mayE; rw [if_neg h]
theorem may_chk {e : El} {o : Nat} (h : angE o = 0) (h2 : ¬ checkE e = 0) : mayE e o = checkE e := by unfold mayE; rw [if_pos h, if_neg h2]
theorem may_no {e : El} {o : Nat} (h : angE o = 0) (h2 : checkE e = 0) (h3 : isAd e = false) : mayE e o = 2 := by unfold mayE; rw [if_pos h, if_pos h2, if_neg (by rw [h3]; decide)]
theorem may_yes {e : El} {o : Nat} (h : angE o = 0) (h2 : checkE e = 0) (h3 : isAd e = true) : mayE e o = 0 := by unfold mayE; rw [if_pos h, if_pos h2, if_pos h3]
theorem adm_bad {e : El} {o : Nat} {k : Int} (h : mayE e o = k) (hk : ¬ k = 0) : admS e o = ((fc 0, fc 0), k) := by unfold admS; rw [if_neg (by rw [h]; exact hk), h]
theorem adm_good {e : El} {o : Nat} (h : mayE e o = 0) : admS e o = admB e o := by unfold admS; rw [if_pos h]
theorem fin6_yes {z : Cx} (h : cfin z = true) : fin6 z = (z, 0) := by unfold fin6; rw [if_pos h]
theorem fin6_no {z : Cx} (h : cfin z = false) : fin6 z = ((fc 0, fc 0), 6) := by unfold fin6; rw [if_neg (by rw [h]; decide)]
theorem fin_zero : ffin (fc 0) = true := by decide +kernel
/-- ref17's told: of no number more, or of one. -/
def toldS (b : Bool) (x : Nat) (ok : Bool) : Cx × Int := if (ok && ffin x) = true then ((if b = true then (fc 0, x) else (x, fc 0)), 0) else ((fc 0, fc 0), 6)
end Go.Proofs.YtjeedckmkicnoaaGreatDoor
