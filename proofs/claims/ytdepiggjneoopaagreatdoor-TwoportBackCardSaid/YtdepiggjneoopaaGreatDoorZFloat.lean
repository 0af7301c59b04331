/- a part of the proof of the last text -/
import Derived.WalkKit
import Derived.WalkSpells
import Derived.WalkLawsBesides
import Derived.Deep.QuietTactic
import Derived.BigQuiet
import Derived.Handy
import Derived.Deep.RegionHeld3
import Derived.Deep.DeepCutAuto
import Derived.Deep.LoopGhost
import Derived.Deep.DeepFit
namespace Go.Proofs.YtdepiggjneoopaaGreatDoor
set_option linter.all false
set_option maxHeartbeats 4000000
set_option maxRecDepth 100000
open Go.RowKit
theorem hid {p : Prop} (h : p) : Hid p := h
/-- Is it a NaN's bits? -/
def fnan (b : Nat) : Bool := (FloatKind.f64.format.read b).isNaN
/-- One NaN for all. -/
def qnan : Nat := 9221120237041090561
/-- A float, its NaN's bits forgotten. -/
def fc (b : Nat) : Nat := if fnan b then qnan else b
/-- What an operation gives, up to a NaN's bits. -/
def fop (op : BinOp) (x y : Nat) : Nat := (floatBits op .f64 x y).getD qnan
def fadd (x y : Nat) : Nat := fop .add x y
def fsub (x y : Nat) : Nat := fop .sub x y
def fmul (x y : Nat) : Nat := fop .mul x y
def fdiv (x y : Nat) : Nat := fop .quo x y
/-- How two floats stand to each other. -/
def ford (x y : Nat) : Option Ordering := FloatKind.f64.format.order x y
theorem fnan_qnan : fnan qnan = true := by decide +kernel
theorem fc_qnan : fc qnan = qnan := by simp [fc, fnan_qnan]
theorem fc_fc (x : Nat) : fc (fc x) = fc x := by
  by_cases h : fnan x = true
  · simp [fc, h, fnan_qnan]
  · simp [fc, h]
theorem fnan_fc (x : Nat) : fnan (fc x) = fnan x := by
  by_cases h : fnan x = true
  · simp [fc, h, fnan_qnan]
  · simp [fc, h]
theorem fc_of_not {x : Nat} (h : fnan x = false) : fc x = x := by simp [fc, h]
theorem fc_of_nan {x : Nat} (h : fnan x = true) : fc x = qnan := by simp [fc, h]
theorem fc_eq_qnan {x : Nat} : fc x = qnan ↔ fnan x = true := by
  constructor
  · intro h; rw [← fnan_fc, h]; exact fnan_qnan
  · exact fc_of_nan
theorem cut_arith (s u : Nat) (_ : s < 2) (h2 : u < 4503599627370495) : (s * 9223372036854775808 + 9218868437227405312 + 1 + u) % 9223372036854775808 = 9218868437227405313 + u := by omega
theorem read_high (x u : Nat) (hx : x % 9223372036854775808 = 9218868437227405313 + u) : fnan x = true := by
  have e1 : Ieee.double.signWeight = 9223372036854775808 := by decide
  have e2 : Ieee.double.binade = 4503599627370496 := by decide
  have e3 : Ieee.double.infRung = 9218868437227405312 := by decide
  simp only [fnan, FloatKind.format, Ieee.Format.read, e1, e2, e3, hx]
  rw [if_neg (by omega), if_neg (by omega), if_neg (by omega)]
  rfl
/-- What a choice of a NaN's bits gives. -/
theorem fnan_cut (t x y : Nat) : fnan ((Question.nanBits .f64 x y).cut t) = true := by
  have h1 : t % 2 < 2 := Nat.mod_lt _ (by decide)
  have h2 : t / 2 % (2 ^ 52 - 1) < 4503599627370495 := Nat.mod_lt _ (by decide)
  exact read_high _ _ (cut_arith _ _ h1 h2)
theorem read_nan {x : Nat} (h : fnan x = true) : ∃ s t, FloatKind.f64.format.read x = .nan s t := by
  unfold fnan at h
  cases hx : FloatKind.f64.format.read x with
  | nan s t => exact ⟨s, t, rfl⟩
  | number s m e => rw [hx] at h; cases h
  | infinity s => rw [hx] at h; cases h
theorem bits_nan_left {op : BinOp} {x y : Nat} (h : fnan x = true) : floatBits op .f64 x y = none := by
  obtain ⟨s, t, e⟩ := read_nan h
  cases op <;> simp [floatBits, Ieee.Format.add, Ieee.Format.sub, Ieee.Format.mul, Ieee.Format.div, e, Ieee.Datum.sum, Ieee.Datum.product, Ieee.Datum.quotient]
theorem bits_nan_right {op : BinOp} {x y : Nat} (h : fnan y = true) : floatBits op .f64 x y = none := by
  obtain ⟨s, t, e⟩ := read_nan h
  cases op <;> simp [floatBits, Ieee.Format.add, Ieee.Format.sub, Ieee.Format.mul, Ieee.Format.div, e] <;>
    cases FloatKind.f64.format.read x <;> simp [Ieee.Datum.sum, Ieee.Datum.product, Ieee.Datum.quotient, Ieee.Datum.opposite]
theorem bits_fc (op : BinOp) (x y : Nat) : floatBits op .f64 (fc x) (fc y) = floatBits op .f64 x y := by
  by_cases hx : fnan x = true
  · rw [bits_nan_left (x := x) hx, bits_nan_left (by rw [fnan_fc]; exact hx)]
  · by_cases hy : fnan y = true
    · rw [bits_nan_right (y := y) hy, bits_nan_right (by rw [fnan_fc]; exact hy)]
    · rw [fc_of_not (by simpa using hx), fc_of_not (by simpa using hy)]
theorem nearest_le (neg : Bool) (m : Nat) (e : Int) : ∃ r, r ≤ Ieee.double.infRung ∧ Ieee.double.nearest neg m e = Ieee.double.word neg r := by
  unfold Ieee.Format.nearest
  split
  · exact ⟨0, Nat.zero_le _, rfl⟩
  · exact ⟨_, Nat.min_le_right _ _, rfl⟩
theorem word_not_nan (neg : Bool) (r : Nat) (h : r ≤ Ieee.double.infRung) : (Ieee.double.read (Ieee.double.word neg r)).isNaN = false := by
  have hi : Ieee.double.infRung = 9218868437227405312 := by decide
  rw [hi] at h
  have hm : Ieee.double.word neg r % Ieee.double.signWeight = r := by
    cases neg <;> simp [Ieee.Format.word, Ieee.Format.signWeight, Ieee.double] <;> omega
  simp only [Ieee.Format.read, hm]
  split
  · rfl
  · split
    · rfl
    · rw [if_pos (by rw [hi] at *; omega)]; rfl
theorem write_not_nan (d : Ieee.Datum) (h : d.isNaN = false) : (Ieee.double.read (Ieee.double.write d)).isNaN = false := by
  cases d with
  | nan => cases h
  | infinity s => exact word_not_nan s _ (Nat.le_refl _)
  | number s m e =>
    obtain ⟨r, hr, he⟩ := nearest_le s m e
    show (Ieee.double.read (Ieee.double.nearest s m e)).isNaN = false
    rw [he]; exact word_not_nan s r hr
theorem sum_not_nan {d e r : Ieee.Datum} (h : d.sum e = some r) : r.isNaN = false := by
  unfold Ieee.Datum.sum at h
  split at h
  · cases h
  · cases h
  · split at h <;> cases h; rfl
  · cases h; rfl
  · cases h; rfl
  · cases h; rfl
theorem product_not_nan {d e r : Ieee.Datum} (h : d.product e = some r) : r.isNaN = false := by
  unfold Ieee.Datum.product at h
  split at h
  · cases h
  · cases h
  · cases h; rfl
  · split at h <;> cases h; rfl
  · split at h <;> cases h; rfl
  · cases h; rfl
theorem quotient_not_nan {n : Nat} {d e r : Ieee.Datum} (h : d.quotient n e = some r) : r.isNaN = false := by
  unfold Ieee.Datum.quotient at h
  split at h
  · cases h
  · cases h
  · cases h
  · cases h; rfl
  · cases h; rfl
  · split at h
    · split at h <;> cases h; rfl
    · cases h; rfl
/-- A valid operation gives no NaN. -/
theorem bits_not_nan {op : BinOp} {x y r : Nat} (h : floatBits op .f64 x y = some r) : fnan r = false := by
  unfold floatBits at h
  have key : ∀ o : Option Ieee.Datum, (∀ d, o = some d → d.isNaN = false) → o.map Ieee.double.write = some r → fnan r = false := by
    intro o ho he
    cases o with
    | none => cases he
    | some d => cases he; exact write_not_nan d (ho d rfl)
  split at h
  · exact key _ (fun _ => sum_not_nan) h
  · exact key _ (fun _ => sum_not_nan) h
  · exact key _ (fun _ => product_not_nan) h
  · exact key _ (fun _ => quotient_not_nan) h
  · cases h
theorem fop_fc (op : BinOp) (x y : Nat) : fop op (fc x) (fc y) = fop op x y := by unfold fop; rw [bits_fc]
theorem fc_fop (op : BinOp) (x y : Nat) : fc (fop op x y) = fop op x y := by
  unfold fop
  cases h : floatBits op .f64 x y with
  | none => exact fc_qnan
  | some r => exact fc_of_not (bits_not_nan h)
theorem order_nan_left {x y : Nat} (h : fnan x = true) : ford x y = none := by
  obtain ⟨s, t, e⟩ := read_nan h
  simp [ford, Ieee.Format.order, e, Ieee.Datum.order]
theorem order_nan_right {x y : Nat} (h : fnan y = true) : ford x y = none := by
  obtain ⟨s, t, e⟩ := read_nan h
  simp only [ford, Ieee.Format.order, e]
  cases FloatKind.f64.format.read x <;> rfl
theorem ford_fc (x y : Nat) : ford (fc x) (fc y) = ford x y := by
  by_cases hx : fnan x = true
  · rw [order_nan_left (x := x) hx, order_nan_left (by rw [fnan_fc]; exact hx)]
  · by_cases hy : fnan y = true
    · rw [order_nan_right (y := y) hy, order_nan_right (by rw [fnan_fc]; exact hy)]
    · rw [fc_of_not (by simpa using hx), fc_of_not (by simpa using hy)]
theorem ford_self (x : Nat) : (ford x x == some .eq) = !fnan x := by
  unfold ford fnan Ieee.Format.order
  cases h : FloatKind.f64.format.read x with
  | nan s t => rfl
  | infinity s => simp [Ieee.Datum.order, Ieee.Datum.isNaN]
  | number s m e => simp [Ieee.Datum.order, Ieee.Datum.isNaN]
/-- The laws of the walk: whatever comes in, what comes out is the operation's, up to a NaN's bits, and at most one draw was made. -/
theorem run_float_any {P : Program} (op : BinOp) (hop : op = .add ∨ op = .sub ∨ op = .mul ∨ op = .quo) (t : TypeId) (x y : Nat) (w : World) :
    ∃ r n, (binOp op t (.float .f64 x) (.float .f64 y)).run P w = .ok (.float .f64 r) (w.drewN n) ∧ fc r = fop op (fc x) (fc y) := by
  rw [fop_fc]
  cases h : floatBits op .f64 x y with
  | some r => exact ⟨r, 0, run_float_arith w op t .f64 x y r h, by rw [fc_of_not (bits_not_nan h)]; simp [fop, h]⟩
  | none =>
    refine ⟨(Question.nanBits .f64 x y).cut (w.tape w.drawn (.nanBits .f64 x y)), 1, ?_, by rw [fc_of_nan (fnan_cut _ _ _)]; simp [fop, h]⟩
    rcases hop with rfl | rfl | rfl | rfl <;> simp only [floatBits] at h <;> simp [binOp, Op.floatArith, h, choose, Sem.run, Question.forced] <;> rfl
/-- The six operations that may draw a NaN. -/
def drawsOp : BinOp → Bool
  | .add | .sub | .mul | .quo => true
  | _ => false
theorem wpList_float {P : Program} {ops : Array Oper} {Q : Exit → Act → World → Prop} {a : Act} {w : World} {rest : List Oper} {o : Oper}
    (hw : Region.wanted o (yielded ops a.tmps) = true) (op : BinOp) (t : TypeId) (x' y' : Operand) (t' : TypeId) (ho : o.op = .binOp op t x' y' t') (hop : drawsOp op = true)
    (x y : Nat) (hx : a.eval x' = .float .f64 x) (hy : a.eval y' = .float .f64 y)
    (h : ∀ r n, fc r = fop op (fc x) (fc y) → wpList P ops Q rest (a.put o.dst (.float .f64 r)) (w.drewN n)) : wpList P ops Q (o :: rest) a w := by
  refine wpList_step fun K hK => ?_
  rw [if_pos hw]
  have hop' : op = .add ∨ op = .sub ∨ op = .mul ∨ op = .quo := by cases op <;> simp [drawsOp] at hop <;> simp
  obtain ⟨r, n, hr, hf⟩ := run_float_any (P := P) op hop' t x y w
  have := hK _ _ (h r n hf)
  rcases hop' with rfl | rfl | rfl | rfl <;> simpa [Oper.wp, Oper.upon, execOp, eqGuard, ho, hx, hy, hr] using this
/-! Sizes, and complex numbers of canonical parts. -/
def fsize (x : Nat) : Nat := x % 9223372036854775808
theorem fsize_walk (x : Nat) : (bits .andNot .u64 (x : Int) 9223372036854775808).toNat = fsize x := by
  have h : BitVec.ofInt 64 (x : Int) &&& ~~~(BitVec.ofInt 64 9223372036854775808) = BitVec.ofNat 64 (fsize x) := by
    have e : BitVec.ofInt 64 (x : Int) = BitVec.ofNat 64 x := by simp
    rw [e]
    apply BitVec.eq_of_getLsbD_eq
    intro i hi
    simp only [BitVec.getLsbD_and, BitVec.getLsbD_not, BitVec.getLsbD_ofNat, fsize]
    rw [show (9223372036854775808 : Nat) = 2 ^ 63 from by decide, Nat.testBit_mod_two_pow]
    have : (BitVec.ofInt 64 9223372036854775808).getLsbD i = decide (i = 63) := by
      have : ∀ j : Fin 64, (BitVec.ofInt 64 9223372036854775808).getLsbD j.val = decide (j.val = 63) := by decide
      exact this ⟨i, hi⟩
    rw [this]
    by_cases h63 : i = 63
    · subst h63; simp
    · have : i < 63 := by omega
      simp [hi, this, h63]
  have hlt : fsize x < 9223372036854775808 := Nat.mod_lt _ (by decide)
  show (IntKind.u64.wrap ((BitVec.ofInt 64 (x : Int) &&& ~~~(BitVec.ofInt 64 9223372036854775808)).toNat : Nat)).toNat = _
  rw [h, BitVec.toNat_ofNat, Nat.mod_eq_of_lt (by omega), IntWalk.u64_in _ ⟨by omega, by omega⟩]
  rfl
theorem fnan_fsize (x : Nat) : fnan (fsize x) = fnan x := by
  have e1 : Ieee.double.signWeight = 9223372036854775808 := by decide
  have e : fsize x % 9223372036854775808 = x % 9223372036854775808 := Nat.mod_mod _ _
  have key : ∀ y z : Nat, y % 9223372036854775808 = z % 9223372036854775808 → fnan y = fnan z := by
    intro y z hyz
    simp only [fnan, FloatKind.format, Ieee.Format.read, e1, hyz]
    split
    · rfl
    · split
      · rfl
      · split <;> rfl
  exact key _ _ e
theorem fc_fsize (x : Nat) : fc (fsize (fc x)) = fc (fsize x) := by
  by_cases h : fnan x = true
  · rw [fc_of_nan (x := fsize x) (by rw [fnan_fsize]; exact h), fc_of_nan (x := fsize (fc x)) (by rw [fnan_fsize, fnan_fc]; exact h)]
  · rw [fc_of_not (x := x) (by simpa using h)]
/-- The order of two sizes. -/
def fordz (x y : Nat) : Option Ordering := ford (fsize x) (fsize y)
theorem fordz_fc (x y : Nat) : fordz (fc x) (fc y) = fordz x y := by
  unfold fordz
  rw [← ford_fc (fsize (fc x)), fc_fsize, fc_fsize, ford_fc]
/-- A complex number, its parts canonical. -/
abbrev Cx := Nat × Nat
def cadd (a b : Cx) : Cx := (fadd a.1 b.1, fadd a.2 b.2)
def csub (a b : Cx) : Cx := (fsub a.1 b.1, fsub a.2 b.2)
def cmul (a b : Cx) : Cx := (fsub (fmul a.1 b.1) (fmul a.2 b.2), fadd (fmul a.1 b.2) (fmul a.2 b.1))
def cscale (x : Nat) (a : Cx) : Cx := (fmul x a.1, fmul x a.2)
def isGe (o : Option Ordering) : Bool := o == some .gt || o == some .eq
def cdiv (a b : Cx) : Cx :=
  if isGe (fordz b.1 b.2) then
    let r := fdiv b.2 b.1
    let t := fadd b.1 (fmul b.2 r)
    (fdiv (fadd a.1 (fmul a.2 r)) t, fdiv (fsub a.2 (fmul a.1 r)) t)
  else
    let r := fdiv b.1 b.2
    let t := fadd (fmul b.1 r) b.2
    (fdiv (fadd (fmul a.1 r) a.2) t, fdiv (fsub (fmul a.2 r) a.1) t)
/-- Neither an infinity nor a NaN: 'x - x == 0'. -/
def ffin (x : Nat) : Bool := ford (fsub x x) 0 == some .eq
def cfin (a : Cx) : Bool := ffin a.1 && ffin a.2
theorem ffin_fc (x : Nat) : ffin (fc x) = ffin x := by simp [ffin, fsub, fop_fc]
/-- What a pure function of numbers hands back: a value that meets S, after some draws. -/
def Ret (S : Value → Prop) (w : World) (e : Ending) (w' : World) : Prop := ∃ v n, e = .returned v ∧ w' = w.drewN n ∧ S v
/-- A float, up to a NaN's bits. -/
def IsF (x : Nat) (v : Value) : Prop := ∃ r, v = .float .f64 r ∧ fc r = x
/-- A complex number, up to the bits of NaNs. -/
def IsC (z : Cx) (v : Value) : Prop := ∃ r i, v = .complex .f64 r i ∧ (fc r, fc i) = z
/-- A function that may make memory: a value that meets S; nothing that was there has changed. -/
def RetB (S : Value → Prop) (w : World) (e : Ending) (w' : World) : Prop := ∃ v, e = .returned v ∧ Below w.heap.size w w' ∧ S v
/-- A complex number and an error. -/
def IsCE (z : Cx × Int) (v : Value) : Prop := ∃ r i k, v = .tuple #[.complex .f64 r i, .int .i64 k] ∧ ((fc r, fc i), k) = z
theorem fc_zero : fc 0 = 0 := fc_of_not (by decide +kernel)
theorem below_n {B : Nat} {a w : World} (h : Below B a w) (n : Nat) : Below B a (w.drewN n) := h.trans ⟨rfl, rfl, rfl, Nat.le_refl _, fun _ _ => rfl⟩
theorem cell_at_new {w : World} {n : Nat} {cs : Array Value} {t : TypeId} {fr : Nat × Nat} {i : Nat} {v : Value} (hn : w.heap.size = n) (h : cs[i]? = some v) :
    (w.alloc (.cells cs t fr)).cell? ⟨n, i, none⟩ = some v := by
  subst hn
  have : (w.alloc (.cells cs t fr)).heap[w.heap.size]? = some (.cells cs t fr) := heap_alloc_new w _
  unfold World.cell?
  rw [this]
  exact h
theorem cell_at_new_drew {w : World} {n : Nat} {cs : Array Value} {t : TypeId} {fr : Nat × Nat} {i : Nat} {v : Value} (hn : w.heap.size = n) (h : cs[i]? = some v) :
    (w.alloc (.cells cs t fr)).drew.cell? ⟨n, i, none⟩ = some v := cell_at_new hn h
/-- One contract more: of what was there at the beginning nothing has changed. -/
theorem below_step {w w1 w2 : World} (h : Below w.heap.size w w1) (k : Below w1.heap.size w1 w2) : Below w.heap.size w w2 := h.trans (k.mono h.size)
@[go_sem] theorem run_store_float {P : Program} {w : World} {a : Addr} {m : Mode} (k : FloatKind) (b : Nat) : (store a (.float k b) m).run P w = stored P w a (.float k b) m := run_store P w a _ m rfl
@[go_sem] theorem run_store_complex {P : Program} {w : World} {a : Addr} {m : Mode} (k : FloatKind) (b c : Nat) : (store a (.complex k b c) m).run P w = stored P w a (.complex k b c) m := run_store P w a _ m rfl
/-- What an operation gives in a world, its NaN's bits out of the tape. -/
def fval (op : BinOp) (x y : Nat) (w : World) : Nat := match floatBits op .f64 x y with | some r => r | none => (Question.nanBits .f64 x y).cut (w.tape w.drawn (.nanBits .f64 x y))
def fdr (op : BinOp) (x y : Nat) : Nat := if (floatBits op .f64 x y).isSome then 0 else 1
theorem run_fval {P : Program} (op : BinOp) (hop : drawsOp op = true) (t : TypeId) (x y : Nat) (w : World) :
    (binOp op t (.float .f64 x) (.float .f64 y)).run P w = .ok (.float .f64 (fval op x y w)) (w.drewN (fdr op x y)) := by
  cases h : floatBits op .f64 x y with
  | some r =>
    rw [run_float_arith w op t .f64 x y r h]
    simp [fval, fdr, h]; rfl
  | none =>
    have hop' : op = .add ∨ op = .sub ∨ op = .mul ∨ op = .quo := by cases op <;> simp [drawsOp] at hop <;> simp
    rcases hop' with rfl | rfl | rfl | rfl <;> (have h' := h; simp only [floatBits] at h'; simp [binOp, Op.floatArith, h', choose, Sem.run, Question.forced, fval, fdr, h]; rfl)
theorem run_fadd {P : Program} (t : TypeId) (x y : Nat) (w : World) : (binOp .add t (.float .f64 x) (.float .f64 y)).run P w = .ok (.float .f64 (fval .add x y w)) (w.drewN (fdr .add x y)) := run_fval .add rfl t x y w
theorem run_fsub {P : Program} (t : TypeId) (x y : Nat) (w : World) : (binOp .sub t (.float .f64 x) (.float .f64 y)).run P w = .ok (.float .f64 (fval .sub x y w)) (w.drewN (fdr .sub x y)) := run_fval .sub rfl t x y w
theorem run_fmul {P : Program} (t : TypeId) (x y : Nat) (w : World) : (binOp .mul t (.float .f64 x) (.float .f64 y)).run P w = .ok (.float .f64 (fval .mul x y w)) (w.drewN (fdr .mul x y)) := run_fval .mul rfl t x y w
theorem run_fquo {P : Program} (t : TypeId) (x y : Nat) (w : World) : (binOp .quo t (.float .f64 x) (.float .f64 y)).run P w = .ok (.float .f64 (fval .quo x y w)) (w.drewN (fdr .quo x y)) := run_fval .quo rfl t x y w
theorem fc_fval (op : BinOp) (x y : Nat) (w : World) : fc (fval op x y w) = fop op (fc x) (fc y) := by
  rw [fop_fc]
  unfold fval fop
  cases h : floatBits op .f64 x y with
  | some r => exact fc_of_not (bits_not_nan h)
  | none => exact fc_of_nan (fnan_cut _ _ _)
end Go.Proofs.YtdepiggjneoopaaGreatDoor
