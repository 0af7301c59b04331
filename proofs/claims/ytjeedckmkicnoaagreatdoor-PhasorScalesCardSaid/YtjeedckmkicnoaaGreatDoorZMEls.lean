/- a part of the proof of the last text -/
import Derived.Test.YtjeedckmkicnoaaGreatDoorZMParts
namespace Go.Proofs.YtjeedckmkicnoaaGreatDoor
set_option linter.all false
set_option maxHeartbeats 4000000
set_option maxRecDepth 100000
section
open Go.RowKit
/-- The rest of a word by a number that is not 0, the rest under a name. -/
theorem wpList_rem {P : Program} {ops : Array Oper} {Q : Exit → Act → World → Prop} {a : Act} {w : World} {rest : List Oper} {o : Oper}
    (hw : Region.wanted o (yielded ops a.tmps) = true) (t : TypeId) (x' y' : Operand) (t' : TypeId) (ho : o.op = .binOp .rem t x' y' t') (x y z : Int) (hy0 : ¬ y = 0) (hz : x.tmod y = z)
    (hx : a.eval x' = .int .u64 x) (hy : a.eval y' = .int .u64 y)
    (h : wpList P ops Q rest (a.put o.dst (.int .u64 z)) w) : wpList P ops Q (o :: rest) a w := by
  refine wpList_step fun K hK => ?_
  rw [if_pos hw]
  have hr : (binOp .rem t (.int .u64 x) (.int .u64 y)).run P w = .ok (.int .u64 z) w := by
    rw [binOp_rem]
    unfold Op.intDiv
    rw [if_neg hy0, hz]; rfl
  have := hK _ _ h
  simpa [Oper.wp, Oper.upon, execOp, eqGuard, ho, hx, hy, hr] using this
theorem tmod63 (x : Nat) : Int.tmod (x : Int) 9223372036854775808 = ((fsize x : Nat) : Int) := by
  rw [Int.tmod_eq_emod_of_nonneg (by omega)]; unfold fsize; omega
/-- What a real is: 0 a nought, 1 below the normal ones, 2 normal, 3 an infinity, 4 no number. -/
def kindZ (z : Int) : Int := if z = 0 then 0 else if z < 4503599627370496 then 1 else if z < 9218868437227405312 then 2 else if z = 9218868437227405312 then 3 else 4
def kindF (x : Nat) : Int := kindZ (fsize x)
theorem kindZ_cases (z : Int) : (z = 0 ∧ kindZ z = 0) ∨ (¬ z = 0 ∧ z < 4503599627370496 ∧ kindZ z = 1) ∨ (¬ z = 0 ∧ ¬ z < 4503599627370496 ∧ z < 9218868437227405312 ∧ kindZ z = 2) ∨
    (¬ z = 0 ∧ ¬ z < 4503599627370496 ∧ ¬ z < 9218868437227405312 ∧ z = 9218868437227405312 ∧ kindZ z = 3) ∨ (¬ z = 0 ∧ ¬ z < 4503599627370496 ∧ ¬ z < 9218868437227405312 ∧ ¬ z = 9218868437227405312 ∧ kindZ z = 4) := by
  unfold kindZ
  split
  · omega
  · split
    · omega
    · split
      · omega
      · split <;> omega
theorem ret_int {k : IntKind} {a b : Int} (h : a = b) : Ending.returned (.int k a) = .returned (.int k b) := by rw [h]
theorem kz0 {z : Int} (h : (z == 0) = true) : kindZ z = 0 := by have := eq_of_beq h; simp [kindZ, this]
theorem kz1 {z : Int} (h : (z == 0) = false) (h1 : z < 4503599627370496) : kindZ z = 1 := by have := beq_eq_false_iff_ne.1 h; rcases kindZ_cases z with c | c | c | c | c <;> omega
theorem kz2 {z : Int} (h : (z == 0) = false) (h1 : 4503599627370496 ≤ z) (h2 : z < 9218868437227405312) : kindZ z = 2 := by have := beq_eq_false_iff_ne.1 h; rcases kindZ_cases z with c | c | c | c | c <;> omega
theorem kz3 {z : Int} (h : (z == 9218868437227405312) = true) : kindZ z = 3 := by have := eq_of_beq h; rcases kindZ_cases z with c | c | c | c | c <;> omega
theorem kz4 {z : Int} (h : (z == 0) = false) (_ : 4503599627370496 ≤ z) (h2 : 9218868437227405312 ≤ z) (h3 : (z == 9218868437227405312) = false) : kindZ z = 4 := by have := beq_eq_false_iff_ne.1 h; have := beq_eq_false_iff_ne.1 h3; rcases kindZ_cases z with c | c | c | c | c <;> omega
set_option maxRecDepth 100000 in
set_option maxHeartbeats 1000000 in
theorem kind01_any (x : Nat) (w : World) : Calls Tryz.prog 86 #[.float .f64 x] w fun e w' => e = .returned (.int .i64 (kindF x)) ∧ w = w' := by
  have b1 := bits_law
  obtain ⟨z, hz⟩ : ∃ z : Int, ((fsize x : Nat) : Int) = z := ⟨_, rfl⟩
  have HZ := hid (show Int.tmod (x : Int) 9223372036854775808 = z by rw [tmod63, hz])
  unfold kindF
  rw [hz]
  clear hz
  go_enter Tryz.func86, Tryz.ntmps86
  go_wp2_with (refine wpList_rem rfl _ _ _ _ rfl _ _ z (by decide) (HZ.out) rfl rfl ?_)
  all_goals (try rw [Exit.noGoto_ret])
  all_goals go_ret
  · exact ⟨ret_int (kz0 ‹_›).symm, rfl⟩
  · exact ⟨ret_int (kz1 ‹_› ‹_›).symm, rfl⟩
  · exact ⟨ret_int (kz2 ‹_› ‹_› ‹_›).symm, rfl⟩
  · exact ⟨ret_int (kz3 ‹_›).symm, rfl⟩
  · exact ⟨ret_int (kz4 ‹_› ‹_› ‹_› ‹_›).symm, rfl⟩
theorem kind_exp (x : Nat) (hx : x < 18446744073709551616) : bits .and .u64 ((x : Int) / 4503599627370496) 2047 = ((fsize x : Nat) : Int) / 4503599627370496 := by
  have h1 : (x : Int) / 4503599627370496 = ((x / 4503599627370496 : Nat) : Int) := by omega
  rw [h1, show (2047 : Int) = ((2047 : Nat) : Int) from rfl, u64_and_nat _ _ (by omega) (by decide), show (2047 : Nat) = 2 ^ 11 - 1 from rfl, Nat.and_two_pow_sub_one_eq_mod]
  unfold fsize; omega
theorem kind_rest (x : Nat) : IntKind.u64.wrap ((x : Int) * 4096) = (((fsize x : Nat) : Int) % 4503599627370496) * 4096 := by
  rw [IntKind.wrap_u64]
  unfold fsize; omega
theorem kz_exp {z ex rs : Int} (h0 : 0 ≤ z) (h9 : z < 9223372036854775808) (h : z / 4503599627370496 = ex) (hr : z % 4503599627370496 * 4096 = rs) :
    ((ex == 0) = true ∧ (rs == 0) = true ∧ kindZ z = 0) ∨ ((ex == 0) = true ∧ (rs == 0) = false ∧ kindZ z = 1) ∨ ((ex == 0) = false ∧ ex < 2047 ∧ kindZ z = 2) ∨ ((ex == 0) = false ∧ ¬ ex < 2047 ∧ (rs == 0) = true ∧ kindZ z = 3) ∨ ((ex == 0) = false ∧ ¬ ex < 2047 ∧ (rs == 0) = false ∧ kindZ z = 4) := by
  have hc := kindZ_cases z
  cases e1 : (ex == 0)
  · have g1 := beq_eq_false_iff_ne.1 e1
    by_cases e2 : ex < 2047
    · exact .inr (.inr (.inl ⟨rfl, e2, by omega⟩))
    · cases e3 : (rs == 0)
      · have g3 := beq_eq_false_iff_ne.1 e3
        exact .inr (.inr (.inr (.inr ⟨rfl, e2, rfl, by omega⟩)))
      · have g3 := eq_of_beq e3
        exact .inr (.inr (.inr (.inl ⟨rfl, e2, rfl, by omega⟩)))
  · have g1 := eq_of_beq e1
    cases e3 : (rs == 0)
    · have g3 := beq_eq_false_iff_ne.1 e3
      exact .inr (.inl ⟨rfl, rfl, by omega⟩)
    · have g3 := eq_of_beq e3
      exact .inl ⟨rfl, rfl, by omega⟩
set_option maxRecDepth 100000 in
set_option maxHeartbeats 1000000 in
theorem kind_any (x : Nat) (w : World) (hx : x < 18446744073709551616) : Calls Tryz.prog 82 #[.float .f64 x] w fun e w' => e = .returned (.int .i64 (kindF x)) ∧ w = w' := by
  have b1 := bits_law
  obtain ⟨ex, hex⟩ : ∃ e, ((fsize x : Nat) : Int) / 4503599627370496 = e := ⟨_, rfl⟩
  obtain ⟨rs, hrs⟩ : ∃ e, ((fsize x : Nat) : Int) % 4503599627370496 * 4096 = e := ⟨_, rfl⟩
  have hb1 : bits .and .u64 ((x : Int) / 4503599627370496) 2047 = ex := by rw [kind_exp x hx, hex]
  have hb2 : IntKind.u64.wrap ((x : Int) * 4096) = rs := by rw [kind_rest, hrs]
  have hk := kz_exp (z := ((fsize x : Nat) : Int)) (by omega) (by have : fsize x < 9223372036854775808 := Nat.mod_lt _ (by decide); omega) hex hrs
  clear hx hex hrs
  rcases hk with ⟨h1, h2, h0⟩ | ⟨h1, h2, h0⟩ | ⟨h1, h2, h0⟩ | ⟨h1, h2, h3, h0⟩ | ⟨h1, h2, h3, h0⟩
  all_goals
    have H0 := hid h0
    clear h0
    go_enter Tryz.func82, Tryz.ntmps82
    go_wp2
    (try rw [Exit.noGoto_ret])
    go_ret
    exact ⟨ret_int H0.out.symm, rfl⟩
end
section
/- Elements: what they hold; what is wrong with one. -/
open Go.RowKit
/-- An element: its kind, its name, its nodes, its Value by its bits, its Phase. -/
structure El where
  kind : Int
  name : ByteArray
  a : ByteArray
  b : ByteArray
  c : ByteArray
  d : ByteArray
  val : Nat
  ph : Int
/-- It holds what may stand in memory. -/
structure El.Ok (e : El) : Prop where
  name : e.name.size ≤ maxLen
  a : e.a.size ≤ maxLen
  b : e.b.size ≤ maxLen
  c : e.c.size ≤ maxLen
  d : e.d.size ≤ maxLen
  val : e.val < 18446744073709551616
def ez (e : El) : List Value := [.int .u8 e.kind, .string e.name, .string e.a, .string e.b, .string e.c, .string e.d, .int .u64 e.val, .int .i64 e.ph]
def ea (e : El) : List Value := [.int .u8 e.kind, .string e.name, .string e.a, .string e.b, .string e.c, .string e.d, .float .f64 e.val, .int .i64 e.ph]
theorem ea_one (e : El) : ∀ u ∈ ea e, u.oneCell' = true := by intro u hu; simp [ea] at hu; rcases hu with rfl | rfl | rfl | rfl | rfl | rfl | rfl | rfl <;> rfl
/-- Is a name wrong? -/
def nameBad (e : El) : Bool := decide (nameK e.name = 0) || (nameK e.name != e.kind) || !nodeB e.a || !nodeB e.b || (kFo e.kind && (!nodeB e.c || !nodeB e.d))
/-- Does an element have what its kind does not use? -/
def argBad (e : El) : Bool := decide (e.a.toList = e.b.toList) || (!kFo e.kind && (!decide (e.c.toList = []) || !decide (e.d.toList = []))) || (!kPh e.kind && !decide (e.ph = 0))
def notAbove (x : Nat) : Bool := !(ford x 0 == some .gt)
/-- What is wrong with an element; 0: nothing. -/
def checkE (e : El) : Int :=
  if isK e.kind then if nameBad e then 8 else if argBad e then 2 else if 2 < kindF e.val then 5 else if kAb e.kind && notAbove e.val then 2 else 0 else 2
/-- The ways through the test of names. -/
theorem name_ways (e : El) : (nameK e.name = 0 ∧ nameBad e = true) ∨ (¬ nameK e.name = 0 ∧ (nameK e.name != e.kind) = true ∧ nameBad e = true) ∨
    (¬ nameK e.name = 0 ∧ (nameK e.name != e.kind) = false ∧ nodeB e.a = false ∧ nameBad e = true) ∨ (¬ nameK e.name = 0 ∧ (nameK e.name != e.kind) = false ∧ nodeB e.a = true ∧ nodeB e.b = false ∧ nameBad e = true) ∨
    (¬ nameK e.name = 0 ∧ (nameK e.name != e.kind) = false ∧ nodeB e.a = true ∧ nodeB e.b = true ∧ kFo e.kind = false ∧ nameBad e = false) ∨
    (¬ nameK e.name = 0 ∧ (nameK e.name != e.kind) = false ∧ nodeB e.a = true ∧ nodeB e.b = true ∧ kFo e.kind = true ∧ nodeB e.c = false ∧ nameBad e = true) ∨
    (¬ nameK e.name = 0 ∧ (nameK e.name != e.kind) = false ∧ nodeB e.a = true ∧ nodeB e.b = true ∧ kFo e.kind = true ∧ nodeB e.c = true ∧ nodeB e.d = false ∧ nameBad e = true) ∨
    (¬ nameK e.name = 0 ∧ (nameK e.name != e.kind) = false ∧ nodeB e.a = true ∧ nodeB e.b = true ∧ kFo e.kind = true ∧ nodeB e.c = true ∧ nodeB e.d = true ∧ nameBad e = false) := by
  unfold nameBad
  by_cases h0 : nameK e.name = 0
  · simp [h0]
  · cases (nameK e.name != e.kind) <;> cases nodeB e.a <;> cases nodeB e.b <;> cases kFo e.kind <;> cases nodeB e.c <;> cases nodeB e.d <;> simp [h0]
theorem arg_ways (e : El) : (e.a.toList = e.b.toList ∧ argBad e = true) ∨ (¬ e.a.toList = e.b.toList ∧ (e.a.toList == e.b.toList) = false ∧ kFo e.kind = false ∧ ¬ e.c.toList = [] ∧ argBad e = true) ∨
    (¬ e.a.toList = e.b.toList ∧ (e.a.toList == e.b.toList) = false ∧ kFo e.kind = false ∧ e.c.toList = [] ∧ ¬ e.d.toList = [] ∧ argBad e = true) ∨
    (¬ e.a.toList = e.b.toList ∧ (e.a.toList == e.b.toList) = false ∧ kFo e.kind = false ∧ e.c.toList = [] ∧ e.d.toList = [] ∧ kPh e.kind = true ∧ argBad e = false) ∨
    (¬ e.a.toList = e.b.toList ∧ (e.a.toList == e.b.toList) = false ∧ kFo e.kind = false ∧ e.c.toList = [] ∧ e.d.toList = [] ∧ kPh e.kind = false ∧ (e.ph != 0) = true ∧ argBad e = true) ∨
    (¬ e.a.toList = e.b.toList ∧ (e.a.toList == e.b.toList) = false ∧ kFo e.kind = false ∧ e.c.toList = [] ∧ e.d.toList = [] ∧ kPh e.kind = false ∧ (e.ph != 0) = false ∧ argBad e = false) ∨
    (¬ e.a.toList = e.b.toList ∧ (e.a.toList == e.b.toList) = false ∧ kFo e.kind = true ∧ kPh e.kind = true ∧ argBad e = false) ∨ (¬ e.a.toList = e.b.toList ∧ (e.a.toList == e.b.toList) = false ∧ kFo e.kind = true ∧ kPh e.kind = false ∧ (e.ph != 0) = true ∧ argBad e = true) ∨
    (¬ e.a.toList = e.b.toList ∧ (e.a.toList == e.b.toList) = false ∧ kFo e.kind = true ∧ kPh e.kind = false ∧ (e.ph != 0) = false ∧ argBad e = false) := by
  unfold argBad
  by_cases h1 : e.a.toList = e.b.toList <;> by_cases h2 : e.c.toList = [] <;> by_cases h3 : e.d.toList = [] <;> by_cases h4 : e.ph = 0 <;> cases kFo e.kind <;> cases kPh e.kind <;> simp [h1, h2, h3, h4]
def RetI (k : Int) (w : World) (en : Ending) (w' : World) : Prop := en = .returned (.int .i64 k) ∧ Below w.heap.size w w'
end
end Go.Proofs.YtjeedckmkicnoaaGreatDoor
