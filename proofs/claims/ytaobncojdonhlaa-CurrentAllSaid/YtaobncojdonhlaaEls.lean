/- Elements: what they hold; what is wrong with one. -/
import Derived.Test.YtaobncojdonhlaaNames
import Derived.Test.YtaobncojdonhlaaKindF
namespace Go.Proofs.Ytaobncojdonhlaa
open Go.RowKit

/-- An element: its kind, its name, its nodes, its Value by its bits, its Phase. -/
structure El where
  kind : Int
  name : ByteArray
  a : ByteArray
  b : ByteArray
  c : ByteArray
  d : ByteArray
  val : Nat
  ph : Int
/-- It holds what may stand in memory. -/
structure El.Ok (e : El) : Prop where
  name : e.name.size ≤ maxLen
  a : e.a.size ≤ maxLen
  b : e.b.size ≤ maxLen
  c : e.c.size ≤ maxLen
  d : e.d.size ≤ maxLen
  val : e.val < 18446744073709551616
def ez (e : El) : List Value := [.int .u8 e.kind, .string e.name, .string e.a, .string e.b, .string e.c, .string e.d, .int .u64 e.val, .int .i64 e.ph]
def ea (e : El) : List Value := [.int .u8 e.kind, .string e.name, .string e.a, .string e.b, .string e.c, .string e.d, .float .f64 e.val, .int .i64 e.ph]
theorem ea_one (e : El) : ∀ u ∈ ea e, u.oneCell' = true := by intro u hu; simp [ea] at hu; rcases hu with rfl | rfl | rfl | rfl | rfl | rfl | rfl | rfl <;> rfl

/-- Is a name wrong? -/
def nameBad (e : El) : Bool := decide (nameK e.name = 0) || (nameK e.name != e.kind) || !nodeB e.a || !nodeB e.b || (kFo e.kind && (!nodeB e.c || !nodeB e.d))
/-- Does an element have what its kind does not use? -/
def argBad (e : El) : Bool := decide (e.a.toList = e.b.toList) || (!kFo e.kind && (!decide (e.c.toList = []) || !decide (e.d.toList = []))) || (!kPh e.kind && !decide (e.ph = 0))
def notAbove (x : Nat) : Bool := !(ford x 0 == some .gt)
/-- What is wrong with an element; 0: nothing. -/
def checkE (e : El) : Int :=
  if isK e.kind then if nameBad e then 8 else if argBad e then 2 else if 2 < kindF e.val then 5 else if kAb e.kind && notAbove e.val then 2 else 0 else 2
/-- The ways through the test of names. -/
theorem name_ways (e : El) : (nameK e.name = 0 ∧ nameBad e = true) ∨ (¬ nameK e.name = 0 ∧ (nameK e.name != e.kind) = true ∧ nameBad e = true) ∨
    (¬ nameK e.name = 0 ∧ (nameK e.name != e.kind) = false ∧ nodeB e.a = false ∧ nameBad e = true) ∨ (¬ nameK e.name = 0 ∧ (nameK e.name != e.kind) = false ∧ nodeB e.a = true ∧ nodeB e.b = false ∧ nameBad e = true) ∨
    (¬ nameK e.name = 0 ∧ (nameK e.name != e.kind) = false ∧ nodeB e.a = true ∧ nodeB e.b = true ∧ kFo e.kind = false ∧ nameBad e = false) ∨
    (¬ nameK e.name = 0 ∧ (nameK e.name != e.kind) = false ∧ nodeB e.a = true ∧ nodeB e.b = true ∧ kFo e.kind = true ∧ nodeB e.c = false ∧ nameBad e = true) ∨
    (¬ nameK e.name = 0 ∧ (nameK e.name != e.kind) = false ∧ nodeB e.a = true ∧ nodeB e.b = true ∧ kFo e.kind = true ∧ nodeB e.c = true ∧ nodeB e.d = false ∧ nameBad e = true) ∨
    (¬ nameK e.name = 0 ∧ (nameK e.name != e.kind) = false ∧ nodeB e.a = true ∧ nodeB e.b = true ∧ kFo e.kind = true ∧ nodeB e.c = true ∧ nodeB e.d = true ∧ nameBad e = false) := by
  unfold nameBad
  by_cases h0 : nameK e.name = 0
  · simp [h0]
  · cases (nameK e.name != e.kind) <;> cases nodeB e.a <;> cases nodeB e.b <;> cases kFo e.kind <;> cases nodeB e.c <;> cases nodeB e.d <;> simp [h0]
theorem arg_ways (e : El) : (e.a.toList = e.b.toList ∧ argBad e = true) ∨ (¬ e.a.toList = e.b.toList ∧ (e.a.toList == e.b.toList) = false ∧ kFo e.kind = false ∧ ¬ e.c.toList = [] ∧ argBad e = true) ∨
    (¬ e.a.toList = e.b.toList ∧ (e.a.toList == e.b.toList) = false ∧ kFo e.kind = false ∧ e.c.toList = [] ∧ ¬ e.d.toList = [] ∧ argBad e = true) ∨
    (¬ e.a.toList = e.b.toList ∧ (e.a.toList == e.b.toList) = false ∧ kFo e.kind = false ∧ e.c.toList = [] ∧ e.d.toList = [] ∧ kPh e.kind = true ∧ argBad e = false) ∨
    (¬ e.a.toList = e.b.toList ∧ (e.a.toList == e.b.toList) = false ∧ kFo e.kind = false ∧ e.c.toList = [] ∧ e.d.toList = [] ∧ kPh e.kind = false ∧ (e.ph != 0) = true ∧ argBad e = true) ∨
    (¬ e.a.toList = e.b.toList ∧ (e.a.toList == e.b.toList) = false ∧ kFo e.kind = false ∧ e.c.toList = [] ∧ e.d.toList = [] ∧ kPh e.kind = false ∧ (e.ph != 0) = false ∧ argBad e = false) ∨
    (¬ e.a.toList = e.b.toList ∧ (e.a.toList == e.b.toList) = false ∧ kFo e.kind = true ∧ kPh e.kind = true ∧ argBad e = false) ∨ (¬ e.a.toList = e.b.toList ∧ (e.a.toList == e.b.toList) = false ∧ kFo e.kind = true ∧ kPh e.kind = false ∧ (e.ph != 0) = true ∧ argBad e = true) ∨
    (¬ e.a.toList = e.b.toList ∧ (e.a.toList == e.b.toList) = false ∧ kFo e.kind = true ∧ kPh e.kind = false ∧ (e.ph != 0) = false ∧ argBad e = false) := by
  unfold argBad
  by_cases h1 : e.a.toList = e.b.toList <;> by_cases h2 : e.c.toList = [] <;> by_cases h3 : e.d.toList = [] <;> by_cases h4 : e.ph = 0 <;> cases kFo e.kind <;> cases kPh e.kind <;> simp [h1, h2, h3, h4]
def RetI (k : Int) (w : World) (en : Ending) (w' : World) : Prop := en = .returned (.int .i64 k) ∧ Below w.heap.size w w'
end Go.Proofs.Ytaobncojdonhlaa
