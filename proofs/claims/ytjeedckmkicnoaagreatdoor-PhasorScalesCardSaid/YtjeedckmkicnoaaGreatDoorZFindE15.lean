/- a part of the proof of the last text -/
import Derived.Test.YtjeedckmkicnoaaGreatDoorZMNetAt
namespace Go.Proofs.YtjeedckmkicnoaaGreatDoor
set_option linter.all false
set_option maxHeartbeats 4000000
set_option maxRecDepth 100000
open Go.RowKit
def zEl : El := ⟨0, ⟨#[]⟩, ⟨#[]⟩, ⟨#[]⟩, ⟨#[]⟩, ⟨#[]⟩, 0, 0⟩
/-- The element of a name. -/
def findE (l : List El) (s : ByteArray) : Option El := l.find? fun e => e.name.toList == s.toList
def RetEB (x : El) (b : Bool) (w : World) (en : Ending) (w' : World) : Prop :=
  en = .returned (.tuple #[.agg #[.int .u8 x.kind, .string x.name, .string x.a, .string x.b, .string x.c, .string x.d, .float .f64 x.val, .int .i64 x.ph], .bool b]) ∧ Below w.heap.size w w'
theorem findE_no {l : List El} {s : ByteArray} (h : named l s = false) : findE l s = none := by
  unfold findE
  unfold named at h
  rw [List.find?_eq_none]
  intro x hx
  have := List.any_eq_false.1 h x hx
  simpa using this
theorem findE_at {l : List El} {s : ByteArray} {k : Nat} {x : El} (hn : named (l.take k) s = false) (h : l[k]? = some x) (hx : (x.name.toList == s.toList) = true) : findE l s = some x ∧ named l s = true :=
  ⟨(find_first l k x hn h hx).2.2, (find_first l k x hn h hx).2.1⟩
end Go.Proofs.YtjeedckmkicnoaaGreatDoor
