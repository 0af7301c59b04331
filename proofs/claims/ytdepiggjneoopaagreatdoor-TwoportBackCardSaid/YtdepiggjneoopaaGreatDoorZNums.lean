/- a part of the proof of the last text -/
import Derived.Test.YtdepiggjneoopaaGreatDoorZNumbers2
import Derived.Test.YtdepiggjneoopaaGreatDoorZOwns
namespace Go.Proofs.YtdepiggjneoopaaGreatDoor
set_option linter.all false
set_option maxHeartbeats 4000000
set_option maxRecDepth 100000
open Go.RowKit
/-- The cells of a number by its bits. -/
def zc (z : Cx) : List Value := [.int .u64 z.1, .int .u64 z.2]
theorem zc_get : ∀ (l : List Cx) (k : Nat), (l.flatMap zc)[k * 2]? = l[k]?.map (fun z => Value.int .u64 z.1) ∧ (l.flatMap zc)[k * 2 + 1]? = l[k]?.map (fun z => Value.int .u64 z.2)
  | [], k => by simp
  | z :: l, 0 => by simp [zc]
  | z :: l, k + 1 => by
    have := zc_get l k
    rw [show (k + 1) * 2 = k * 2 + 2 by omega, List.flatMap_cons]
    simpa [zc] using this
theorem zc_len (l : List Cx) : (l.flatMap zc).length = l.length * 2 := by
  induction l with
  | nil => rfl
  | cons z l ih => rw [List.flatMap_cons, List.length_append, ih, List.length_cons, Nat.add_mul]; simp [zc]; omega
/-- An element of some cells: where it lies, what it holds. -/
theorem IsSl.atN {P : Program} {t e size : Nat} {i : TypeInfo} (ht : P.underlying t = some (.slice e)) (hi : P.info? e = some i) (hs : i.size = size)
    {w : World} {a : Option Addr} {n c : Nat} {xs : List Value} (h : IsSl w size (.slice a n c) n xs) {k : Nat} (hk : k < n) :
    ∃ g o, (∀ w', (Instr.indexAt t (.slice a n c) (.int .i64 k)).run P w' = .ok (.pointer (some ⟨g, o, none⟩)) w') ∧ g < w.heap.size ∧ ∀ j, j < size → w.cell? ⟨g, o + j, none⟩ = xs[k * size + j]? := by
  rcases h.2 with ⟨_, h0⟩ | ⟨g, off, c', hv, hc, hg, hcell⟩
  · omega
  · cases hv
    refine ⟨g, off + k * size, fun w' => ?_, hg, fun j hj => ?_⟩
    · have he : P.elem t = e := by simp [Program.elem, ht]
      rw [run_indexAt_slice w' t _ n c .i64 k (by rw [he]; exact ht), if_pos ⟨by omega, by omega⟩, he]
      simp [sizeOf, typeInfo, hi, hs, Result.andThen, Addr.add]
    · rw [Nat.add_assoc]
      refine hcell _ ?_
      have := Nat.mul_le_mul_right size (show k + 1 ≤ n by omega)
      rw [Nat.add_mul] at this; omega
theorem InSl.atZ {P : Program} {t e : TypeId} {i : TypeInfo} (ht : P.underlying t = some (.slice e)) (hi : P.info? e = some i) (hs : i.size = 2)
    {w : World} {a : Option Addr} {n c : Nat} {l : List Cx} (h : InSl w 2 (.slice a n c) n (l.flatMap zc)) (hl : l.length = n) {k : Nat} (hk : k < n) :
    ∃ (g o x y : Nat), (∀ w', (Instr.indexAt t (.slice a n c) (.int .i64 k)).run P w' = .ok (.pointer (some ⟨g, o, none⟩)) w') ∧ g < w.heap.size ∧ w.cell? ⟨g, o, none⟩ = some (.int .u64 x) ∧ w.cell? ⟨g, o + 1, none⟩ = some (.int .u64 y) ∧ l[k]? = some (x, y) := by
  obtain ⟨g, o, h1, h2, h3⟩ := IsSl.atN (size := 2) ht hi hs (h.pos (by omega)) hk
  have hlk : l[k]? = some l[k] := List.getElem?_eq_getElem (by omega)
  refine ⟨g, o, l[k].1, l[k].2, h1, h2, ?_, ?_, hlk⟩
  · have := h3 0 (by decide)
    rw [Nat.add_zero, Nat.add_zero, (zc_get l k).1, hlk] at this; exact this
  · have := h3 1 (by decide)
    rw [(zc_get l k).2, hlk] at this; exact this
end Go.Proofs.YtdepiggjneoopaaGreatDoor
