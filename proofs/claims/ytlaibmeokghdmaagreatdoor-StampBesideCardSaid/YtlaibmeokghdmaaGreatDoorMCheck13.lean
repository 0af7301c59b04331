/- Walk of gridworkref15's Nodes. -/
import Derived.Test.YtlaibmeokghdmaaGreatDoorRef15
import Derived.Test.YtlaibmeokghdmaaGreatDoorMParts2
namespace Go.Proofs.YtlaibmeokghdmaaGreatDoor

section
open Go.RowKit

/-- Is it on the list? Is it no node's name? -/
def has (l : List ByteArray) (s : ByteArray) : Bool := l.any fun t => t.toList == s.toList
def gnd (s : ByteArray) : Bool := (s.toList == []) || (s.toList == [48])
def nd1 (acc : List ByteArray) (s : ByteArray) : List ByteArray := if (gnd s || has acc s) = true then acc else acc ++ [s]
def fr (e : El) : List ByteArray := [e.a, e.b, e.c, e.d]
def nd4 (acc : List ByteArray) (e : El) : List ByteArray := (fr e).foldl nd1 acc
def nds (l : List El) : List ByteArray := l.foldl nd4 []
theorem nd1_len (acc : List ByteArray) (s : ByteArray) : (nd1 acc s).length ≤ acc.length + 1 := by
  unfold nd1
  split <;> simp
theorem fold_len : ∀ (l acc : List ByteArray), (l.foldl nd1 acc).length ≤ acc.length + l.length
  | [], acc => by simp
  | s :: l, acc => by
    rw [List.foldl_cons, List.length_cons]
    have h1 := fold_len l (nd1 acc s)
    have h2 := nd1_len acc s
    omega
theorem nds_len_aux : ∀ (l : List El) (acc : List ByteArray), (l.foldl nd4 acc).length ≤ acc.length + 4 * l.length
  | [], acc => by simp
  | e :: l, acc => by
    rw [List.foldl_cons, List.length_cons]
    have h1 := nds_len_aux l (nd4 acc e)
    have h2 : (nd4 acc e).length ≤ acc.length + 4 := fold_len (fr e) acc
    omega
theorem nds_len (l : List El) : (nds l).length ≤ 4 * l.length := by have := nds_len_aux l []; simpa [nds] using this
theorem nds_take_len (l : List El) (k : Nat) : (nds (l.take k)).length ≤ 4 * k := Nat.le_trans (nds_len _) (by rw [List.length_take]; omega)
theorem nds_snoc {l : List El} {k : Nat} {x : El} (h : l[k]? = some x) : nds (l.take (k + 1)) = nd4 (nds (l.take k)) x := by
  obtain ⟨hk, e⟩ := List.getElem?_eq_some_iff.1 h
  subst e
  unfold nds
  rw [List.take_succ_eq_append_getElem hk, List.foldl_append]
  rfl
theorem fold_snoc {l : List ByteArray} {k : Nat} {s : ByteArray} (h : l[k]? = some s) (acc : List ByteArray) : (l.take (k + 1)).foldl nd1 acc = nd1 ((l.take k).foldl nd1 acc) s := by
  obtain ⟨hk, e⟩ := List.getElem?_eq_some_iff.1 h
  subst e
  rw [List.take_succ_eq_append_getElem hk, List.foldl_append]
  rfl
theorem has_snoc {l : List ByteArray} {k : Nat} {t : ByteArray} (h : l[k]? = some t) (s : ByteArray) : has (l.take (k + 1)) s = (has (l.take k) s || (t.toList == s.toList)) := by
  obtain ⟨hk, e⟩ := List.getElem?_eq_some_iff.1 h
  subst e
  unfold has
  rw [List.take_succ_eq_append_getElem hk, List.any_append]
  simp
theorem sts_get {l : List ByteArray} {k : Nat} {x : Value} (h : (sts l)[k]? = some x) : ∃ s, l[k]? = some s ∧ x = .string s := map_getElem? h
theorem fr_len (e : El) : (fr e).length = 4 := rfl
theorem sl_laid {w : World} {n size : Nat} {cs : Array Value} {t : TypeId} {xs : List Value} (h : cs.toList = xs) (hn : xs.length = n * size) : IsSl (w.alloc (.cells cs t)) size (.slice (some ⟨w.heap.size, 0, none⟩) n n) n xs := by
  subst h
  refine ⟨hn, .inr ⟨_, _, _, rfl, Nat.le_refl _, by simp, fun j hj => ?_⟩⟩
  rw [cell_of_row _ _ _ _ _ _ (heap_alloc_new w _)]
  simp
theorem nd1_yes {acc : List ByteArray} {s : ByteArray} (h : (gnd s || has acc s) = true) : nd1 acc s = acc := by unfold nd1; rw [if_pos h]
theorem nd1_no {acc : List ByteArray} {s : ByteArray} (h : (gnd s || has acc s) = false) : nd1 acc s = acc ++ [s] := by unfold nd1; rw [if_neg (by rw [h]; simp)]
theorem gnd_ways (s : ByteArray) : (s.toList = [] ∧ gnd s = true) ∨ (¬ s.toList = [] ∧ (s.toList == []) = false ∧ s.toList = [48] ∧ gnd s = true) ∨ (¬ s.toList = [] ∧ (s.toList == []) = false ∧ ¬ s.toList = [48] ∧ (s.toList == [48]) = false ∧ gnd s = false) := by
  unfold gnd
  by_cases h1 : s.toList = []
  · simp [h1]
  · by_cases h2 : s.toList = [48] <;> simp [h1, h2]
end

section
/- Walk of gridworkref13.Check. -/
open Go.RowKit
theorem above_not {x : Nat} (h : (FloatKind.f64.format.order x 0 == some Ordering.gt) = false) : notAbove x = true := by
  have e : ford x 0 = FloatKind.f64.format.order x 0 := rfl
  unfold notAbove
  rw [e, h]
  rfl
theorem above_gt {x : Nat} (h : (FloatKind.f64.format.order x 0 == some Ordering.gt) = true) : notAbove x = false := by
  have e : ford x 0 = FloatKind.f64.format.order x 0 := rfl
  unfold notAbove
  rw [e, h]
  rfl
end
end Go.Proofs.YtlaibmeokghdmaaGreatDoor
