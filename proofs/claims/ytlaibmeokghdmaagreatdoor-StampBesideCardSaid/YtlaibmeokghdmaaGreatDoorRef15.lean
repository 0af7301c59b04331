/- Walks of gridworkref15: a net, its elements, branches. -/
import Derived.Test.YtlaibmeokghdmaaGreatDoorMElements
namespace Go.Proofs.YtlaibmeokghdmaaGreatDoor
open Go.RowKit

/-- A pointer to the answer's net: its elements; none: no net. -/
def RN (w : World) (p : Value) (l : List El) : Prop :=
  (p = .pointer none ∧ l = []) ∨ ∃ g v, p = .pointer (some ⟨g, 0, none⟩) ∧ w.cell? ⟨g, 0, none⟩ = some v ∧ w.cell? ⟨g, 1, none⟩ = some (.bool true) ∧ IsSl w 8 v l.length (l.flatMap ea)
theorem RN.below {w w' : World} {B : Nat} {p : Value} {l : List El} (h : RN w p l) (hb : Below B w w') (hB : w.heap.size ≤ B) : RN w' p l := by
  rcases h with h | ⟨g, v, hp, h0, h1, hs⟩
  · exact .inl h
  · exact .inr ⟨g, v, hp, (hb.cell (p := ⟨g, 0, none⟩) (Nat.lt_of_lt_of_le (cell_lt h0) hB)).trans h0, (hb.cell (p := ⟨g, 1, none⟩) (Nat.lt_of_lt_of_le (cell_lt h1) hB)).trans h1, hs.below hb hB⟩
theorem infoSt : (Tryz.prog.info? 9).map (fun i => (i.zero, i.size, i.bytes)) = some (some (.string ⟨#[]⟩), 1, 16) := by kernel_rfl
def sts (l : List ByteArray) : List Value := l.map Value.string

theorem own_base {w : World} {B B' e size n : Nat} {v : Value} {xs : List Value} (h : w.ownsRow B' e size v n xs) (hB : B ≤ B') : w.ownsRow B e size v n xs := by
  obtain ⟨h1, h2⟩ := h
  refine ⟨h1, ?_⟩
  rcases h2 with h | ⟨g, cap, cur, ha, hb, hc⟩
  · exact .inl h
  · exact .inr ⟨g, cap, cur, ha, Nat.le_trans hB hb, hc⟩
/-- The branches' names. -/
def isBr (e : El) : Bool := e.kind == 5 || e.kind == 7
def brs (l : List El) : List ByteArray := (l.filter isBr).map (·.name)
theorem brs_yes {l : List El} {k : Nat} {x : El} (h : l[k]? = some x) (hx : isBr x = true) : brs (l.take (k + 1)) = brs (l.take k) ++ [x.name] := by
  obtain ⟨hk, e⟩ := List.getElem?_eq_some_iff.1 h
  subst e
  unfold brs
  rw [List.take_succ_eq_append_getElem hk, List.filter_append, List.map_append]
  simp [hx]
theorem brs_no {l : List El} {k : Nat} {x : El} (h : l[k]? = some x) (hx : isBr x = false) : brs (l.take (k + 1)) = brs (l.take k) := by
  obtain ⟨hk, e⟩ := List.getElem?_eq_some_iff.1 h
  subst e
  unfold brs
  rw [List.take_succ_eq_append_getElem hk, List.filter_append, List.map_append]
  simp [hx]
theorem brs_len (l : List El) : (brs l).length ≤ l.length := by
  unfold brs
  rw [List.length_map]
  exact List.length_filter_le _ _
theorem brs_take_len (l : List El) (k : Nat) : (brs (l.take k)).length ≤ k := Nat.le_trans (brs_len _) (by rw [List.length_take]; omega)
theorem sts_snoc (l : List ByteArray) (s : ByteArray) : sts (l ++ [s]) = sts l ++ [.string s] := by simp [sts]
theorem sts_one {l : List ByteArray} {u : Value} (h : u ∈ sts l) : u.oneCell' = true := by
  obtain ⟨s, _, rfl⟩ := List.mem_map.1 h
  rfl
theorem br_ways (x : El) : ((x.kind == 5) = true ∧ isBr x = true) ∨ ((x.kind == 5) = false ∧ (x.kind == 7) = true ∧ isBr x = true) ∨ ((x.kind == 5) = false ∧ (x.kind == 7) = false ∧ isBr x = false) := by
  unfold isBr
  cases (x.kind == 5) <;> cases (x.kind == 7) <;> simp
/-- Behind a push onto a row of the call's own. -/
theorem pushed {w wr w2 : World} {e size n g : Nat} {v : Value} {xs : List Value} (hb : Below w.heap.size w wr) (ho : wr.ownsRow w.heap.size e size v n xs)
    (h : (v.ownBlock = some g ∧ wr.grownBy w2 (some g)) ∨ (wr.heap.size ≤ g ∧ wr.grownBy w2 none)) : Below w.heap.size w w2 := by
  rcases h with ⟨h1, h2⟩ | ⟨_, h2⟩
  · exact below_grown hb h2 fun _ e => by cases e; exact (ho.lt _ h1).1
  · exact below_grown hb h2 fun _ e => by cases e
end Go.Proofs.YtlaibmeokghdmaaGreatDoor
