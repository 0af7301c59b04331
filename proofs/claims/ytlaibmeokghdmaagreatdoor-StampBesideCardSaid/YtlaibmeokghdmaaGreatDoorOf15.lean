/- Walks of gridworkref15: Order, Of. -/
import Derived.Test.YtlaibmeokghdmaaGreatDoorMCheck13
namespace Go.Proofs.YtlaibmeokghdmaaGreatDoor
open Go.RowKit

theorem RN.below' {w w1 : World} {p : Value} {l : List El} (h : RN w p l) (hb : Below w.heap.size w w1) : RN w1 p l := h.below hb (Nat.le_refl _)
/-- What is wrong with an element at its place among the elements; 0: nothing. -/
def named (l : List El) (s : ByteArray) : Bool := l.any fun d => d.name.toList == s.toList
def bad1 (l : List El) (k : Nat) (e : El) : Int := if checkE e = 0 then if named (l.take k) e.name = true then 9 else 0 else checkE e
/-- The first element that is wrong: its place, what is wrong. -/
def firstBad (l : List El) : Nat → List El → Option (Nat × Int)
  | _, [] => none
  | k, e :: r => if bad1 l k e = 0 then firstBad l (k + 1) r else some (k, bad1 l k e)
/-- What becomes of a list of elements: a net or none; the fault. -/
def ofL (l : List El) : Bool × Int × Int :=
  if 256 < l.length then (false, 3, -1) else match firstBad l 0 l with
    | some (k, x) => (false, x, k)
    | none => if 32 < (nds l).length ∨ 64 < (nds l).length + (brs l).length then (false, 3, -1) else (true, 0, 0)
theorem first_drop (l : List El) : ∀ (r : List El) (k : Nat), (∀ (j : Nat) (e : El), r[j]? = some e → bad1 l (k + j) e = 0) → firstBad l k r = none
  | [], _, _ => rfl
  | e :: r, k, h => by
    have h0 : bad1 l k e = 0 := h 0 e rfl
    unfold firstBad
    rw [if_pos h0]
    exact first_drop l r (k + 1) fun j x hj => by have := h (j + 1) x hj; rwa [show k + (j + 1) = k + 1 + j by omega] at this
theorem first_at (l : List El) : ∀ (r : List El) (k i : Nat) (x : El), r[i]? = some x → (∀ (j : Nat) (e : El), j < i → r[j]? = some e → bad1 l (k + j) e = 0) → bad1 l (k + i) x ≠ 0 → firstBad l k r = some (k + i, bad1 l (k + i) x)
  | [], _, _, _, h, _, _ => by simp at h
  | e :: r, k, 0, x, h, _, hx => by
    obtain rfl : e = x := by simpa using h
    unfold firstBad
    rw [Nat.add_zero] at hx
    rw [if_neg hx, Nat.add_zero]
  | e :: r, k, i + 1, x, h, hb, hx => by
    have h0 : bad1 l k e = 0 := hb 0 e (by omega) rfl
    unfold firstBad
    rw [if_pos h0]
    have := first_at l r (k + 1) i x h (fun j y hj hy => by have := hb (j + 1) y (by omega) hy; rwa [show k + (j + 1) = k + 1 + j by omega] at this) (by rwa [show k + 1 + i = k + (i + 1) by omega])
    rw [this, show k + 1 + i = k + (i + 1) by omega]
theorem ofL_long {l : List El} (h : 256 < l.length) : ofL l = (false, 3, -1) := by unfold ofL; rw [if_pos h]
theorem ofL_bad {l : List El} {k : Nat} {x : El} (hl : ¬ 256 < l.length) (hx : l[k]? = some x) (hb : ∀ (j : Nat) (e : El), j < k → l[j]? = some e → bad1 l j e = 0) (h : bad1 l k x ≠ 0) : ofL l = (false, bad1 l k x, (k : Int)) := by
  have := first_at l l 0 k x hx (fun j e hj he => by rw [Nat.zero_add]; exact hb j e hj he) (by rwa [Nat.zero_add])
  unfold ofL
  rw [if_neg hl, this, Nat.zero_add]
theorem ofL_good {l : List El} (hl : ¬ 256 < l.length) (hb : ∀ (j : Nat) (e : El), l[j]? = some e → bad1 l j e = 0) : ofL l = if 32 < (nds l).length ∨ 64 < (nds l).length + (brs l).length then (false, 3, -1) else (true, 0, 0) := by
  have := first_drop l l 0 (fun j e he => by rw [Nat.zero_add]; exact hb j e he)
  unfold ofL
  rw [if_neg hl, this]
theorem named_snoc {l : List El} {k : Nat} {t : El} (h : l[k]? = some t) (s : ByteArray) : named (l.take (k + 1)) s = (named (l.take k) s || (t.name.toList == s.toList)) := by
  obtain ⟨hk, e⟩ := List.getElem?_eq_some_iff.1 h
  subst e
  unfold named
  rw [List.take_succ_eq_append_getElem hk, List.any_append]
  simp
/-- What 'Of' hands back. -/
def RetOf (R : World → Value → List El → Prop) (l : List El) (w : World) (en : Ending) (w' : World) : Prop :=
  ∃ p, en = .returned (.tuple #[p, .agg #[.int .i64 (ofL l).2.1, .int .i64 (ofL l).2.2]]) ∧ (((ofL l).1 = false ∧ p = .pointer none) ∨ ((ofL l).1 = true ∧ p ≠ .pointer none ∧ R w' p l)) ∧ Below w.heap.size w w'
theorem retof_no {R : World → Value → List El → Prop} {l : List El} {w w' : World} {x a : Int} (h : ofL l = (false, x, a)) (hb : Below w.heap.size w w') : RetOf R l w (.returned (.tuple #[.pointer none, .agg #[.int .i64 x, .int .i64 a]])) w' :=
  ⟨_, by rw [h], .inl ⟨by rw [h], rfl⟩, hb⟩
theorem results_tmp_cell {fn : Func} {p u : Tmp} {ty : TypeId} (h : fn.results = #[.tmp u, .cell p ty]) (tmps : Array Value) (P : Program) (w : World) :
    (results fn tmps).run P w =
      ((asAddr (tmps.getD p undef)).run P w).andThen fun a w₁ => ((loadVar ty a).run P w₁).andThen fun v w₂ => .ok (.tuple #[tmps.getD u undef, v]) w₂ := by
  simp only [results, h]
  simp [Sem.run_bind, Result.andThen]
theorem bad1_chk {l : List El} {k : Nat} {e : El} (h : ¬ checkE e = 0) : bad1 l k e = checkE e := by unfold bad1; rw [if_neg h]
theorem bad1_named {l : List El} {k : Nat} {e : El} (h : checkE e = 0) (h2 : named (l.take k) e.name = true) : bad1 l k e = 9 := by unfold bad1; rw [if_pos h, if_pos h2]
theorem bad1_not {l : List El} {k : Nat} {e : El} (h : checkE e = 0) (h2 : named (l.take k) e.name = false) : bad1 l k e = 0 := by unfold bad1; rw [if_pos h, if_neg (by rw [h2]; simp)]
theorem named_at {l : List El} {k q : Nat} {t : El} {s : ByteArray} (hq : q < k) (h : l[q]? = some t) (ht : (t.name.toList == s.toList) = true) : named (l.take k) s = true := by
  unfold named
  rw [List.any_eq_true]
  exact ⟨t, by rw [List.mem_iff_getElem?]; exact ⟨q, by rw [List.getElem?_take_of_lt hq]; exact h⟩, ht⟩
/-- A store of what lies there already. -/
theorem setCell_same {w : World} {g o : Nat} {cs : Array Value} {t : TypeId} {f : Nat × Nat} {v : Value} (h : w.heap[g]? = some (.cells cs t f)) (hv : cs[o]? = some v) : w.setCell ⟨g, o, none⟩ v = w := by
  have h1 : cs.setIfInBounds o v = cs := by
    apply Array.ext_getElem?
    intro i
    rw [Array.getElem?_setIfInBounds]
    split
    · rename_i e
      subst e
      have := (Array.getElem?_eq_some_iff.1 hv).1
      rw [hv]; simp [this]
    · rfl
  have h2 : (w.setCell ⟨g, o, none⟩ v).heap = w.heap := by
    unfold World.setCell
    apply Array.ext_getElem?
    intro i
    simp only [Array.getElem?_modify]
    split
    · rename_i e
      subst e
      rw [h]
      simp [h1]
    · rfl
  unfold World.setCell at h2 ⊢
  simp only at h2
  rw [h2]
theorem rn_new {w : World} {a : Option Addr} {c : Nat} {l : List El} {t : TypeId} (h : IsSl w 8 (.slice a l.length c) l.length (l.flatMap ea)) : RN (w.alloc (.cells #[.slice a l.length c, .bool true] t)) (.pointer (some ⟨w.heap.size, 0, none⟩)) l := by
  have hb : Below w.heap.size w (w.alloc (.cells #[.slice a l.length c, .bool true] t)) := (Below.refl _ w).alloc (Nat.le_refl _) _
  obtain ⟨hc, _⟩ := block_cells (heap_alloc_new w (.cells #[.slice a l.length c, .bool true] t))
  exact .inr ⟨_, _, rfl, hc 0 _ rfl, hc 1 _ rfl, h.below hb (Nat.le_refl _)⟩
end Go.Proofs.YtlaibmeokghdmaaGreatDoor
