/- Lists of numbers of the call's own, by number. -/
import Derived.Test.YtejooaeppcjhjaaMPp
namespace Go.Proofs.Ytejooaeppcjhjaa
open Go.RowKit

theorem heap_past {w : World} {g : Nat} {o o' : Obj} (h : w.heap[g]? = some o) : (w.alloc o').heap[g]? = some o := (heap_alloc_old w o' (Array.getElem?_eq_some_iff.1 h).1).trans h
theorem heap_later {w w' : World} {g : Nat} {o : Obj} (hb : Below w.heap.size w w') (h : w.heap[g]? = some o) : w'.heap[g]? = some o := (hb.block g (Array.getElem?_eq_some_iff.1 h).1).trans h
/-- A list of numbers of the call's own. -/
def nrow (v : Value) (l : List Cx) : ORow := ⟨v, 72, 1, l.length, l.map mkC⟩
/-- So many of them, by number. -/
def nrows (o : Nat → ORow) (i : Nat × Nat) : ORow := o i.1
def ndom (n : Nat) (i : Nat × Nat) : Prop := i.1 < n ∧ i.2 = 0
theorem Owns.more {B n : Nat} {o : Nat → ORow} {w w1 : World} (h : Owns B (ndom n) (nrows o) w) (hb : Below w.heap.size w w1) {v : Value} {l : List Cx} (hr : w1.ownsRow w.heap.size 72 1 v l.length (l.map mkC)) :
    Owns B (ndom (n + 1)) (nrows (fun j => if j = n then nrow v l else o j)) w1 := by
  refine h.new hb (n, 0) ?_ (fun j hj => ?_)
  · simpa [nrows, ORow.ok, nrow] using hr
  · obtain ⟨p, q⟩ := j
    obtain ⟨h1, h2⟩ := hj
    simp only at h1 h2
    subst h2
    by_cases hp : p = n
    · subst hp; exact .inl rfl
    · exact .inr ⟨⟨by show p < n; omega, rfl⟩, by simp [nrows, hp]⟩
theorem Owns.over {B n : Nat} {o : Nat → ORow} {w w1 : World} (h : Owns B (ndom n) (nrows o) w) {k : Nat} (hk : k < n) {l' : List Cx} (hr : w1.ownsRow B 72 1 (o k).v l'.length (l'.map mkC)) (hg : w.grownBy w1 (o k).v.ownBlock) :
    Owns B (ndom n) (nrows (fun j => if j = k then nrow (o k).v l' else o j)) w1 := by
  refine h.write (k, 0) ⟨hk, rfl⟩ hg (by simp [nrows, nrow]) (by simpa [nrows, ORow.ok, nrow] using hr) (fun j hj => ?_)
  obtain ⟨p, q⟩ := j
  obtain ⟨h1, h2⟩ := hj
  simp only at h1 h2
  subst h2
  by_cases hp : p = k
  · subst hp; exact .inl rfl
  · exact .inr ⟨⟨h1, rfl⟩, by simp [nrows, hp]⟩
theorem Owns.alloc1 {B : Nat} {dom : Nat × Nat → Prop} {row : Nat × Nat → ORow} {w : World} (h : Owns B dom row w) (o : Obj) : Owns B dom row (w.alloc o) := h.later ((Below.refl _ w).alloc (Nat.le_refl _) o)

theorem heap_grown {w w' : World} {g : Nat} {o : Obj} {row : Option Nat} (hg : w.grownBy w' row) (hne : row ≠ some g) (h : w.heap[g]? = some o) : w'.heap[g]? = some o := (hg.block g (Array.getElem?_eq_some_iff.1 h).1 (by first | exact hne | exact fun e => hne e | exact fun e => hne e.symm)).trans h
/-- Two of them that a call has made. -/
theorem owns_two {B B' : Nat} {v u : Value} {l m : List Cx} {w : World} (hB : B ≤ w.heap.size) (hv : w.ownsRow B' 72 1 v l.length (l.map mkC)) (hu : w.ownsRow B' 72 1 u m.length (m.map mkC)) (hB' : B ≤ B')
    (hd : ∀ k, v.ownBlock = some k → u.ownBlock ≠ some k) : Owns B (ndom 2) (nrows (fun j => if j = 0 then nrow v l else nrow u m)) w := by
  have hr : ∀ j, ndom 2 j → (nrows (fun j => if j = 0 then nrow v l else nrow u m) j) = nrow v l ∧ j = (0, 0) ∨ (nrows (fun j => if j = 0 then nrow v l else nrow u m) j) = nrow u m ∧ j = (1, 0) := fun j hj => by
    obtain ⟨p, q⟩ := j
    obtain ⟨h1, h2⟩ := hj
    simp only at h1 h2
    subst h2
    rcases (show p = 0 ∨ p = 1 by omega) with rfl | rfl
    · exact .inl ⟨rfl, rfl⟩
    · exact .inr ⟨rfl, rfl⟩
  have base : ∀ {x : Value} {xs : List Cx}, w.ownsRow B' 72 1 x xs.length (xs.map mkC) → w.ownsRow B 72 1 x xs.length (xs.map mkC) := fun h => ⟨h.1, h.2.imp id fun ⟨g, cap, cur, hv, hg, r⟩ => ⟨g, cap, cur, hv, Nat.le_trans hB' hg, r⟩⟩
  refine ⟨hB, fun j hj => ?_, fun i j hi hj hij => ?_⟩
  · rcases hr j hj with ⟨h, _⟩ | ⟨h, _⟩ <;> rw [h]
    · exact base hv
    · exact base hu
  · rcases hr i hi with ⟨h, e⟩ | ⟨h, e⟩ <;> rcases hr j hj with ⟨h2, e2⟩ | ⟨h2, e2⟩ <;> rw [h, h2]
    · exact absurd (e.trans e2.symm) hij
    · exact hd
    · exact Dis.symm hd
    · exact absurd (e.trans e2.symm) hij
/-- The beginning of a list of the call's own. -/
theorem own_begin {w : World} {B n c : Nat} {a : Option Addr} {l m : List Cx} (h : w.ownsRow B 72 1 (.slice a n c) n ((l ++ m).map mkC)) (hl : l.length ≤ n) : IsSl w 1 (.slice a l.length c) l.length (l.map mkC) := by
  have := (IsSl.of_own h).take (k := l.length) hl
  rw [Nat.mul_one, List.map_append, List.take_left' (by simp)] at this
  exact this
end Go.Proofs.Ytejooaeppcjhjaa
