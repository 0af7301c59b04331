/- Three lists of tones of the call's own: what a store, an append, new memory leave. -/
import Derived.Test.YtlgfpfjfoajjbaaTurns
namespace Go.Proofs.Ytlgfpfjfoajjbaa
open Go.RowKit

def orow3 (v : Value) (l : List Tn) : ORow := ⟨v, 71, 3, l.length, l.flatMap ta⟩
def tri (a b c : ORow) (i : Nat × Nat) : ORow := if i.1 = 0 then a else if i.1 = 1 then b else c
def tdom (i : Nat × Nat) : Prop := i.1 < 3 ∧ i.2 = 0
abbrev Tri (B : Nat) (va : Value) (la : List Tn) (vb : Value) (lb : List Tn) (vc : Value) (lc : List Tn) (w : World) : Prop := Owns B tdom (tri (orow3 va la) (orow3 vb lb) (orow3 vc lc)) w
theorem tdom_cases {j : Nat × Nat} (h : tdom j) : j = (0, 0) ∨ j = (1, 0) ∨ j = (2, 0) := by
  obtain ⟨p, q⟩ := j
  obtain ⟨h1, h2⟩ := h
  simp only at h1 h2
  subst h2
  have : p = 0 ∨ p = 1 ∨ p = 2 := by omega
  rcases this with rfl | rfl | rfl <;> simp
section
variable {B : Nat} {va vb vc : Value} {la lb lc : List Tn} {w w1 : World}
theorem Tri.a (h : Tri B va la vb lb vc lc w) : w.ownsRow B 71 3 va la.length (la.flatMap ta) := h.ok (0, 0) ⟨by decide, rfl⟩
theorem Tri.b (h : Tri B va la vb lb vc lc w) : w.ownsRow B 71 3 vb lb.length (lb.flatMap ta) := h.ok (1, 0) ⟨by decide, rfl⟩
theorem Tri.c (h : Tri B va la vb lb vc lc w) : w.ownsRow B 71 3 vc lc.length (lc.flatMap ta) := h.ok (2, 0) ⟨by decide, rfl⟩
theorem tri_start (hB : B ≤ w.heap.size) (ha : w.ownsRow B 71 3 va la.length (la.flatMap ta)) : Tri B va la (.slice none 0 0) [] (.slice none 0 0) [] w := by
  refine ⟨hB, fun i hi => ?_, fun i j hi hj hij => ?_⟩
  · rcases tdom_cases hi with rfl | rfl | rfl
    · exact ha
    · exact World.ownsRow_nil _ _ _ _
    · exact World.ownsRow_nil _ _ _ _
  · rcases tdom_cases hi with rfl | rfl | rfl <;> rcases tdom_cases hj with rfl | rfl | rfl
    · exact absurd rfl hij
    · intro g _ e; cases e
    · intro g _ e; cases e
    · intro g e; cases e
    · exact absurd rfl hij
    · intro g e; cases e
    · intro g e; cases e
    · intro g e; cases e
    · exact absurd rfl hij
theorem Tri.write (h : Tri B va la vb lb vc lc w) {la' : List Tn} (hg : w.grownBy w1 va.ownBlock) (hr : w1.ownsRow B 71 3 va la'.length (la'.flatMap ta)) : Tri B va la' vb lb vc lc w1 := by
  refine Owns.write h (0, 0) ⟨by decide, rfl⟩ hg rfl hr fun j hj => ?_
  rcases tdom_cases hj with rfl | rfl | rfl
  · exact .inl rfl
  · exact .inr ⟨⟨by decide, rfl⟩, rfl⟩
  · exact .inr ⟨⟨by decide, rfl⟩, rfl⟩
theorem Tri.pushb (h : Tri B va la vb lb vc lc w) {g cap n : Nat} {x : Tn} (hn : lb.length = n) (hr : w1.ownsRow B 71 3 (.slice (some ⟨g, 0, none⟩) (n + 1) cap) (n + 1) (lb.flatMap ta ++ ta x))
    (h2 : (vb.ownBlock = some g ∧ w.grownBy w1 (some g)) ∨ (w.heap.size ≤ g ∧ w.grownBy w1 none)) : Tri B va la (.slice (some ⟨g, 0, none⟩) (n + 1) cap) (lb ++ [x]) vc lc w1 := by
  subst hn
  have hl : (lb ++ [x]).length = lb.length + 1 := by simp
  refine Owns.push h (1, 0) ⟨by decide, rfl⟩ (g := g) rfl h2 ?_ fun j hj => ?_
  · show w1.ownsRow B _ 3 _ (lb ++ [x]).length ((lb ++ [x]).flatMap ta)
    rw [hl, flat_snoc]; exact hr
  · rcases tdom_cases hj with rfl | rfl | rfl
    · exact .inr ⟨⟨by decide, rfl⟩, rfl⟩
    · exact .inl rfl
    · exact .inr ⟨⟨by decide, rfl⟩, rfl⟩
theorem Tri.pushc (h : Tri B va la vb lb vc lc w) {g cap n : Nat} {x : Tn} (hn : lc.length = n) (hr : w1.ownsRow B 71 3 (.slice (some ⟨g, 0, none⟩) (n + 1) cap) (n + 1) (lc.flatMap ta ++ ta x))
    (h2 : (vc.ownBlock = some g ∧ w.grownBy w1 (some g)) ∨ (w.heap.size ≤ g ∧ w.grownBy w1 none)) : Tri B va la vb lb (.slice (some ⟨g, 0, none⟩) (n + 1) cap) (lc ++ [x]) w1 := by
  subst hn
  have hl : (lc ++ [x]).length = lc.length + 1 := by simp
  refine Owns.push h (2, 0) ⟨by decide, rfl⟩ (g := g) rfl h2 ?_ fun j hj => ?_
  · show w1.ownsRow B _ 3 _ (lc ++ [x]).length ((lc ++ [x]).flatMap ta)
    rw [hl, flat_snoc]; exact hr
  · rcases tdom_cases hj with rfl | rfl | rfl
    · exact .inr ⟨⟨by decide, rfl⟩, rfl⟩
    · exact .inr ⟨⟨by decide, rfl⟩, rfl⟩
    · exact .inl rfl
end
/-- A store into a block that is none of theirs. -/
theorem Owns.foreign {B : Nat} {dom : Nat × Nat → Prop} {row : Nat × Nat → ORow} {w w1 : World} (h : Owns B dom row w) {g : Nat} (hg : w.grownBy w1 (some g)) (hne : ∀ i, dom i → (row i).v.ownBlock ≠ some g) : Owns B dom row w1 :=
  ⟨Nat.le_trans h.size hg.size, fun i hi => own_ne (h.ok i hi) hg (hne i hi), h.dis⟩
theorem grown_set (w : World) (g o : Nat) (v : Value) : w.grownBy (w.setCell ⟨g, o, none⟩ v) (some g) :=
  ⟨rfl, rfl, rfl, by simp, fun k _ hk => Below.heap_setCell w ⟨g, o, none⟩ v k (fun e => hk (by rw [e]))⟩
end Go.Proofs.Ytlgfpfjfoajjbaa
