/- a part of the proof of the last text -/
import Derived.Test.YtdepiggjneoopaaGreatDoorZApart
namespace Go.Proofs.YtdepiggjneoopaaGreatDoor
set_option linter.all false
set_option maxHeartbeats 4000000
set_option maxRecDepth 100000
open Go.RowKit
theorem below_drew_left {w w' : World} (h : Below w.drew.heap.size w.drew w') : Below w.heap.size w w' := ⟨h.os, h.tape, h.output, h.size, h.block⟩
theorem own_cap {w : World} {B e size n c : Nat} {a : Option Addr} {xs : List Value} (h : w.ownsRow B e size (.slice a n c) n xs) : n ≤ c := by
  rcases h.2 with ⟨h0, h1⟩ | ⟨g, cap, cur, hv, _, _, hn, _⟩
  · omega
  · cases hv; exact hn
/-- No block is both of a and of b. -/
def Dis (a b : Value) : Prop := ∀ g, a.ownBlock = some g → b.ownBlock ≠ some g
theorem Dis.symm {a b : Value} (h : Dis a b) : Dis b a := fun g hb ha => h g ha hb
/-- A slice of the call's own: its value, its element's type and cells, its length, its cells. -/
structure ORow where
  v : Value
  e : Nat
  size : Nat
  n : Nat
  xs : List Value
def ORow.ok (B : Nat) (w : World) (o : ORow) : Prop := w.ownsRow B o.e o.size o.v o.n o.xs
/-- Slices of the call's own, by index, no two in one block. -/
structure Owns (B : Nat) (dom : Nat × Nat → Prop) (row : Nat × Nat → ORow) (w : World) : Prop where
  size : B ≤ w.heap.size
  ok : ∀ i, dom i → (row i).ok B w
  dis : ∀ i j, dom i → dom j → i ≠ j → Dis (row i).v (row j).v
section
variable {B : Nat} {dom dom' : Nat × Nat → Prop} {row row' : Nat × Nat → ORow} {w w1 : World}
theorem Owns.none (h : B ≤ w.heap.size) (row : Nat × Nat → ORow) : Owns B (fun _ => False) row w := ⟨h, fun _ h => h.elim, fun _ _ h => h.elim⟩
theorem Owns.lt (h : Owns B dom row w) {i : Nat × Nat} (hi : dom i) {g : Nat} (hg : (row i).v.ownBlock = some g) : B ≤ g ∧ g < w.heap.size := World.ownsRow.lt (h.ok i hi) g hg
theorem grown_of_below (hb : Below w.heap.size w w1) (r : Option Nat) : w.grownBy w1 r := ⟨hb.os, hb.tape, hb.output, hb.size, fun k hk _ => hb.block k hk⟩
theorem below_of_grown (hg : w.grownBy w1 Option.none) : Below w.heap.size w w1 := ⟨hg.os, hg.tape, hg.output, hg.size, fun k hk => hg.block k hk (by simp)⟩
theorem Owns.later (h : Owns B dom row w) (hb : Below w.heap.size w w1) : Owns B dom row w1 :=
  ⟨Nat.le_trans h.size hb.size, fun i hi => own_none (h.ok i hi) (grown_of_below hb _), h.dis⟩
theorem Owns.drewN (h : Owns B dom row w) (n : Nat) : Owns B dom row (w.drewN n) := ⟨h.size, h.ok, h.dis⟩
theorem Owns.drew (h : Owns B dom row w) : Owns B dom row w.drew := ⟨h.size, h.ok, h.dis⟩
/-- Fewer of them, or others that are the same. -/
theorem Owns.sub (h : Owns B dom row w) (hd : ∀ j, dom' j → dom j ∧ row' j = row j) : Owns B dom' row' w :=
  ⟨h.size, fun i hi => by rw [(hd i hi).2]; exact h.ok i (hd i hi).1, fun i j hi hj hij => by rw [(hd i hi).2, (hd j hj).2]; exact h.dis i j (hd i hi).1 (hd j hj).1 hij⟩
/-- One slice more, in new memory. -/
theorem Owns.new (h : Owns B dom row w) (hb : Below w.heap.size w w1) (i : Nat × Nat) (hr : (row' i).ok w.heap.size w1) (hd : ∀ j, dom' j → j = i ∨ (dom j ∧ row' j = row j)) : Owns B dom' row' w1 := by
  have hl := h.later hb
  have fresh : ∀ j, dom j → Dis (row' i).v (row j).v := fun j hj g hg e => by
    have h1 := (World.ownsRow.lt hr g hg).1
    have h2 := (h.lt hj e).2
    omega
  refine ⟨hl.size, fun j hj => ?_, fun j k hj hk hjk => ?_⟩
  · rcases hd j hj with rfl | ⟨h1, h2⟩
    · exact ⟨hr.1, hr.2.imp id fun ⟨g, cap, cur, hv, hg, r⟩ => ⟨g, cap, cur, hv, Nat.le_trans h.size hg, r⟩⟩
    · rw [h2]; exact hl.ok j h1
  · rcases hd j hj with rfl | ⟨h1, h2⟩
    · rcases hd k hk with rfl | ⟨h3, h4⟩
      · exact absurd rfl hjk
      · rw [h4]; exact fresh k h3
    · rcases hd k hk with rfl | ⟨h3, h4⟩
      · rw [h2]; exact (fresh j h1).symm
      · rw [h2, h4]; exact h.dis j k h1 h3 hjk
/-- An append onto one of them: in place, or into a new block. -/
theorem Owns.push (h : Owns B dom row w) (i : Nat × Nat) (hi : dom i) {g : Nat} (hg : (row' i).v.ownBlock = some g) (h2 : ((row i).v.ownBlock = some g ∧ w.grownBy w1 (some g)) ∨ (w.heap.size ≤ g ∧ w.grownBy w1 Option.none))
    (hr : (row' i).ok B w1) (hd : ∀ j, dom' j → j = i ∨ (dom j ∧ row' j = row j)) : Owns B dom' row' w1 := by
  have key : ∀ j, dom j → j ≠ i → (row j).ok B w1 ∧ (row j).v.ownBlock ≠ some g := fun j hj hji => by
    rcases h2 with ⟨hv, hgr⟩ | ⟨hge, hgr⟩
    · have hne : (row j).v.ownBlock ≠ some g := fun e => h.dis j i hj hi hji g e hv
      exact ⟨own_ne (h.ok j hj) hgr hne, hne⟩
    · exact ⟨own_none (h.ok j hj) hgr, fun e => by have := (h.lt hj e).2; omega⟩
  have hsz : w.heap.size ≤ w1.heap.size := by rcases h2 with ⟨_, hgr⟩ | ⟨_, hgr⟩ <;> exact hgr.size
  refine ⟨Nat.le_trans h.size hsz, fun j hj => ?_, fun j k hj hk hjk => ?_⟩
  · by_cases hji : j = i
    · subst hji; exact hr
    · rcases hd j hj with e | ⟨h1, e⟩
      · exact absurd e hji
      · rw [e]; exact (key j h1 hji).1
  · by_cases hji : j = i
    · subst hji
      rcases hd k hk with e | ⟨h1, e⟩
      · exact absurd e.symm hjk
      · rw [e]; intro g' hg' e'
        rw [hg] at hg'; cases hg'
        exact (key k h1 (Ne.symm hjk)).2 e'
    · rcases hd j hj with e | ⟨h1, e⟩
      · exact absurd e hji
      · rw [e]
        by_cases hki : k = i
        · subst hki; intro g' hg' e'
          rw [hg] at e'; cases e'
          exact (key j h1 hji).2 hg'
        · rcases hd k hk with e2 | ⟨h3, e2⟩
          · exact absurd e2 hki
          · rw [e2]; exact h.dis j k h1 h3 hjk
/-- Stores into one of them. -/
theorem Owns.write (h : Owns B dom row w) (i : Nat × Nat) (hi : dom i) (hgr : w.grownBy w1 (row i).v.ownBlock) (hv : (row' i).v = (row i).v)
    (hr : (row' i).ok B w1) (hd : ∀ j, dom' j → j = i ∨ (dom j ∧ row' j = row j)) : Owns B dom' row' w1 := by
  refine ⟨Nat.le_trans h.size hgr.size, fun j hj => ?_, fun j k hj hk hjk => ?_⟩
  · by_cases hji : j = i
    · subst hji; exact hr
    · rcases hd j hj with e | ⟨h1, e⟩
      · exact absurd e hji
      · rw [e]
        refine (h.ok j h1).kept hgr ?_
        cases hb : (row j).v.ownBlock with
        | none => exact .inl rfl
        | some g => exact .inr fun e' => h.dis j i h1 hi hji g hb e'.symm
  · have hvv : ∀ j, dom' j → (row' j).v = (row j).v ∧ dom j := fun j hj => by
      by_cases hji : j = i
      · subst hji; exact ⟨hv, hi⟩
      · rcases hd j hj with e | ⟨h1, e⟩
        · exact absurd e hji
        · rw [e]; exact ⟨rfl, h1⟩
    rw [(hvv j hj).1, (hvv k hk).1]
    exact h.dis j k (hvv j hj).2 (hvv k hk).2 hjk
theorem Owns.below_write (h : Owns B dom row w) {i : Nat × Nat} (hi : dom i) (hgr : w.grownBy w1 (row i).v.ownBlock) : Below B w w1 :=
  (Below.refl B w).grown hgr h.size fun _ e => (h.lt hi e).1
theorem Owns.below_push (h : Owns B dom row w) {i : Nat × Nat} (hi : dom i) {g : Nat} (h2 : ((row i).v.ownBlock = some g ∧ w.grownBy w1 (some g)) ∨ (w.heap.size ≤ g ∧ w.grownBy w1 Option.none)) : Below B w w1 := by
  rcases h2 with ⟨hv, hgr⟩ | ⟨_, hgr⟩
  · exact (Below.refl B w).grown hgr h.size fun _ e => by cases e; exact (h.lt hi hv).1
  · exact (below_of_grown hgr).mono h.size
theorem Owns.sl (h : Owns B dom row w) {i : Nat × Nat} (hi : dom i) : IsSl w (row i).size (row i).v (row i).n (row i).xs := IsSl.of_own (h.ok i hi)
end
/-- Two of a kind. -/
def pair {α : Type} (a b : α) (j : Nat) : α := if j = 0 then a else b
theorem fam2 {α : Type} {mk : α → Value} {E ST B : Nat} {va vb : Value} {la lb : List α} {na nb : Nat} {w0 w1 : World} (hb : Below B w0 w1) (hB : B ≤ w1.heap.size) (ha : w1.ownsRow B E 1 va na (la.map mk)) (hbr : w1.ownsRow B E 1 vb nb (lb.map mk)) (hd : Dis va vb) :
    Sep 2 (.slice (some ⟨w1.heap.size, 0, none⟩) 2 2) (pair va vb) ∧ Fam mk E B 2 (.slice (some ⟨w1.heap.size, 0, none⟩) 2 2) (pair va vb) (pair na nb) (pair la lb) w0 (w1.alloc (.cells #[va, vb] ST)) := by
  have two : ∀ j, j < 2 → j = 0 ∨ j = 1 := fun j hj => by omega
  refine ⟨⟨fun j k hj hk hjk => ?_, fun k hk g hg => ?_⟩, ⟨hb.alloc hB _, by simp; omega, ?_, fun j hj => ?_⟩⟩
  · rcases two j hj with rfl | rfl <;> rcases two k hk with rfl | rfl
    · exact absurd rfl hjk
    · exact hd
    · exact hd.symm
    · exact absurd rfl hjk
  · intro e
    have h1 := ownBlock_lit e
    rcases two k hk with rfl | rfl
    · have := (ha.lt g hg).2; omega
    · have := (hbr.lt g hg).2; omega
  · refine ⟨by simp, .inr ⟨w1.heap.size, 0, 2, rfl, Nat.le_refl _, by simp, fun j hj => ?_⟩⟩
    rw [Nat.zero_add, cell_of_row _ _ _ #[va, vb] ST (0, 0) (heap_alloc_new w1 _)]
    rcases two j (by omega) with rfl | rfl <;> rfl
  · rcases two j hj with rfl | rfl
    · exact ha.alloc _
    · exact hbr.alloc _
end Go.Proofs.YtdepiggjneoopaaGreatDoor
