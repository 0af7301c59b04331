/- a part of the proof of the last text -/
import Derived.Test.YtdepiggjneoopaaGreatDoorZNums
import Derived.Laws.ResultCell
import Derived.Deep.Onto
namespace Go.Proofs.YtdepiggjneoopaaGreatDoor
set_option linter.all false
set_option maxHeartbeats 4000000
set_option maxRecDepth 100000
open Go.RowKit
/-- A matrix' value. -/
abbrev matV (r c : Int) (v : Value) : Value := .agg #[.int .i64 r, .int .i64 c, v]
/-- No matrix. -/
def mbad (r c : Int) (n : Nat) : Bool := decide (r < 0) || decide (64 < r) || decide (c < 0) || decide (64 < c) || !decide ((n : Int) = r * c)
theorem mbad_no {r c : Int} {n : Nat} (h : mbad r c n = false) : 0 ≤ r ∧ r ≤ 64 ∧ 0 ≤ c ∧ c ≤ 64 ∧ (n : Int) = r * c := by
  simp [mbad] at h; omega
theorem mul_64 {r c : Int} (h1 : 0 ≤ r) (h2 : r ≤ 64) (h3 : 0 ≤ c) (h4 : c ≤ 64) : 0 ≤ r * c ∧ r * c ≤ 4096 := by
  refine ⟨Int.mul_nonneg h1 h3, ?_⟩
  calc r * c ≤ 64 * c := Int.mul_le_mul_of_nonneg_right h2 h3
    _ ≤ 64 * 64 := by omega
    _ = 4096 := rfl
/-- .. as it is computed. -/
def mbadw (r c : Int) (n : Nat) : Bool := decide (r < 0) || decide (64 < r) || decide (c < 0) || decide (64 < c) || ((n : Int) != wrap64 (r * c))
theorem mbadw_eq (r c : Int) (n : Nat) : mbadw r c n = mbad r c n := by
  by_cases h : 0 ≤ r ∧ r ≤ 64 ∧ 0 ≤ c ∧ c ≤ 64
  · obtain ⟨h1, h2, h3, h4⟩ := h
    have := mul_64 h1 h2 h3 h4
    have hw : wrap64 (r * c) = r * c := by
      generalize r * c = x at this
      unfold wrap64; omega
    unfold mbadw mbad
    rw [hw]
    congr 1
  · have : (decide (r < 0) || decide (64 < r) || decide (c < 0) || decide (64 < c)) = true := by simp; omega
    simp only [mbadw, mbad, this, Bool.true_or]
/-- The error of no matrix. -/
def mchk (r c : Int) (n : Nat) : Int := if mbad r c n then 4 else 0
theorem mchk_yes {r c : Int} {n : Nat} (h : mbad r c n = true) : mchk r c n = 4 := by simp [mchk, h]
theorem mchk_no {r c : Int} {n : Nat} (h : mbad r c n = false) : mchk r c n = 0 := by simp [mchk, h]
set_option maxRecDepth 100000 in
set_option maxHeartbeats 400000 in
theorem mchk_any (r c : Int) (a : Option Addr) (n k : Nat) (w : World) :
    Calls Tryz.prog 82 #[matV r c (.slice a n k)] w (RetB (fun x => x = .int .i64 (mchk r c n)) w) := by
  go_enter Tryz.func82, Tryz.ntmps82
  go_wp2
  all_goals go_ret
  all_goals refine ⟨_, rfl, Below.alloc (Below.refl _ _) (Nat.le_refl _) _, congrArg (Value.int .i64) ?_⟩
  all_goals first
    | (refine (mchk_yes ?_).symm; rw [← mbadw_eq]; simp_all [mbadw]; done)
    | (refine (mchk_no ?_).symm; rw [← mbadw_eq]; simp_all [mbadw]; done)
/-- The cells of a block of three. -/
theorem mat_at {w1 : World} {g t : Nat} {x y z : Value} (h : w1.heap[g]? = some (.cells #[x, y, z] t (0, 0))) :
    w1.cell? ⟨g, 0, none⟩ = some x ∧ w1.cell? ⟨g, 1, none⟩ = some y ∧ w1.cell? ⟨g, 2, none⟩ = some z ∧ w1.frozen? ⟨g, 0, none⟩ = false ∧ w1.frozen? ⟨g, 1, none⟩ = false ∧ w1.frozen? ⟨g, 2, none⟩ = false := by
  refine ⟨cell_of_row _ _ _ _ _ _ h, cell_of_row _ _ _ _ _ _ h, cell_of_row _ _ _ _ _ _ h, ?_, ?_, ?_⟩ <;> simp [World.frozen?, h]
theorem cell_past {w : World} {g j : Nat} {x : Value} {o : Obj} (hg : g < w.heap.size) (h : w.cell? ⟨g, j, none⟩ = some x) : (w.alloc o).cell? ⟨g, j, none⟩ = some x := by
  rw [World.cell?_of_block (w := w) (heap_alloc_old w o hg)]; exact h
theorem below_allocdrew (w : World) (o : Obj) : Below w.heap.size w (w.alloc o).drew := ((Below.refl _ w).alloc (Nat.le_refl _) o).drew
theorem below_allocdrew_left {w w2 : World} {o : Obj} (h : Below (w.alloc o).drew.heap.size (w.alloc o).drew w2) : Below w.heap.size w w2 := (below_allocdrew w o).trans (h.mono (by simp))
theorem alloc2_0 (w : World) (a b : Obj) : ((w.alloc a).alloc b).heap[w.heap.size]? = some a := (heap_alloc_old (w.alloc a) b (by simp)).trans (heap_alloc_new w a)
theorem alloc2_1 (w : World) (a b : Obj) : ((w.alloc a).alloc b).heap[w.heap.size + 1]? = some b := by
  have := heap_alloc_new (w.alloc a) b
  simpa using this
theorem below_alloc2m {w w1 : World} {a b : Obj} (h : Below ((w.alloc a).alloc b).heap.size ((w.alloc a).alloc b) w1) : Below w.heap.size w w1 :=
  ((Below.refl _ w).alloc (Nat.le_refl _) a |>.alloc (by simp) b).trans (h.mono (by simp; omega))
/-- A matrix with a number added at a place, or the error. -/
def maddC (r c i j : Int) : Bool := decide (i < 0) || decide (r ≤ i) || decide (j < 0) || decide (c ≤ j)
def madd (r c : Int) (l : List Cx) (i j : Int) (y : Cx) : (Int × Int × List Cx) × Int :=
  if mbad r c l.length then ((0, 0, []), 4) else if maddC r c i j then ((0, 0, []), 2)
  else if cfin (cadd (l.getD (i * c + j).toNat (0, 0)) y) then ((r, c, l.set (i * c + j).toNat (cadd (l.getD (i * c + j).toNat (0, 0)) y)), 0) else ((0, 0, []), 6)
theorem maddC_no {r c i j : Int} (h : maddC r c i j = false) : 0 ≤ i ∧ i < r ∧ 0 ≤ j ∧ j < c := by
  simp [maddC] at h; omega
theorem place_of {r c i j : Int} {n : Nat} (h1 : 0 ≤ i) (h2 : i < r) (h3 : 0 ≤ j) (h4 : j < c) (h5 : r ≤ 64) (h6 : c ≤ 64) (h7 : (n : Int) = r * c) : ∃ k : Nat, i * c + j = k ∧ k < n ∧ i * c ≤ 4096 := by
  have h8 : 0 ≤ i * c := Int.mul_nonneg h1 (by omega)
  have h9 : (i + 1) * c ≤ r * c := Int.mul_le_mul_of_nonneg_right (by omega) (by omega)
  have h10 := mul_64 (r := r) (c := c) (by omega) h5 (by omega) h6
  rw [Int.add_mul, Int.one_mul] at h9
  exact ⟨(i * c + j).toNat, by omega, by omega, by omega⟩
/-- A matrix in a block of its own, its numbers in another. -/
def BoxOk (r c : Int) (n : Nat) (xs : List Value) (w1 wx : World) (v : Value) : Prop :=
  ∃ (g2 c2 : Nat) (a2 : Option Addr), v = .pointer (some ⟨g2, 0, none⟩) ∧ w1.heap.size ≤ g2 ∧ Below w1.heap.size w1 wx ∧ wx.heap[g2]? = some (.cells #[.int .i64 r, .int .i64 c, .slice a2 n c2] 43 (0, 0)) ∧
    wx.ownsRow w1.heap.size 48 1 (.slice a2 n c2) n xs ∧ (Value.slice a2 n c2).ownBlock ≠ some g2
theorem box_a {r c : Int} {n B : Nat} {xs : List Value} {w1 w2 : World} {a2 : Option Addr} {c2 : Nat} (hb : Below w1.heap.size w1 w2) (hB : w1.heap.size ≤ B) (h : w2.ownsRow B 48 1 (.slice a2 n c2) n xs) :
    BoxOk r c n xs w1 (w2.alloc (.cells #[.int .i64 r, .int .i64 c, .slice a2 n c2] 43)) (.pointer (some ⟨w2.heap.size, 0, none⟩)) :=
  ⟨_, c2, a2, rfl, hb.size, hb.alloc hb.size _, heap_alloc_new _ _, (World.ownsRow.mono h hB).alloc _, fun e => by have := (h.lt _ e).2; omega⟩
theorem set3_heap {w2 : World} {g t : Nat} {x y z a b c : Value} (h : w2.heap[g]? = some (.cells #[x, y, z] t (0, 0))) :
    (((w2.setCell ⟨g, 0, none⟩ a).setCell ⟨g, 1, none⟩ b).setCell ⟨g, 2, none⟩ c).heap[g]? = some (.cells #[a, b, c] t (0, 0)) := by
  have h1 := Go.heap_setCell_same w2 g 0 _ t a h
  have h2 := Go.heap_setCell_same _ g 1 _ t b h1
  exact Go.heap_setCell_same _ g 2 _ t c h2
theorem box_b {r c : Int} {n B : Nat} {xs : List Value} {w1 w2 : World} {a2 : Option Addr} {c2 : Nat} {x y z : Value} (hb : Below w1.heap.size w1 w2) (hB : w1.heap.size < B) (h : w2.ownsRow B 48 1 (.slice a2 n c2) n xs)
    (hz : w2.heap[w1.heap.size]? = some (.cells #[x, y, z] 43 (0, 0))) :
    BoxOk r c n xs w1 (((w2.setCell ⟨w1.heap.size, 0, none⟩ (.int .i64 r)).setCell ⟨w1.heap.size, 1, none⟩ (.int .i64 c)).setCell ⟨w1.heap.size, 2, none⟩ (.slice a2 n c2)) (.pointer (some ⟨w1.heap.size, 0, none⟩)) :=
  ⟨_, c2, a2, rfl, Nat.le_refl _, ((hb.setCell (Nat.le_refl _) _).setCell (Nat.le_refl _) _).setCell (Nat.le_refl _) _, set3_heap hz,
    World.ownsRow.mono (ownsRow_setCell_below (ownsRow_setCell_below (ownsRow_setCell_below h hB _) hB _) hB _) (Nat.le_of_lt hB), fun e => by have := (h.lt _ e).1; omega⟩
/-- A matrix of its own, and an error. -/
def RetMat (S : (Int × Int × List Cx) × Int) (w : World) (en : Ending) (w' : World) : Prop :=
  ∃ (r c : Int) (v : Value) (k : Int) (xs : List Cx), en = .returned (.tuple #[matV r c v, .int .i64 k]) ∧ w'.ownsRow w.heap.size 48 1 v xs.length (xs.map mkC) ∧ ((r, c, xs.map ck), k) = S ∧ Below w.heap.size w w'
end Go.Proofs.YtdepiggjneoopaaGreatDoor
