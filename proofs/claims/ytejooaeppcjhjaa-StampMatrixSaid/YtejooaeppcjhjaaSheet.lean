/- The reference's sheet as it lies in memory. -/
import Derived.Test.YtejooaeppcjhjaaMStpW1
namespace Go.Proofs.Ytejooaeppcjhjaa
open Go.RowKit

/-- Nothing but two blocks has changed, and new ones have come. -/
structure Grown2 (w w' : World) (g h : Nat) : Prop where
  os : w'.os = w.os
  tape : w'.tape = w.tape
  output : w'.output = w.output
  size : w.heap.size ≤ w'.heap.size
  block : ∀ k, k < w.heap.size → k ≠ g → k ≠ h → w'.heap[k]? = w.heap[k]?
theorem Grown2.of_below {w w' : World} {g h : Nat} (hb : Below w.heap.size w w') : Grown2 w w' g h := ⟨hb.os, hb.tape, hb.output, hb.size, fun k hk _ _ => hb.block k hk⟩
theorem Grown2.left {w w' : World} {g h : Nat} (hb : w.grownBy w' (some g)) : Grown2 w w' g h := ⟨hb.os, hb.tape, hb.output, hb.size, fun k hk h1 _ => hb.block k hk (fun e => h1 (Option.some.inj e))⟩
theorem Grown2.right {w w' : World} {g h : Nat} (hb : w.grownBy w' (some h)) : Grown2 w w' g h := ⟨hb.os, hb.tape, hb.output, hb.size, fun k hk _ h1 => hb.block k hk (fun e => h1 (Option.some.inj e))⟩
theorem Grown2.trans {w w1 w2 : World} {g h : Nat} (a : Grown2 w w1 g h) (b : Grown2 w1 w2 g h) : Grown2 w w2 g h :=
  ⟨b.os.trans a.os, b.tape.trans a.tape, b.output.trans a.output, Nat.le_trans a.size b.size, fun k hk h1 h2 => (b.block k (Nat.lt_of_lt_of_le hk a.size) h1 h2).trans (a.block k hk h1 h2)⟩
theorem Grown2.heap {w w' : World} {g h b : Nat} {o : Obj} (hg : Grown2 w w' g h) (h1 : b ≠ g) (h2 : b ≠ h) (hb : w.heap[b]? = some o) : w'.heap[b]? = some o :=
  (hg.block b (Array.getElem?_eq_some_iff.1 hb).1 h1 h2).trans hb
/-- What lies under both. -/
theorem Grown2.below {w w' : World} {g h B : Nat} (hg : Grown2 w w' g h) (h1 : B ≤ g) (h2 : B ≤ h) (hB : B ≤ w.heap.size) : Below B w w' :=
  ⟨hg.os, hg.tape, hg.output, hg.size, fun k hk => hg.block k (Nat.lt_of_lt_of_le hk hB) (by omega) (by omega)⟩
def shCells (h n : Nat) (ov : Bool) : Array Value := #[.int .i64 n, .slice (some ⟨h, 0, none⟩) (n * n) (n * n), .bool ov]
/-- A sheet: its order, its numbers, is one of them not finite? -/
structure SheetM (w : World) (g h n : Nat) (m : Nat → Cx) (ov : Bool) (M : List Cx) : Prop where
  len : M.length = n * n
  box : w.heap[g]? = some (.cells (shCells h n ov) 85 (0, 0))
  row : w.heap[h]? = some (.cells (M.map mkC).toArray 72 (0, 0))
  ne : g ≠ h
  num : ∀ k, k < n * n → ck (M.getD k (0, 0)) = m k
def SheetR (w : World) (g h n : Nat) (s : StS) : Prop := ∃ M, SheetM w g h n s.1 s.2 M
theorem SheetM.below {w w' : World} {g h n : Nat} {m : Nat → Cx} {ov : Bool} {M : List Cx} (H : SheetM w g h n m ov M) (hb : Below w.heap.size w w') : SheetM w' g h n m ov M :=
  ⟨H.len, heap_laterS hb H.box, heap_laterS hb H.row, H.ne, H.num⟩
theorem SheetR.below {w w' : World} {g h n : Nat} {s : StS} (H : SheetR w g h n s) (hb : Below w.heap.size w w') : SheetR w' g h n s := by
  obtain ⟨M, hM⟩ := H
  exact ⟨M, hM.below hb⟩
theorem SheetR.lt {w : World} {g h n : Nat} {s : StS} (H : SheetR w g h n s) : g < w.heap.size ∧ h < w.heap.size := by
  obtain ⟨M, hM⟩ := H
  exact ⟨(Array.getElem?_eq_some_iff.1 hM.box).1, (Array.getElem?_eq_some_iff.1 hM.row).1⟩
theorem row_at {M : List Cx} {k : Nat} (h : k < M.length) : (M.map mkC).toArray[k]? = some (mkC (M.getD k (0, 0))) := by
  rw [List.getElem?_toArray, List.getElem?_map, List.getD_eq_getElem?_getD, List.getElem?_eq_getElem h]; rfl
theorem heap_setOther {w : World} {g b o : Nat} {v : Value} {x : Obj} (hne : b ≠ g) (h : w.heap[b]? = some x) : (w.setCell ⟨g, o, none⟩ v).heap[b]? = some x :=
  (Below.heap_setCell w ⟨g, o, none⟩ v b hne).trans h
theorem SheetM.c0 {w : World} {g h n : Nat} {m : Nat → Cx} {ov : Bool} {M : List Cx} (H : SheetM w g h n m ov M) : w.cell? ⟨g, 0, none⟩ = some (.int .i64 n) := (cells_ofS H.box).1 0 _ rfl
theorem SheetM.c1 {w : World} {g h n : Nat} {m : Nat → Cx} {ov : Bool} {M : List Cx} (H : SheetM w g h n m ov M) : w.cell? ⟨g, 1, none⟩ = some (.slice (some ⟨h, 0, none⟩) (n * n) (n * n)) := (cells_ofS H.box).1 1 _ rfl
theorem SheetM.c2 {w : World} {g h n : Nat} {m : Nat → Cx} {ov : Bool} {M : List Cx} (H : SheetM w g h n m ov M) : w.cell? ⟨g, 2, none⟩ = some (.bool ov) := (cells_ofS H.box).1 2 _ rfl
/-- A number put to its place. -/
theorem SheetM.put {w : World} {g h n k : Nat} {m : Nat → Cx} {ov : Bool} {M : List Cx} (H : SheetM w g h n m ov M) (hk : k < n * n) (z : Cx) :
    SheetM (w.setCell ⟨h, k, none⟩ (mkC z)) g h n (upd m k (ck z)) ov (M.set k z) := by
  refine ⟨by rw [List.length_set, H.len], heap_setOther H.ne H.box, ?_, H.ne, fun j hj => ?_⟩
  · have h4 := blk_setS (o := k) H.row (mkC z)
    rw [List.setIfInBounds_toArray, ← List.map_set] at h4
    exact h4
  · by_cases e : j = k
    · subst e
      rw [upd_same, List.getD_eq_getElem?_getD, List.getElem?_set_self (by rw [H.len]; exact hk)]; rfl
    · rw [upd_ne _ _ e, ← H.num j hj, List.getD_eq_getElem?_getD, List.getD_eq_getElem?_getD, List.getElem?_set_ne (Ne.symm e)]
theorem SheetM.mark {w : World} {g h n : Nat} {m : Nat → Cx} {ov : Bool} {M : List Cx} (H : SheetM w g h n m ov M) (b : Bool) :
    SheetM (w.setCell ⟨g, 2, none⟩ (.bool b)) g h n m b M := by
  refine ⟨H.len, ?_, heap_setOther H.ne.symm H.row, H.ne, H.num⟩
  have h4 := blk_setS (o := 2) H.box (.bool b)
  exact h4
/-- What a stamping function leaves. -/
def RetSh (g h n : Nat) (s : StS) (w : World) (en : Ending) (w' : World) : Prop := en = .returned (.tuple #[]) ∧ SheetR w' g h n s ∧ Grown2 w w' g h
end Go.Proofs.Ytejooaeppcjhjaa
