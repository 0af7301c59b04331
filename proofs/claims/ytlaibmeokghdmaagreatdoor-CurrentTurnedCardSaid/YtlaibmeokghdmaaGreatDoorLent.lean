/- Walk of gridworkkit's LentSolution. -/
import Derived.Test.YtlaibmeokghdmaaGreatDoorMFit
import Derived.Deep.RegionWith
namespace Go.Proofs.YtlaibmeokghdmaaGreatDoor
open Go.RowKit

/-- Two rows of one's own and a block that holds them. -/
def BoxL (nV nA : Nat) (xV xA : List Value) (t : TypeId) (w1 wx : World) (s : Value) : Prop :=
  ∃ (g : Nat) (a b : Option Addr) (ca cb : Nat), s = .pointer (some ⟨g, 0, none⟩) ∧ w1.heap.size ≤ g ∧ wx.heap[g]? = some (.cells #[.slice a nV ca, .slice b nA cb] t (0, 0)) ∧
    wx.ownsRow w1.heap.size 47 1 (.slice a nV ca) nV xV ∧ wx.ownsRow w1.heap.size 47 1 (.slice b nA cb) nA xA ∧
    (∀ k, (Value.slice a nV ca).ownBlock = some k → (Value.slice b nA cb).ownBlock ≠ some k) ∧ (Value.slice a nV ca).ownBlock ≠ some g ∧ (Value.slice b nA cb).ownBlock ≠ some g ∧ Below w1.heap.size w1 wx
theorem boxl_new {nV nA : Nat} {xV xA : List Value} {t : TypeId} {w1 w : World} {a b : Option Addr} {ca cb : Nat} (hb : Below w1.heap.size w1 w)
    (hV : w.ownsRow w1.heap.size 47 1 (.slice a nV ca) nV xV) (hA : w.ownsRow w1.heap.size 47 1 (.slice b nA cb) nA xA)
    (hne : ∀ k, (Value.slice a nV ca).ownBlock = some k → (Value.slice b nA cb).ownBlock ≠ some k) :
    BoxL nV nA xV xA t w1 (w.alloc (.cells #[.slice a nV ca, .slice b nA cb] t)) (.pointer (some ⟨w.heap.size, 0, none⟩)) :=
  ⟨_, a, b, ca, cb, rfl, hb.size, heap_alloc_new _ _, own_none hV (World.grownBy_alloc _ _ none), own_none hA (World.grownBy_alloc _ _ none), hne,
    fun h => Nat.lt_irrefl _ (hV.lt _ h).2, fun h => Nat.lt_irrefl _ (hA.lt _ h).2, hb.alloc hb.size _⟩
theorem boxl_set {nV nA g : Nat} {xV xA : List Value} {t : TypeId} {w1 w : World} {a b : Option Addr} {ca cb : Nat} {z0 z1 : Value} (hb : Below w1.heap.size w1 w) (hg : w1.heap.size ≤ g)
    (hz : w.heap[g]? = some (.cells #[z0, z1] t (0, 0)))
    (hV : w.ownsRow w1.heap.size 47 1 (.slice a nV ca) nV xV) (hA : w.ownsRow w1.heap.size 47 1 (.slice b nA cb) nA xA)
    (hne : ∀ k, (Value.slice a nV ca).ownBlock = some k → (Value.slice b nA cb).ownBlock ≠ some k) (hVg : (Value.slice a nV ca).ownBlock ≠ some g) (hAg : (Value.slice b nA cb).ownBlock ≠ some g) :
    BoxL nV nA xV xA t w1 ((w.setCell ⟨g, 0, none⟩ (.slice a nV ca)).setCell ⟨g, 1, none⟩ (.slice b nA cb)) (.pointer (some ⟨g, 0, none⟩)) :=
  ⟨g, a, b, ca, cb, rfl, hg, by have := blk_set (o := 1) (blk_set (o := 0) hz (.slice a nV ca)) (.slice b nA cb); simpa using this,
    (hV.kept (grown_set _ _ _ _) (.inr hVg)).kept (grown_set _ _ _ _) (.inr hVg), (hA.kept (grown_set _ _ _ _) (.inr hAg)).kept (grown_set _ _ _ _) (.inr hAg), hne, hVg, hAg, (hb.setCell hg _).setCell hg _⟩
theorem row_ne_blk {w w' : World} {e size n g : Nat} {v : Value} {xs : List Value} {o : Obj} (ho : w'.ownsRow w.heap.size e size v n xs) (hz : w.heap[g]? = some o) : v.ownBlock ≠ some g := fun h => by
  have h1 := (ho.lt _ h).1
  have h2 := (Array.getElem?_eq_some_iff.1 hz).1
  omega
theorem row_ne_new {w : World} {B e size n : Nat} {v : Value} {xs : List Value} (ho : w.ownsRow B e size v n xs) : v.ownBlock ≠ some w.heap.size := fun h => Nat.lt_irrefl _ (ho.lt _ h).2
theorem rows_ne {w w' : World} {B e size n m : Nat} {v u : Value} {xs ys : List Value} (hv : w'.ownsRow w.heap.size e size v n xs) (hu : w.ownsRow B e size u m ys) : ∀ k, v.ownBlock = some k → u.ownBlock ≠ some k := fun k h1 h2 => by
  have := (hv.lt _ h1).1
  have := (hu.lt _ h2).2
  omega
theorem rows_ne_al {w w' : World} {B e size n m : Nat} {v u : Value} {xs ys : List Value} {o : Obj} (hv : w'.ownsRow (w.alloc o).heap.size e size v n xs) (hu : w.ownsRow B e size u m ys) : ∀ k, v.ownBlock = some k → u.ownBlock ≠ some k := fun k h1 h2 => by
  have h4 := (hu.lt _ h2).2
  have h3 := (hv.lt _ h1).1
  simp at h3
  omega
theorem cell_past2 {w : World} {g j : Nat} {x : Value} {o : Obj} (hg : g < w.heap.size) (h : w.cell? ⟨g, j, none⟩ = some x) : (w.alloc o).cell? ⟨g, j, none⟩ = some x :=
  (World.cell?_alloc_some w ⟨g, j, none⟩ o (by rw [h]; rfl)).trans h
theorem al_drew (w : World) (o : Obj) : Below w.heap.size w (w.alloc o).drew := ((Below.refl _ w).alloc (Nat.le_refl _) o).drew
theorem cell_past_drew {w : World} {g j : Nat} {x : Value} {o : Obj} (hg : g < w.heap.size) (h : w.cell? ⟨g, j, none⟩ = some x) : (w.alloc o).drew.cell? ⟨g, j, none⟩ = some x := cell_past2 hg h
theorem results_cell_cell {fn : Func} {p q : Tmp} {ty ty2 : TypeId} (h : fn.results = #[.cell p ty, .cell q ty2]) (tmps : Array Value) (P : Program) (w : World) :
    (results fn tmps).run P w =
      ((asAddr (tmps.getD p undef)).run P w).andThen fun a w₁ => ((loadVar ty a).run P w₁).andThen fun v w₂ => ((asAddr (tmps.getD q undef)).run P w₂).andThen fun b w₃ => ((loadVar ty2 b).run P w₃).andThen fun u w₄ => .ok (.tuple #[v, u]) w₄ := by
  simp only [results, h]
  simp [Sem.run_bind, Result.andThen]
theorem own_drew {w : World} {B e size n : Nat} {v : Value} {xs : List Value} (h : w.ownsRow B e size v n xs) : w.drew.ownsRow B e size v n xs := h
theorem ge_ne {g a b : Nat} (h1 : a ≤ g) (h2 : b < a) : ¬ g = b := by omega
theorem ge_ne2 {g a b : Nat} (h1 : a ≤ g) (h2 : b < a) : ¬ b = g := by omega
theorem ne_symm {v u : Value} (h : ∀ k, v.ownBlock = some k → u.ownBlock ≠ some k) : ∀ k, u.ownBlock = some k → v.ownBlock ≠ some k := fun k h1 h2 => h k h2 h1
/-- A solution lent, its lists with their marks. -/
def RetLentS (o : Nat) (V A : List Cx) (w : World) (en : Ending) (w' : World) : Prop :=
  ∃ (a b : Option Addr) (ca cb : Nat), en = .returned (.tuple #[.agg #[.float .f64 o, .slice a V.length ca, .slice b A.length cb], .agg #[.slice a (V.length + 6) ca, .slice b (A.length + 6) cb]]) ∧
    w'.ownsRow w.heap.size 47 1 (.slice a (V.length + 6) ca) (V.length + 6) ((V ++ marksNumbers 7 6).map mkC) ∧ w'.ownsRow w.heap.size 47 1 (.slice b (A.length + 6) cb) (A.length + 6) ((A ++ marksNumbers 7 6).map mkC) ∧
    (∀ k, (Value.slice a (V.length + 6) ca).ownBlock = some k → (Value.slice b (A.length + 6) cb).ownBlock ≠ some k) ∧ Below w.heap.size w w'
end Go.Proofs.YtlaibmeokghdmaaGreatDoor
