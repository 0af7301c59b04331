/- Walk of gridworkkit's LentSolution. -/
import Derived.Test.YtjeedckmkicnoaaGreatDoorKept
import Derived.Test.YtjeedckmkicnoaaGreatDoorMNetAt
import Derived.Test.YtjeedckmkicnoaaGreatDoorApart
import Derived.Deep.RegionWith
namespace Go.Proofs.YtjeedckmkicnoaaGreatDoor
open Go.RowKit

/-- Two rows of one's own and a block that holds them. -/
def BoxL (nV nA : Nat) (xV xA : List Value) (t : TypeId) (w1 wx : World) (s : Value) : Prop :=
  ∃ (g : Nat) (a b : Option Addr) (ca cb : Nat), s = .pointer (some ⟨g, 0, none⟩) ∧ w1.heap.size ≤ g ∧ wx.heap[g]? = some (.cells #[.slice a nV ca, .slice b nA cb] t (0, 0)) ∧
    wx.ownsRow w1.heap.size 54 1 (.slice a nV ca) nV xV ∧ wx.ownsRow w1.heap.size 54 1 (.slice b nA cb) nA xA ∧
    (∀ k, (Value.slice a nV ca).ownBlock = some k → (Value.slice b nA cb).ownBlock ≠ some k) ∧ (Value.slice a nV ca).ownBlock ≠ some g ∧ (Value.slice b nA cb).ownBlock ≠ some g ∧ Below w1.heap.size w1 wx
theorem boxl_new {nV nA : Nat} {xV xA : List Value} {t : TypeId} {w1 w : World} {a b : Option Addr} {ca cb : Nat} (hb : Below w1.heap.size w1 w)
    (hV : w.ownsRow w1.heap.size 54 1 (.slice a nV ca) nV xV) (hA : w.ownsRow w1.heap.size 54 1 (.slice b nA cb) nA xA)
    (hne : ∀ k, (Value.slice a nV ca).ownBlock = some k → (Value.slice b nA cb).ownBlock ≠ some k) :
    BoxL nV nA xV xA t w1 (w.alloc (.cells #[.slice a nV ca, .slice b nA cb] t)) (.pointer (some ⟨w.heap.size, 0, none⟩)) :=
  ⟨_, a, b, ca, cb, rfl, hb.size, heap_alloc_new _ _, own_none hV (World.grownBy_alloc _ _ none), own_none hA (World.grownBy_alloc _ _ none), hne,
    fun h => Nat.lt_irrefl _ (hV.lt _ h).2, fun h => Nat.lt_irrefl _ (hA.lt _ h).2, hb.alloc hb.size _⟩
theorem boxl_set {nV nA g : Nat} {xV xA : List Value} {t : TypeId} {w1 w : World} {a b : Option Addr} {ca cb : Nat} {z0 z1 : Value} (hb : Below w1.heap.size w1 w) (hg : w1.heap.size ≤ g)
    (hz : w.heap[g]? = some (.cells #[z0, z1] t (0, 0)))
    (hV : w.ownsRow w1.heap.size 54 1 (.slice a nV ca) nV xV) (hA : w.ownsRow w1.heap.size 54 1 (.slice b nA cb) nA xA)
    (hne : ∀ k, (Value.slice a nV ca).ownBlock = some k → (Value.slice b nA cb).ownBlock ≠ some k) (hVg : (Value.slice a nV ca).ownBlock ≠ some g) (hAg : (Value.slice b nA cb).ownBlock ≠ some g) :
    BoxL nV nA xV xA t w1 ((w.setCell ⟨g, 0, none⟩ (.slice a nV ca)).setCell ⟨g, 1, none⟩ (.slice b nA cb)) (.pointer (some ⟨g, 0, none⟩)) :=
  ⟨g, a, b, ca, cb, rfl, hg, by have := blk_set (o := 1) (blk_set (o := 0) hz (.slice a nV ca)) (.slice b nA cb); simpa using this,
    (hV.kept (grown_set _ _ _ _) (.inr hVg)).kept (grown_set _ _ _ _) (.inr hVg), (hA.kept (grown_set _ _ _ _) (.inr hAg)).kept (grown_set _ _ _ _) (.inr hAg), hne, hVg, hAg, (hb.setCell hg _).setCell hg _⟩
theorem row_ne_blk {w w' : World} {e size n g : Nat} {v : Value} {xs : List Value} {o : Obj} (ho : w'.ownsRow w.heap.size e size v n xs) (hz : w.heap[g]? = some o) : v.ownBlock ≠ some g := fun h => by
  have h1 := (ho.lt _ h).1
  have h2 := (Array.getElem?_eq_some_iff.1 hz).1
  omega
theorem row_ne_new {w : World} {B e size n : Nat} {v : Value} {xs : List Value} (ho : w.ownsRow B e size v n xs) : v.ownBlock ≠ some w.heap.size := fun h => Nat.lt_irrefl _ (ho.lt _ h).2
theorem rows_ne {w w' : World} {B e size n m : Nat} {v u : Value} {xs ys : List Value} (hv : w'.ownsRow w.heap.size e size v n xs) (hu : w.ownsRow B e size u m ys) : ∀ k, v.ownBlock = some k → u.ownBlock ≠ some k := fun k h1 h2 => by
  have := (hv.lt _ h1).1
  have := (hu.lt _ h2).2
  omega
theorem rows_ne_al {w w' : World} {B e size n m : Nat} {v u : Value} {xs ys : List Value} {o : Obj} (hv : w'.ownsRow (w.alloc o).heap.size e size v n xs) (hu : w.ownsRow B e size u m ys) : ∀ k, v.ownBlock = some k → u.ownBlock ≠ some k := fun k h1 h2 => by
  have h4 := (hu.lt _ h2).2
  have h3 := (hv.lt _ h1).1
  simp at h3
  omega
theorem cell_past2 {w : World} {g j : Nat} {x : Value} {o : Obj} (hg : g < w.heap.size) (h : w.cell? ⟨g, j, none⟩ = some x) : (w.alloc o).cell? ⟨g, j, none⟩ = some x :=
  (World.cell?_alloc_some w ⟨g, j, none⟩ o (by rw [h]; rfl)).trans h
theorem al_drew (w : World) (o : Obj) : Below w.heap.size w (w.alloc o).drew := ((Below.refl _ w).alloc (Nat.le_refl _) o).drew
theorem cell_past_drew {w : World} {g j : Nat} {x : Value} {o : Obj} (hg : g < w.heap.size) (h : w.cell? ⟨g, j, none⟩ = some x) : (w.alloc o).drew.cell? ⟨g, j, none⟩ = some x := cell_past2 hg h
theorem results_cell_cell {fn : Func} {p q : Tmp} {ty ty2 : TypeId} (h : fn.results = #[.cell p ty, .cell q ty2]) (tmps : Array Value) (P : Program) (w : World) :
    (results fn tmps).run P w =
      ((asAddr (tmps.getD p undef)).run P w).andThen fun a w₁ => ((loadVar ty a).run P w₁).andThen fun v w₂ => ((asAddr (tmps.getD q undef)).run P w₂).andThen fun b w₃ => ((loadVar ty2 b).run P w₃).andThen fun u w₄ => .ok (.tuple #[v, u]) w₄ := by
  simp only [results, h]
  simp [Sem.run_bind, Result.andThen]
theorem own_drew {w : World} {B e size n : Nat} {v : Value} {xs : List Value} (h : w.ownsRow B e size v n xs) : w.drew.ownsRow B e size v n xs := h
theorem ge_ne {g a b : Nat} (h1 : a ≤ g) (h2 : b < a) : ¬ g = b := by omega
theorem ge_ne2 {g a b : Nat} (h1 : a ≤ g) (h2 : b < a) : ¬ b = g := by omega
theorem ne_symm {v u : Value} (h : ∀ k, v.ownBlock = some k → u.ownBlock ≠ some k) : ∀ k, u.ownBlock = some k → v.ownBlock ≠ some k := fun k h1 h2 => h k h2 h1
/-- A solution lent, its lists with their marks. -/
def RetLentS (o : Nat) (V A : List Cx) (w : World) (en : Ending) (w' : World) : Prop :=
  ∃ (a b : Option Addr) (ca cb : Nat), en = .returned (.tuple #[.agg #[.float .f64 o, .slice a V.length ca, .slice b A.length cb], .agg #[.slice a (V.length + 6) ca, .slice b (A.length + 6) cb]]) ∧
    w'.ownsRow w.heap.size 54 1 (.slice a (V.length + 6) ca) (V.length + 6) ((V ++ marksNumbers 7 6).map mkC) ∧ w'.ownsRow w.heap.size 54 1 (.slice b (A.length + 6) cb) (A.length + 6) ((A ++ marksNumbers 7 6).map mkC) ∧
    (∀ k, (Value.slice a (V.length + 6) ca).ownBlock = some k → (Value.slice b (A.length + 6) cb).ownBlock ≠ some k) ∧ Below w.heap.size w w'
set_option maxRecDepth 100000 in
set_option maxHeartbeats 1000000 in
theorem lentsol_any (v1 v2 : Value) (o : Nat) (V A : List Cx) (w : World) (h1 : IsSl w 1 v1 V.length (V.map mkC)) (h2 : IsSl w 1 v2 A.length (A.map mkC)) (hlv : V.length * 16 ≤ 140737488351232) (hla : A.length * 16 ≤ 140737488351232) :
    Calls Tryz.prog 18 #[.agg #[.float .f64 o, v1, v2]] w (RetLentS o V A w) := by
  obtain ⟨a1, c1, rfl⟩ := h1.form
  obtain ⟨a2, c2, rfl⟩ := h2.form
  have hbw : Below w.heap.size w (((w.alloc (.cells #[.float .f64 o, .slice a1 V.length c1, .slice a2 A.length c2] 50)).alloc (.cells #[.float .f64 0, .slice none 0 0, .slice none 0 0] 50)).alloc (.cells #[.slice none 0 0, .slice none 0 0] 51)) := (((Below.refl w.heap.size w).alloc (Nat.le_refl _) _).alloc (by simp) _).alloc (by simp; omega) _
  have hs0 := heap_past_of (o' := (.cells #[.slice none 0 0, .slice none 0 0] 51)) (heap_past_of (o' := (.cells #[.float .f64 0, .slice none 0 0, .slice none 0 0] 50)) (heap_alloc_new w (.cells #[.float .f64 o, .slice a1 V.length c1, .slice a2 A.length c2] 50)))
  have hr1 := heap_past_of (o' := (.cells #[.slice none 0 0, .slice none 0 0] 51)) (heap_alloc_new (w.alloc (.cells #[.float .f64 o, .slice a1 V.length c1, .slice a2 A.length c2] 50)) (.cells #[.float .f64 0, .slice none 0 0, .slice none 0 0] 50))
  have hq1 := heap_alloc_new ((w.alloc (.cells #[.float .f64 o, .slice a1 V.length c1, .slice a2 A.length c2] 50)).alloc (.cells #[.float .f64 0, .slice none 0 0, .slice none 0 0] 50)) (.cells #[.slice none 0 0, .slice none 0 0] 51)
  rw [show (w.alloc (.cells #[.float .f64 o, .slice a1 V.length c1, .slice a2 A.length c2] 50)).heap.size = w.heap.size + 1 by simp] at hr1
  rw [show ((w.alloc (.cells #[.float .f64 o, .slice a1 V.length c1, .slice a2 A.length c2] 50)).alloc (.cells #[.float .f64 0, .slice none 0 0, .slice none 0 0] 50)).heap.size = w.heap.size + 1 + 1 by simp] at hq1
  have HR1 := hid hr1
  have HQ1 := hid hq1
  clear hr1 hq1
  have HVS := hid (h1.below hbw (Nat.le_refl _))
  have HAS := hid (h2.below hbw (Nat.le_refl _))
  have HBW := hid hbw
  have HS := hid hs0
  clear h1 h2 hbw hs0
  go_enter Tryz.func18, Tryz.ntmps18
  go_upto_region 1 with fail
  generalize ((w.alloc (.cells #[.float .f64 o, .slice a1 V.length c1, .slice a2 A.length c2] 50)).alloc (.cells #[.float .f64 0, .slice none 0 0, .slice none 0 0] 50)).alloc (.cells #[.slice none 0 0, .slice none 0 0] 51) = w1 at *
  have hsc := (block_cells HS.out).1
  have s0 := hsc 0 _ rfl
  have s1 := hsc 1 _ rfl
  have s2 := hsc 2 _ rfl
  clear hsc
  have HLT1 := hid (Array.getElem?_eq_some_iff.1 HS.out).1
  go_cut [4] (fun s4 wx => BoxL (V.length + 6) (A.length + 6) ((V ++ marksNumbers 7 6).map mkC) ((A ++ marksNumbers 7 6).map mkC) 51 w1 wx s4)
  case first =>
    go_region_held3 (fun w' => Below w1.heap.size w1 w' ∧ w'.cell? ⟨w.heap.size, 0, none⟩ = some (.float .f64 o) ∧ w'.cell? ⟨w.heap.size, 1, none⟩ = some (.slice a1 V.length c1) ∧ w'.cell? ⟨w.heap.size, 2, none⟩ = some (.slice a2 A.length c2))
      (((try dsimp only); (try go_split_ands); refine ⟨?_, ?_, ?_, ?_⟩ <;> (first | with_reducible exact HBT.out | with_reducible exact s0 | with_reducible exact s1 | with_reducible exact s2 | with_reducible exact HBN.out | with_reducible exact HBT.out.alloc HBT.out.size _ | with_reducible exact (HBT.out.setCell HG.out _).setCell HG.out _ | with_reducible exact (Below.refl _ _).drew | with_reducible assumption | with_reducible exact cell_later hb (by assumption) | with_reducible exact (Below.refl _ _).drew.alloc (Nat.le_refl _) _ | with_reducible exact al_drew _ _ | with_reducible exact cell_past_drew HLT1.out s0 | with_reducible exact cell_past_drew HLT1.out s1 | with_reducible exact cell_past_drew HLT1.out s2 | with_reducible exact cell_past2 (Nat.lt_of_lt_of_le HLT1.out HBT.out.size) t0.out | with_reducible exact cell_store_ne hng2 (cell_store_ne hng2 t0.out) | with_reducible exact t0.out | with_reducible exact cell_past2 (Nat.lt_of_lt_of_le HLT1.out HBT.out.size) t1.out | with_reducible exact cell_store_ne hng2 (cell_store_ne hng2 t1.out) | with_reducible exact t1.out | with_reducible exact cell_past2 (Nat.lt_of_lt_of_le HLT1.out HBT.out.size) t2.out | with_reducible exact cell_store_ne hng2 (cell_store_ne hng2 t2.out) | with_reducible exact t2.out | with_reducible exact cell_past2 HLT1.out (by assumption) | with_reducible exact cell_store_ne hng2 (cell_store_ne hng2 (by assumption)) | (go_keep; done))))
      (first | (go_at_call_of 46 (Value.slice a1 V.length c1); (refine (lentnumbers_any _ V _ (HVS.out.below (by first | assumption | exact (Below.refl _ _).drew | exact al_drew _ _ | (go_split_ands; assumption)) (Nat.le_refl _)) (by omega)).mono ?_; rintro e w' ⟨vV, xsV, rfl, hown, rfl, hb⟩; obtain ⟨aV, cV, rfl⟩ := (IsSl.of_own hown).form; have HBN := hid (below_step (show Below w1.heap.size w1 _ from (by first | assumption | exact (Below.refl _ _).drew | exact al_drew _ _ | (go_split_ands; assumption))) hb); have HRV := hid (own_base hown (show w1.heap.size ≤ _ from (show Below w1.heap.size w1 _ from (by first | assumption | exact (Below.refl _ _).drew | exact al_drew _ _ | (go_split_ands; assumption))).size)); (first | (have HVG := hid (show _ ≠ some w1.heap.size from row_ne_blk hown (show ((w1.alloc (.cells #[.slice none 0 0, .slice none 0 0] 51)).drew).heap[w1.heap.size]? = some (.cells #[.slice none 0 0, .slice none 0 0] 51) from heap_alloc_new w1 (.cells #[.slice none 0 0, .slice none 0 0] 51))); have HZ := hid (heap_later2 hb (show ((w1.alloc (.cells #[.slice none 0 0, .slice none 0 0] 51)).drew).heap[w1.heap.size]? = some (.cells #[.slice none 0 0, .slice none 0 0] 51) from heap_alloc_new w1 (.cells #[.slice none 0 0, .slice none 0 0] 51))); have HG := hid (Nat.le_refl w1.heap.size); have zq := block_cells HZ.out; have z0 := zq.1 0 _ rfl; have z1 := zq.1 1 _ rfl; have y0 := zq.2 0; have y1 := zq.2 1; clear zq; have hng := ge_ne HG.out HLT1.out; have hng2 := ge_ne2 HG.out HLT1.out) | (with_reducible have HVG := hid (row_ne_blk hown (heap_alloc_new _ (.cells #[.slice none 0 0, .slice none 0 0] 51))); have HG := hid HBT.out.size; have HZ := hid (heap_later2 hb (heap_alloc_new _ (.cells #[.slice none 0 0, .slice none 0 0] 51))); have zq := block_cells HZ.out; have z0 := zq.1 0 _ rfl; have z1 := zq.1 1 _ rfl; have y0 := zq.2 0; have y1 := zq.2 1; clear zq; have hng := ge_ne HG.out HLT1.out; have hng2 := ge_ne2 HG.out HLT1.out) | (with_reducible have HVG := hid (row_ne_blk hown HZ.out); have HZ := hid (heap_later2 hb HZ.out); have zq := block_cells HZ.out; have z0 := zq.1 0 _ rfl; have z1 := zq.1 1 _ rfl; have y0 := zq.2 0; have y1 := zq.2 1; clear zq; have hng := ge_ne HG.out HLT1.out; have hng2 := ge_ne2 HG.out HLT1.out) | skip); (first | (with_reducible have HNE := hid (rows_ne hown HRA.out); have HRA := hid (own_none HRA.out (grown_of_below hb none))) | (with_reducible have HNE := hid (rows_ne_al hown HRA.out); have HAG := hid (row_ne_new HRA.out); have HRA := hid (own_none (own_none HRA.out (World.grownBy_alloc _ _ none)) (grown_of_below hb none))) | skip); have HBT := hid HBN.out; have qs := (block_cells (heap_later2 HBN.out HS.out)).1; have t0 := hid (show w'.cell? ⟨w.heap.size, 0, none⟩ = some (.float .f64 o) from qs 0 _ rfl); have t1 := hid (show w'.cell? ⟨w.heap.size, 1, none⟩ = some (.slice a1 V.length c1) from qs 1 _ rfl); have t2 := hid (show w'.cell? ⟨w.heap.size, 2, none⟩ = some (.slice a2 A.length c2) from qs 2 _ rfl); clear qs hown)) | (go_at_call_of 46 (Value.slice a2 A.length c2); (refine (lentnumbers_any _ A _ (HAS.out.below (by first | assumption | exact (Below.refl _ _).drew | exact al_drew _ _ | (go_split_ands; assumption)) (Nat.le_refl _)) (by omega)).mono ?_; rintro e w' ⟨vA, xsA, rfl, hown, rfl, hb⟩; obtain ⟨aA, cA, rfl⟩ := (IsSl.of_own hown).form; have HBN := hid (below_step (show Below w1.heap.size w1 _ from (by first | assumption | exact (Below.refl _ _).drew | exact al_drew _ _ | (go_split_ands; assumption))) hb); have HRA := hid (own_base hown (show w1.heap.size ≤ _ from (show Below w1.heap.size w1 _ from (by first | assumption | exact (Below.refl _ _).drew | exact al_drew _ _ | (go_split_ands; assumption))).size)); (first | (have HAG := hid (show _ ≠ some w1.heap.size from row_ne_blk hown (show ((w1.alloc (.cells #[.slice none 0 0, .slice none 0 0] 51)).drew).heap[w1.heap.size]? = some (.cells #[.slice none 0 0, .slice none 0 0] 51) from heap_alloc_new w1 (.cells #[.slice none 0 0, .slice none 0 0] 51))); have HZ := hid (heap_later2 hb (show ((w1.alloc (.cells #[.slice none 0 0, .slice none 0 0] 51)).drew).heap[w1.heap.size]? = some (.cells #[.slice none 0 0, .slice none 0 0] 51) from heap_alloc_new w1 (.cells #[.slice none 0 0, .slice none 0 0] 51))); have HG := hid (Nat.le_refl w1.heap.size); have zq := block_cells HZ.out; have z0 := zq.1 0 _ rfl; have z1 := zq.1 1 _ rfl; have y0 := zq.2 0; have y1 := zq.2 1; clear zq; have hng := ge_ne HG.out HLT1.out; have hng2 := ge_ne2 HG.out HLT1.out) | (with_reducible have HAG := hid (row_ne_blk hown (heap_alloc_new _ (.cells #[.slice none 0 0, .slice none 0 0] 51))); have HG := hid HBT.out.size; have HZ := hid (heap_later2 hb (heap_alloc_new _ (.cells #[.slice none 0 0, .slice none 0 0] 51))); have zq := block_cells HZ.out; have z0 := zq.1 0 _ rfl; have z1 := zq.1 1 _ rfl; have y0 := zq.2 0; have y1 := zq.2 1; clear zq; have hng := ge_ne HG.out HLT1.out; have hng2 := ge_ne2 HG.out HLT1.out) | (with_reducible have HAG := hid (row_ne_blk hown HZ.out); have HZ := hid (heap_later2 hb HZ.out); have zq := block_cells HZ.out; have z0 := zq.1 0 _ rfl; have z1 := zq.1 1 _ rfl; have y0 := zq.2 0; have y1 := zq.2 1; clear zq; have hng := ge_ne HG.out HLT1.out; have hng2 := ge_ne2 HG.out HLT1.out) | skip); (first | (with_reducible have HNE := hid (ne_symm (rows_ne hown HRV.out)); have HRV := hid (own_none HRV.out (grown_of_below hb none))) | (with_reducible have HNE := hid (ne_symm (rows_ne_al hown HRV.out)); have HVG := hid (row_ne_new HRV.out); have HRV := hid (own_none (own_none HRV.out (World.grownBy_alloc _ _ none)) (grown_of_below hb none))) | skip); have HBT := hid HBN.out; have qs := (block_cells (heap_later2 HBN.out HS.out)).1; have t0 := hid (show w'.cell? ⟨w.heap.size, 0, none⟩ = some (.float .f64 o) from qs 0 _ rfl); have t1 := hid (show w'.cell? ⟨w.heap.size, 1, none⟩ = some (.slice a1 V.length c1) from qs 1 _ rfl); have t2 := hid (show w'.cell? ⟨w.heap.size, 2, none⟩ = some (.slice a2 A.length c2) from qs 2 _ rfl); clear qs hown)))
    all_goals (go_wp2_with fail)
    all_goals go_meet
    all_goals first
      | exact boxl_new HBT.out HRV.out HRA.out HNE.out
      | exact boxl_set HBT.out HG.out HZ.out HRV.out HRA.out HNE.out HVG.out HAG.out
  case rest =>
    obtain ⟨g, a, b, ca, cb, rfl, hg, hblk, hV, hA, hne, hVg, hAg, hb⟩ := hcut
    have HLV := hid (IsSl.cap (IsSl.of_own hV))
    have HLA := hid (IsSl.cap (IsSl.of_own hA))
    obtain ⟨ga, ca2, hva, _⟩ := hV.form (by omega)
    obtain ⟨gb, cb2, hvb, _⟩ := hA.form (by omega)
    cases hva
    cases hvb
    have hcv : (V.length : Int) ≤ (ca : Int) := by have := HLV.out; omega
    have hca : (A.length : Int) ≤ (cb : Int) := by have := HLA.out; omega
    have hgc := (block_cells hblk).1
    have z0 := hgc 0 _ rfl
    have z1 := hgc 1 _ rfl
    obtain ⟨hsc, fs⟩ := block_cells (heap_later2 hb HS.out)
    have s0 := hsc 0 _ rfl
    have s1 := hsc 1 _ rfl
    have s2 := hsc 2 _ rfl
    obtain ⟨hrc, fr1⟩ := block_cells (heap_later2 hb HR1.out)
    have r0 := hrc 0 _ rfl
    have r1 := hrc 1 _ rfl
    have r2 := hrc 2 _ rfl
    obtain ⟨hqc, fq⟩ := block_cells (heap_later2 hb HQ1.out)
    have q0 := hqc 0 _ rfl
    have q1 := hqc 1 _ rfl
    have HLT3 := hid (Array.getElem?_eq_some_iff.1 HQ1.out).1
    have HG := hid hg
    have HVO := hid hV
    have HAO := hid hA
    have HNE := hid hne
    have HBF := hid (below_next HBW.out hb)
    have hg1 : ¬ g = w.heap.size := by have := HLT3.out; omega
    have hg2 : ¬ w.heap.size = g := by have := HLT3.out; omega
    have hg3 : ¬ g = w.heap.size + 1 := by have := HLT3.out; omega
    have hg4 : ¬ w.heap.size + 1 = g := by have := HLT3.out; omega
    have hg5 : ¬ g = w.heap.size + 1 + 1 := by have := HLT3.out; omega
    have hg6 : ¬ w.heap.size + 1 + 1 = g := by have := HLT3.out; omega
    have hg7 : ¬ g = w.heap.size + 2 := by have := HLT3.out; omega
    have hg8 : ¬ w.heap.size + 2 = g := by have := HLT3.out; omega
    have hlt3 := HLT3.out
    clear hgc hsc hrc hqc hblk hV hA hne hVg hAg hb hg
    go_upto_region 4 with fail
    go_region
    all_goals (go_wp2_with fail)
    all_goals (try simp only [Exit.inBlock, Exit.then])
    all_goals (refine bodyPost_ret (v := .tuple #[.agg #[.float .f64 o, .slice (some ⟨ga, 0, none⟩) V.length ca, .slice (some ⟨gb, 0, none⟩) A.length cb], .agg #[.slice (some ⟨ga, 0, none⟩) (V.length + 6) ca, .slice (some ⟨gb, 0, none⟩) (A.length + 6) cb]]) ?_ rfl ⟨_, _, ca, cb, rfl, (own_base (B' := w1.heap.size) (by repeat (first | with_reducible exact HVO.out | with_reducible refine own_drew ?_ | with_reducible refine ownsRow_setCell_below ?_ (by dsimp only; omega) _)) (by omega)), (own_base (B' := w1.heap.size) (by repeat (first | with_reducible exact HAO.out | with_reducible refine own_drew ?_ | with_reducible refine ownsRow_setCell_below ?_ (by dsimp only; omega) _)) (by omega)), HNE.out, (by repeat (first | with_reducible exact HBF.out | with_reducible refine Below.drew ?_ | with_reducible refine Below.setCell ?_ (by dsimp only; omega) _))⟩)
    all_goals (rw [results_cell_cell rfl]; go_simp)
end Go.Proofs.YtjeedckmkicnoaaGreatDoor
