/- a part of the proof of the last text -/
import Derived.Test.YtdepiggjneoopaaGreatDoorZTp5
import Derived.Test.YtdepiggjneoopaaGreatDoorZReg3
namespace Go.Proofs.YtdepiggjneoopaaGreatDoor
set_option linter.all false
set_option maxHeartbeats 4000000
set_option maxRecDepth 100000
open Go.RowKit
theorem news_atB {w : World} {b t : Nat} {x : Value} (h : w.heap[b]? = some (.cells #[x] t (0, 0))) : ∀ j u, ([x] : List Value)[j]? = some u → w.cell? ((⟨b, 0, none⟩ : Addr).add j) = some u := fun j u hj => by
  cases j with
  | zero => simp only [Addr.add]; rw [← hj]; exact (cells_ofS h).1 0 x rfl
  | succ j => simp at hj
theorem heap_putB {w : World} {g b o : Nat} {v : Value} {x : Obj} (hne : b ≠ g) (h : w.heap[b]? = some x) : (w.setCell ⟨g, o, none⟩ v).heap[b]? = some x := (Below.heap_setCell w ⟨g, o, none⟩ v b hne).trans h
/-- An entry of four. -/
def elq (a b c d : Cx) (i j : Nat) : Cx := if i = 0 then (if j = 0 then a else b) else (if j = 0 then c else d)
/-- The first k products of a row and a column, added up. -/
def dotP (A B : Nat → Nat → Cx) (i j : Nat) : Nat → Cx
  | 0 => (fc 0, fc 0)
  | k + 1 => cadd (dotP A B i j k) (cmul (A i k) (B k j))
def elK (a b c d : Cx) (i j : Nat) : Cx := ck (elq a b c d i j)
/-- Two matrices in memory, of four numbers each. -/
def Two22 (p1 p2 g1 o1 c1 g2 o2 c2 : Nat) (a1 a2 a3 a4 b1 b2 b3 b4 : Cx) (w : World) : Prop := w.heap[p1]? = some (.cells #[.int .i64 2, .int .i64 2, .slice (some ⟨g1, o1, none⟩) 4 c1] 43 (0, 0)) ∧ w.heap[p2]? = some (.cells #[.int .i64 2, .int .i64 2, .slice (some ⟨g2, o2, none⟩) 4 c2] 43 (0, 0)) ∧ IsSl w 1 (.slice (some ⟨g1, o1, none⟩) 4 c1) 4 [mkC a1, mkC a2, mkC a3, mkC a4] ∧ IsSl w 1 (.slice (some ⟨g2, o2, none⟩) 4 c2) 4 [mkC b1, mkC b2, mkC b3, mkC b4]
theorem Two22.below {p1 p2 g1 o1 c1 g2 o2 c2 : Nat} {a1 a2 a3 a4 b1 b2 b3 b4 : Cx} {w w' : World} (h : Two22 p1 p2 g1 o1 c1 g2 o2 c2 a1 a2 a3 a4 b1 b2 b3 b4 w) (hb : Below w.heap.size w w') : Two22 p1 p2 g1 o1 c1 g2 o2 c2 a1 a2 a3 a4 b1 b2 b3 b4 w' :=
  ⟨heap_next hb h.1, heap_next hb h.2.1, h.2.2.1.below hb (Nat.le_refl _), h.2.2.2.below hb (Nat.le_refl _)⟩
/-- The numbers of a product, row by row. -/
def prodL (A B : Nat → Nat → Cx) : List Cx := [dotP A B 0 0 2, dotP A B 0 1 2, dotP A B 1 0 2, dotP A B 1 1 2]
theorem prod_at {A B : Nat → Nat → Cx} {i j : Nat} (hi : i < 2) (hj : j < 2) : (prodL A B).take (2 * i + j) ++ [dotP A B i j 2] = (prodL A B).take (2 * i + (j + 1)) := by
  rcases (show i = 0 ∨ i = 1 by omega) with rfl | rfl <;> rcases (show j = 0 ∨ j = 1 by omega) with rfl | rfl <;> rfl
def OneC (c : Cx) (v : Value) (w : World) (lo hi : Nat) : Prop := ∃ z : Cx, ck z = c ∧ OneD (mkC z) 48 v w lo hi
theorem OneC.later {c : Cx} {lo hi : Nat} {v : Value} {w w' : World} (h : OneC c v w lo hi) (hb : Below w.heap.size w w') : OneC c v w' lo hi := by
  obtain ⟨z, h1, h2⟩ := h
  exact ⟨z, h1, h2.later hb⟩
set_option maxRecDepth 100000 in
set_option maxHeartbeats 1000000 in
theorem z_any (r c : Int) (v : Value) (xs : List Cx) (w : World) (hv : IsSl w 1 v xs.length (xs.map mkC)) :
    Calls Tryz.prog 19 #[.agg #[.int .i64 r, .int .i64 c, v]] w (RetM2 (frM yQ r c xs) w) := by
  obtain ⟨av, cp, rfl⟩ := hv.form
  obtain ⟨t1, t2, t3⟩ := two_blks w #[.int .i64 r, .int .i64 c, .slice av xs.length cp] #[.int .i64 0, .int .i64 0, .slice none 0 0] 43 43
  have HS := hid t1
  have HT := hid t2
  have HB := hid t3
  have HV := hid (hv.below t3 (Nat.le_refl _))
  clear t1 t2 t3 hv
  obtain ⟨rr, D, ke, hS⟩ : ∃ rr D ke, frM yQ r c xs = ((rr, D), ke) := ⟨_, _, _, rfl⟩
  have HSS := hid hS
  clear hS
  go_enter Tryz.func19, Tryz.ntmps19
  go_upto_region 1 with fail
  generalize (w.alloc (.cells #[.int .i64 r, .int .i64 c, .slice av xs.length cp] 43)).alloc (.cells #[.int .i64 0, .int .i64 0, .slice none 0 0] 43) = w1 at *
  obtain ⟨gs, hgs⟩ : ∃ gs, w.heap.size = gs := ⟨_, rfl⟩
  obtain ⟨gt, hgt⟩ : ∃ gt, gs + 1 = gt := ⟨_, rfl⟩
  have HLE := hid (show w.heap.size ≤ gt by omega)
  rw [hgs] at HS HT ⊢
  rw [hgt] at HT ⊢
  have HGL := hid (show gs ≤ gt by omega)
  clear hgs hgt
  have hsc := block_cells HS.out
  have s0 := hsc.1 0 _ rfl
  have s1 := hsc.1 1 _ rfl
  have s2 := hsc.1 2 _ rfl
  clear hsc
  have HGT := hid (show gt < w1.heap.size from (Array.getElem?_eq_some_iff.1 HT.out).1)
  go_wp2_with (go_at_call 18; refine (y_any r c _ xs _ HV.out).mono ?_; rintro e w2 ⟨v2, ys, rfl, hys, hown, hb⟩; have HT1 := hid (heap_later2 hb HT.out); have HB1 := hid (below_next HB.out hb); rw [HSS.out] at hys ⊢; have HYS := hid hys; have HOW := hid hown; obtain ⟨ar, cr, rfl⟩ := (IsSl.of_own hown).form; clear hys hown; have hsc := block_cells HT1.out; have t0 := hsc.1 0 _ rfl; have t1 := hsc.1 1 _ rfl; have t2 := hsc.1 2 _ rfl; have f0 := hsc.2 0; have f1 := hsc.2 1; have f2 := hsc.2 2; clear hsc; clear hb )
  (try simp only [Exit.inBlock, Exit.then])
  (try rw [Exit.noGoto_ret])
  refine bodyPost_ret (v := .tuple #[.agg #[.int .i64 rr, .int .i64 rr, .slice ar ys.length cr], .int .i64 ke]) ?_ rfl ⟨.slice ar ys.length cr, ys, by rw [HSS.out], by rw [HSS.out]; exact HYS.out, (HOW.out.mono (by have := HB.out.size; omega)).kept (grown_m3 w2 gt (.int .i64 rr) (.int .i64 rr) (.slice ar ys.length cr)) (.inr (fun e => by have h1 := (HOW.out.lt _ e).1; have := HGT.out; omega)), below_m3 HB1.out HLE.out⟩
  rw [results_cell_tmp rfl]
  go_simp
set_option maxRecDepth 100000 in
set_option maxHeartbeats 1000000 in
theorem fromchain_any (r c : Int) (v : Value) (xs : List Cx) (w : World) (hv : IsSl w 1 v xs.length (xs.map mkC)) :
    Calls Tryz.prog 23 #[.agg #[.int .i64 r, .int .i64 c, v]] w (RetM2 (frM chQ r c xs) w) := by
  obtain ⟨av, cp, rfl⟩ := hv.form
  obtain ⟨t1, t2, t3⟩ := two_blks w #[.int .i64 r, .int .i64 c, .slice av xs.length cp] #[.int .i64 0, .int .i64 0, .slice none 0 0] 43 43
  have HS := hid t1
  have HT := hid t2
  have HB := hid t3
  have HV := hid (hv.below t3 (Nat.le_refl _))
  clear t1 t2 t3 hv
  obtain ⟨rr, D, ke, hS⟩ : ∃ rr D ke, frM chQ r c xs = ((rr, D), ke) := ⟨_, _, _, rfl⟩
  have HSS := hid hS
  clear hS
  go_enter Tryz.func23, Tryz.ntmps23
  go_upto_region 1 with fail
  generalize (w.alloc (.cells #[.int .i64 r, .int .i64 c, .slice av xs.length cp] 43)).alloc (.cells #[.int .i64 0, .int .i64 0, .slice none 0 0] 43) = w1 at *
  obtain ⟨gs, hgs⟩ : ∃ gs, w.heap.size = gs := ⟨_, rfl⟩
  obtain ⟨gt, hgt⟩ : ∃ gt, gs + 1 = gt := ⟨_, rfl⟩
  have HLE := hid (show w.heap.size ≤ gt by omega)
  rw [hgs] at HS HT ⊢
  rw [hgt] at HT ⊢
  have HGL := hid (show gs ≤ gt by omega)
  clear hgs hgt
  have hsc := block_cells HS.out
  have s0 := hsc.1 0 _ rfl
  have s1 := hsc.1 1 _ rfl
  have s2 := hsc.1 2 _ rfl
  clear hsc
  have HGT := hid (show gt < w1.heap.size from (Array.getElem?_eq_some_iff.1 HT.out).1)
  go_wp2_with (go_at_call 22; refine (chain_any r c _ xs _ HV.out).mono ?_; rintro e w2 ⟨v2, ys, rfl, hys, hown, hb⟩; have HT1 := hid (heap_later2 hb HT.out); have HB1 := hid (below_next HB.out hb); rw [HSS.out] at hys ⊢; have HYS := hid hys; have HOW := hid hown; obtain ⟨ar, cr, rfl⟩ := (IsSl.of_own hown).form; clear hys hown; have hsc := block_cells HT1.out; have t0 := hsc.1 0 _ rfl; have t1 := hsc.1 1 _ rfl; have t2 := hsc.1 2 _ rfl; have f0 := hsc.2 0; have f1 := hsc.2 1; have f2 := hsc.2 2; clear hsc; clear hb )
  (try simp only [Exit.inBlock, Exit.then])
  (try rw [Exit.noGoto_ret])
  refine bodyPost_ret (v := .tuple #[.agg #[.int .i64 rr, .int .i64 rr, .slice ar ys.length cr], .int .i64 ke]) ?_ rfl ⟨.slice ar ys.length cr, ys, by rw [HSS.out], by rw [HSS.out]; exact HYS.out, (HOW.out.mono (by have := HB.out.size; omega)).kept (grown_m3 w2 gt (.int .i64 rr) (.int .i64 rr) (.slice ar ys.length cr)) (.inr (fun e => by have h1 := (HOW.out.lt _ e).1; have := HGT.out; omega)), below_m3 HB1.out HLE.out⟩
  rw [results_cell_tmp rfl]
  go_simp
set_option maxRecDepth 100000 in
set_option maxHeartbeats 1000000 in
theorem mcheck22_any (a0 : Option Addr) (cp : Nat) (w : World) :
    Calls Tryz.prog 82 #[.agg #[.int .i64 2, .int .i64 2, .slice a0 4 cp]] w fun e w' => e = .returned (.int .i64 0) ∧ Below w.heap.size w w' := by
  go_enter Tryz.func82, Tryz.ntmps82
  go_wp2
  (try rw [Exit.noGoto_ret])
  go_ret
  exact ⟨rfl, (Below.refl _ _).alloc (Nat.le_refl _) _⟩
set_option maxRecDepth 100000 in
set_option maxHeartbeats 1000000 in
theorem at22_00 (g o cp : Nat) (a b c d : Cx) (w : World) (hv : IsSl w 1 (.slice (some ⟨g, o, none⟩) 4 cp) 4 [mkC a, mkC b, mkC c, mkC d]) :
    Calls Tryz.prog 85 #[.agg #[.int .i64 2, .int .i64 2, (.slice (some ⟨g, o, none⟩) 4 cp)], .int .i64 0, .int .i64 0] w fun e w' => e = .returned (mkC a) ∧ Below w.heap.size w w' := by
  have hb1 := (Below.refl w.heap.size w).alloc (Nat.le_refl _) (.cells #[.int .i64 2, .int .i64 2, (.slice (some ⟨g, o, none⟩) 4 cp)] 43)
  have HB := hid hb1
  obtain ⟨k0, k1, k2, k3⟩ := slice4c (hv.below hb1 (Nat.le_refl _))
  have HS := hid (heap_alloc_new w (.cells #[.int .i64 2, .int .i64 2, (.slice (some ⟨g, o, none⟩) 4 cp)] 43))
  clear hb1 hv
  go_enter Tryz.func85, Tryz.ntmps85
  go_upto_region 1 with fail
  generalize w.alloc (.cells #[.int .i64 2, .int .i64 2, (.slice (some ⟨g, o, none⟩) 4 cp)] 43) = w1 at *
  obtain ⟨gs, hgs⟩ : ∃ gs, w.heap.size = gs := ⟨_, rfl⟩
  rw [hgs] at HS ⊢
  clear hgs
  have hsc := block_cells HS.out
  have s0 := hsc.1 0 _ rfl
  have s1 := hsc.1 1 _ rfl
  have s2 := hsc.1 2 _ rfl
  clear hsc
  go_wp2
  (try simp only [Exit.inBlock, Exit.then])
  (try rw [Exit.noGoto_ret])
  go_ret
  exact ⟨rfl, HB.out⟩
set_option maxRecDepth 100000 in
set_option maxHeartbeats 1000000 in
theorem at22_01 (g o cp : Nat) (a b c d : Cx) (w : World) (hv : IsSl w 1 (.slice (some ⟨g, o, none⟩) 4 cp) 4 [mkC a, mkC b, mkC c, mkC d]) :
    Calls Tryz.prog 85 #[.agg #[.int .i64 2, .int .i64 2, (.slice (some ⟨g, o, none⟩) 4 cp)], .int .i64 0, .int .i64 1] w fun e w' => e = .returned (mkC b) ∧ Below w.heap.size w w' := by
  have hb1 := (Below.refl w.heap.size w).alloc (Nat.le_refl _) (.cells #[.int .i64 2, .int .i64 2, (.slice (some ⟨g, o, none⟩) 4 cp)] 43)
  have HB := hid hb1
  obtain ⟨k0, k1, k2, k3⟩ := slice4c (hv.below hb1 (Nat.le_refl _))
  have HS := hid (heap_alloc_new w (.cells #[.int .i64 2, .int .i64 2, (.slice (some ⟨g, o, none⟩) 4 cp)] 43))
  clear hb1 hv
  go_enter Tryz.func85, Tryz.ntmps85
  go_upto_region 1 with fail
  generalize w.alloc (.cells #[.int .i64 2, .int .i64 2, (.slice (some ⟨g, o, none⟩) 4 cp)] 43) = w1 at *
  obtain ⟨gs, hgs⟩ : ∃ gs, w.heap.size = gs := ⟨_, rfl⟩
  rw [hgs] at HS ⊢
  clear hgs
  have hsc := block_cells HS.out
  have s0 := hsc.1 0 _ rfl
  have s1 := hsc.1 1 _ rfl
  have s2 := hsc.1 2 _ rfl
  clear hsc
  go_wp2
  (try simp only [Exit.inBlock, Exit.then])
  (try rw [Exit.noGoto_ret])
  go_ret
  exact ⟨rfl, HB.out⟩
set_option maxRecDepth 100000 in
set_option maxHeartbeats 1000000 in
theorem at22_10 (g o cp : Nat) (a b c d : Cx) (w : World) (hv : IsSl w 1 (.slice (some ⟨g, o, none⟩) 4 cp) 4 [mkC a, mkC b, mkC c, mkC d]) :
    Calls Tryz.prog 85 #[.agg #[.int .i64 2, .int .i64 2, (.slice (some ⟨g, o, none⟩) 4 cp)], .int .i64 1, .int .i64 0] w fun e w' => e = .returned (mkC c) ∧ Below w.heap.size w w' := by
  have hb1 := (Below.refl w.heap.size w).alloc (Nat.le_refl _) (.cells #[.int .i64 2, .int .i64 2, (.slice (some ⟨g, o, none⟩) 4 cp)] 43)
  have HB := hid hb1
  obtain ⟨k0, k1, k2, k3⟩ := slice4c (hv.below hb1 (Nat.le_refl _))
  have HS := hid (heap_alloc_new w (.cells #[.int .i64 2, .int .i64 2, (.slice (some ⟨g, o, none⟩) 4 cp)] 43))
  clear hb1 hv
  go_enter Tryz.func85, Tryz.ntmps85
  go_upto_region 1 with fail
  generalize w.alloc (.cells #[.int .i64 2, .int .i64 2, (.slice (some ⟨g, o, none⟩) 4 cp)] 43) = w1 at *
  obtain ⟨gs, hgs⟩ : ∃ gs, w.heap.size = gs := ⟨_, rfl⟩
  rw [hgs] at HS ⊢
  clear hgs
  have hsc := block_cells HS.out
  have s0 := hsc.1 0 _ rfl
  have s1 := hsc.1 1 _ rfl
  have s2 := hsc.1 2 _ rfl
  clear hsc
  go_wp2
  (try simp only [Exit.inBlock, Exit.then])
  (try rw [Exit.noGoto_ret])
  go_ret
  exact ⟨rfl, HB.out⟩
set_option maxRecDepth 100000 in
set_option maxHeartbeats 1000000 in
theorem at22_11 (g o cp : Nat) (a b c d : Cx) (w : World) (hv : IsSl w 1 (.slice (some ⟨g, o, none⟩) 4 cp) 4 [mkC a, mkC b, mkC c, mkC d]) :
    Calls Tryz.prog 85 #[.agg #[.int .i64 2, .int .i64 2, (.slice (some ⟨g, o, none⟩) 4 cp)], .int .i64 1, .int .i64 1] w fun e w' => e = .returned (mkC d) ∧ Below w.heap.size w w' := by
  have hb1 := (Below.refl w.heap.size w).alloc (Nat.le_refl _) (.cells #[.int .i64 2, .int .i64 2, (.slice (some ⟨g, o, none⟩) 4 cp)] 43)
  have HB := hid hb1
  obtain ⟨k0, k1, k2, k3⟩ := slice4c (hv.below hb1 (Nat.le_refl _))
  have HS := hid (heap_alloc_new w (.cells #[.int .i64 2, .int .i64 2, (.slice (some ⟨g, o, none⟩) 4 cp)] 43))
  clear hb1 hv
  go_enter Tryz.func85, Tryz.ntmps85
  go_upto_region 1 with fail
  generalize w.alloc (.cells #[.int .i64 2, .int .i64 2, (.slice (some ⟨g, o, none⟩) 4 cp)] 43) = w1 at *
  obtain ⟨gs, hgs⟩ : ∃ gs, w.heap.size = gs := ⟨_, rfl⟩
  rw [hgs] at HS ⊢
  clear hgs
  have hsc := block_cells HS.out
  have s0 := hsc.1 0 _ rfl
  have s1 := hsc.1 1 _ rfl
  have s2 := hsc.1 2 _ rfl
  clear hsc
  go_wp2
  (try simp only [Exit.inBlock, Exit.then])
  (try rw [Exit.noGoto_ret])
  go_ret
  exact ⟨rfl, HB.out⟩
theorem at22_any (g o cp i j : Nat) (a b c d : Cx) (w : World) (hi : i < 2) (hj : j < 2) (hv : IsSl w 1 (.slice (some ⟨g, o, none⟩) 4 cp) 4 [mkC a, mkC b, mkC c, mkC d]) :
    Calls Tryz.prog 85 #[.agg #[.int .i64 2, .int .i64 2, (.slice (some ⟨g, o, none⟩) 4 cp)], .int .i64 i, .int .i64 j] w fun e w' => e = .returned (mkC (elq a b c d i j)) ∧ Below w.heap.size w w' := by
  rcases (show i = 0 ∨ i = 1 by omega) with rfl | rfl <;> rcases (show j = 0 ∨ j = 1 by omega) with rfl | rfl
  · exact at22_00 g o cp a b c d w hv
  · exact at22_01 g o cp a b c d w hv
  · exact at22_10 g o cp a b c d w hv
  · exact at22_11 g o cp a b c d w hv
theorem enter_Mul1 (args : Array Value) (w : World) : (callFunc 84 args).run Tryz.prog w = .ok (.enter 84 args) w := by
  have h : (Tryz.f84.name == "runtime.NumGoroutine") = false := by kernel_rfl
  have h2 : Tryz.f84.body.isNone = false := by kernel_rfl
  simp only [callFunc, Sem.run_bind, run_program, Result.andThen_ok, Tryz.func84, h, h2, Bool.false_eq_true, if_false, Sem.run_pure]
set_option maxRecDepth 100000 in
set_option maxHeartbeats 2000000 in
theorem mul1_any (p1 p2 g1 o1 c1 g2 o2 c2 : Nat) (a1 a2 a3 a4 b1 b2 b3 b4 : Cx) (row col : Nat) (w : World) (h : Two22 p1 p2 g1 o1 c1 g2 o2 c2 a1 a2 a3 a4 b1 b2 b3 b4 w) (hi : row < 2) (hj : col < 2) :
    Calls Tryz.prog 84 #[.int .i64 row, .int .i64 col, .pointer (some ⟨p1, 0, none⟩), .pointer (some ⟨p2, 0, none⟩)] w fun e w' => ∃ r s, e = .returned (.complex .f64 r s) ∧ (fc r, fc s) = dotP (elK a1 a2 a3 a4) (elK b1 b2 b3 b4) row col 2 ∧ Below w.heap.size w w' := by
  have HT := hid h
  have HI := hid hi
  have HJ := hid hj
  have c1' := (cells_ofS h.1).1 1 _ rfl
  clear h hi hj
  go_enter Tryz.func84, Tryz.ntmps84
  go_wp2
  clear c1'
  go_loopw [7, 11] (fun s q wr => ∃ (k rs is : Nat), k ≤ 2 ∧ q = .int .i64 k ∧ s = .complex .f64 rs is ∧ (fc rs, fc is) = dotP (elK a1 a2 a3 a4) (elK b1 b2 b3 b4) row col k ∧ Below w.heap.size w wr) (fun _ q _ => 2 - (intOf q).toNat)
  case atStart => exact ⟨0, 0, 0, by omega, rfl, rfl, rfl, Below.refl _ _⟩
  case round =>
    obtain ⟨k, rs, is, hk, rfl, rfl, hz, hb⟩ := hrel
    obtain ⟨wo, rfl⟩ : ∃ wo : World, wo = wr := ⟨_, rfl⟩
    have HZS := hid hz
    have HB := hid hb
    have HTO := hid (HT.out.below hb)
    clear hz hb
    by_cases hlt : k < 2
    · have hl2 : (k : Int) < 2 := by omega
      have HK := hid hlt
      go_upto_region 5 with fail
      refine wp_region_any (by kernel_rfl) ?_
      change wpAny _ _ _ _ _ _ _ (World.drew _)
      refine wpAny_makersD [⟨some 14, 0, []⟩, ⟨some 15, 1, []⟩, ⟨some 16, 2, []⟩, ⟨some 17, 3, []⟩, ⟨some 18, 4, []⟩, ⟨some 19, 5, []⟩, ⟨some 20, 6, []⟩, ⟨some 21, 7, []⟩, ⟨some 22, 8, []⟩, ⟨some 23, 9, []⟩]
        (fun w' => Two22 p1 p2 g1 o1 c1 g2 o2 c2 a1 a2 a3 a4 b1 b2 b3 b4 w')
        (fun oq v _ _ _ _ => match oq with | 0 => v = .complex .f64 rs is | 1 => v = .agg #[.int .i64 2, .int .i64 2, .slice (some ⟨g1, o1, none⟩) 4 c1] | 2 => v = .int .i64 row | 3 => v = .int .i64 k | 4 => v = mkC (elq a1 a2 a3 a4 row k) | 5 => v = .agg #[.int .i64 2, .int .i64 2, .slice (some ⟨g2, o2, none⟩) 4 c2] | 6 => v = .int .i64 k | 7 => v = .int .i64 col | 8 => v = mkC (elq b1 b2 b3 b4 k col) | 9 => ∃ r i, v = .complex .f64 r i ∧ (fc r, fc i) = cmul ((elK a1 a2 a3 a4) row k) ((elK b1 b2 b3 b4) k col) | _ => True) (by kernel_rfl) ?hSd (fun _ _ hb h => h.below hb) (fun _ _ _ _ _ _ _ _ _ h => h) ?hopd ?hendd
      case hSd => exact HTO.out.below (Below.refl _ _).drew
      case hopd =>
        delta Owed
        simp only [fillD, Act.put, List.setIfInBounds_toArray, List.set_cons_zero, List.set_cons_succ]
        refine Each.cons rfl ?_ (Each.cons rfl ?_ (Each.cons rfl ?_ (Each.cons rfl ?_ (Each.cons rfl ?_ (Each.cons rfl ?_ (Each.cons rfl ?_ (Each.cons rfl ?_ (Each.cons rfl ?_ (Each.cons rfl ?_ Each.nil)))))))))
        · intro vs w2 hb2 hS2 hR2 K hK
          simp only [List.set_cons_zero, List.set_cons_succ] at hK ⊢
          go_simp
          exact hK.out _ _ (Below.refl _ _) rfl
        · intro vs w2 hb2 hS2 hR2 K hK
          simp only [List.set_cons_zero, List.set_cons_succ] at hK ⊢
          obtain ⟨k0, k1, k2⟩ : w2.cell? ⟨p1, 0, none⟩ = some (.int .i64 2) ∧ w2.cell? ⟨p1, 1, none⟩ = some (.int .i64 2) ∧ w2.cell? ⟨p1, 2, none⟩ = some (.slice (some ⟨g1, o1, none⟩) 4 c1) := ⟨(cells_ofS hS2.1).1 0 _ rfl, (cells_ofS hS2.1).1 1 _ rfl, (cells_ofS hS2.1).1 2 _ rfl⟩
          obtain ⟨j0, j1, j2⟩ : w2.cell? ⟨p2, 0, none⟩ = some (.int .i64 2) ∧ w2.cell? ⟨p2, 1, none⟩ = some (.int .i64 2) ∧ w2.cell? ⟨p2, 2, none⟩ = some (.slice (some ⟨g2, o2, none⟩) 4 c2) := ⟨(cells_ofS hS2.2.1).1 0 _ rfl, (cells_ofS hS2.2.1).1 1 _ rfl, (cells_ofS hS2.2.1).1 2 _ rfl⟩
          go_simp
          exact hK.out _ _ (Below.refl _ _) rfl
        · intro vs w2 hb2 hS2 hR2 K hK
          simp only [List.set_cons_zero, List.set_cons_succ] at hK ⊢
          go_simp
          exact hK.out _ _ (Below.refl _ _) rfl
        · intro vs w2 hb2 hS2 hR2 K hK
          simp only [List.set_cons_zero, List.set_cons_succ] at hK ⊢
          go_simp
          exact hK.out _ _ (Below.refl _ _) rfl
        · intro vs w2 hb2 hS2 hR2 K hK
          have h1 : vs 1 = .agg #[.int .i64 2, .int .i64 2, .slice (some ⟨g1, o1, none⟩) 4 c1] := by obtain ⟨_, _, _, h⟩ := hR2 1 (by kernel_rfl); exact h
          have h2 : vs 2 = .int .i64 row := by obtain ⟨_, _, _, h⟩ := hR2 2 (by kernel_rfl); exact h
          have h3 : vs 3 = .int .i64 k := by obtain ⟨_, _, _, h⟩ := hR2 3 (by kernel_rfl); exact h
          simp only [List.set_cons_zero, List.set_cons_succ] at hK ⊢
          simp only [h1, h2, h3] at hK ⊢
          rw [if_pos (by rfl)]
          go_wp2_with (go_at_call 85; refine (at22_any g1 o1 c1 row k a1 a2 a3 a4 _ HI.out HK.out hS2.2.2.1).mono ?_; rintro e w5 ⟨rfl, hb⟩)
          exact hK.out _ _ hb rfl
        · intro vs w2 hb2 hS2 hR2 K hK
          simp only [List.set_cons_zero, List.set_cons_succ] at hK ⊢
          obtain ⟨k0, k1, k2⟩ : w2.cell? ⟨p1, 0, none⟩ = some (.int .i64 2) ∧ w2.cell? ⟨p1, 1, none⟩ = some (.int .i64 2) ∧ w2.cell? ⟨p1, 2, none⟩ = some (.slice (some ⟨g1, o1, none⟩) 4 c1) := ⟨(cells_ofS hS2.1).1 0 _ rfl, (cells_ofS hS2.1).1 1 _ rfl, (cells_ofS hS2.1).1 2 _ rfl⟩
          obtain ⟨j0, j1, j2⟩ : w2.cell? ⟨p2, 0, none⟩ = some (.int .i64 2) ∧ w2.cell? ⟨p2, 1, none⟩ = some (.int .i64 2) ∧ w2.cell? ⟨p2, 2, none⟩ = some (.slice (some ⟨g2, o2, none⟩) 4 c2) := ⟨(cells_ofS hS2.2.1).1 0 _ rfl, (cells_ofS hS2.2.1).1 1 _ rfl, (cells_ofS hS2.2.1).1 2 _ rfl⟩
          go_simp
          exact hK.out _ _ (Below.refl _ _) rfl
        · intro vs w2 hb2 hS2 hR2 K hK
          simp only [List.set_cons_zero, List.set_cons_succ] at hK ⊢
          go_simp
          exact hK.out _ _ (Below.refl _ _) rfl
        · intro vs w2 hb2 hS2 hR2 K hK
          simp only [List.set_cons_zero, List.set_cons_succ] at hK ⊢
          go_simp
          exact hK.out _ _ (Below.refl _ _) rfl
        · intro vs w2 hb2 hS2 hR2 K hK
          have h5 : vs 5 = .agg #[.int .i64 2, .int .i64 2, .slice (some ⟨g2, o2, none⟩) 4 c2] := by obtain ⟨_, _, _, h⟩ := hR2 5 (by kernel_rfl); exact h
          have h6 : vs 6 = .int .i64 k := by obtain ⟨_, _, _, h⟩ := hR2 6 (by kernel_rfl); exact h
          have h7 : vs 7 = .int .i64 col := by obtain ⟨_, _, _, h⟩ := hR2 7 (by kernel_rfl); exact h
          simp only [List.set_cons_zero, List.set_cons_succ] at hK ⊢
          simp only [h5, h6, h7] at hK ⊢
          rw [if_pos (by rfl)]
          go_wp2_with (go_at_call 85; refine (at22_any g2 o2 c2 k col b1 b2 b3 b4 _ HK.out HJ.out hS2.2.2.2).mono ?_; rintro e w5 ⟨rfl, hb⟩)
          exact hK.out _ _ hb rfl
        · intro vs w2 hb2 hS2 hR2 K hK
          obtain ⟨_, _, _, H4⟩ := hR2 4 (by kernel_rfl)
          have h4 : vs 4 = mkC (elq a1 a2 a3 a4 row k) := H4
          obtain ⟨_, _, _, H8⟩ := hR2 8 (by kernel_rfl)
          have h8 : vs 8 = mkC (elq b1 b2 b3 b4 k col) := H8
          simp only [List.set_cons_zero, List.set_cons_succ] at hK ⊢
          simp only [h4, h8] at hK ⊢
          rw [if_pos (by rfl)]
          go_wp2_with (go_at_call 80; refine (pmul_any _ _ _ _ _ ).mono ?_; rintro e w5 ⟨_, n, rfl, rfl, r, i, rfl, hz⟩)
          exact hK.out _ _ (below_n (Below.refl _ _) n) ⟨r, i, rfl, hz.trans (by rfl; try rfl)⟩
      case hendd =>
        intro vs wx lo hiv hbx hSx hRx hdx
        have h0 : vs 0 = .complex .f64 rs is := (hRx 0 (by kernel_rfl)).1
        have h1 : vs 1 = .agg #[.int .i64 2, .int .i64 2, .slice (some ⟨g1, o1, none⟩) 4 c1] := (hRx 1 (by kernel_rfl)).1
        have h2 : vs 2 = .int .i64 row := (hRx 2 (by kernel_rfl)).1
        have h3 : vs 3 = .int .i64 k := (hRx 3 (by kernel_rfl)).1
        have H4 := (hRx 4 (by kernel_rfl)).1
        have h4 : vs 4 = mkC (elq a1 a2 a3 a4 row k) := H4
        have h5 : vs 5 = .agg #[.int .i64 2, .int .i64 2, .slice (some ⟨g2, o2, none⟩) 4 c2] := (hRx 5 (by kernel_rfl)).1
        have h6 : vs 6 = .int .i64 k := (hRx 6 (by kernel_rfl)).1
        have h7 : vs 7 = .int .i64 col := (hRx 7 (by kernel_rfl)).1
        have H8 := (hRx 8 (by kernel_rfl)).1
        have h8 : vs 8 = mkC (elq b1 b2 b3 b4 k col) := H8
        have H9 := (hRx 9 (by kernel_rfl)).1
        obtain ⟨r9, i9, h9, q9⟩ := H9
        simp only [fillD, Act.put, List.setIfInBounds_toArray, List.set_cons_zero, List.set_cons_succ, h0, h1, h2, h3, h4, h5, h6, h7, h8, h9]
        have hb := below_drew_left hbx
        have HB2 := hid (below_next HB.out hb)
        have HQ := hid q9
        clear hbx hSx hRx hdx hb q9 h0 h1 h2 h3 h4 h5 h6 h7 h8 h9
        refine wpAny_one (i := 10) (by kernel_rfl) rfl (fun K hK => ?_)
        rw [if_pos (by rfl)]
        go_wp2_with (go_at_call 66; refine (padd_any _ _ _ _ _).mono ?_; rintro e w5 ⟨_, n, rfl, rfl, r5, i5, rfl, hz⟩; have HZ := hid hz; clear hz)
        refine hK.out _ _ ?_
        clear hK
        refine wpAny_one (i := 11) (by kernel_rfl) rfl (fun K hK => ?_)
        go_simp
        refine hK.out _ _ ?_
        clear hK
        refine wpAny_done (by kernel_rfl) ?_ _
        go_wp2
        go_roundw
        case rel => exact ⟨k + 1, r5, i5, by omega, by go_num, rfl, by unfold dotP; rw [← HZS.out, ← HQ.out]; exact HZ.out, below_n HB2.out n⟩
        case measure => simp [intOf]; omega
    · obtain rfl : k = 2 := by omega
      go_wp2
      (try simp only [Exit.inBlock, Exit.then])
      (try rw [Exit.noGoto_ret])
      go_ret
      exact ⟨_, _, rfl, HZS.out, HB.out⟩
set_option maxRecDepth 100000 in
set_option maxHeartbeats 4000000 in
theorem made22_any (p1 p2 g1 o1 c1 g2 o2 c2 : Nat) (a1 a2 a3 a4 b1 b2 b3 b4 : Cx) (w : World) (h : Two22 p1 p2 g1 o1 c1 g2 o2 c2 a1 a2 a3 a4 b1 b2 b3 b4 w) :
    Calls Tryz.prog 83 #[.int .i64 2, .int .i64 2, .func (.func 84) #[] #[.pointer (some ⟨p1, 0, none⟩), .pointer (some ⟨p2, 0, none⟩)]] w fun e w' => ∃ (v : Value) (xs : List Cx), e = .returned (.agg #[.int .i64 2, .int .i64 2, v]) ∧ xs.map ck = prodL (elK a1 a2 a3 a4) (elK b1 b2 b3 b4) ∧ w'.ownsRow w.heap.size 48 1 v xs.length (xs.map mkC) ∧ Below w.heap.size w w' := by
  obtain ⟨i0, hi, hz0, hz1, hz2⟩ := info_parts infoC
  obtain ⟨t1, t2, t3⟩ := two_blks w #[.int .i64 0, .int .i64 0, .slice none 0 0] #[.int .i64 2, .int .i64 2, .slice none 0 0] 43 43
  have HR := hid t1
  have HM := hid t2
  have HB0 := hid t3
  have HT := hid h
  clear t1 t2 t3 h
  go_enter Tryz.func83, Tryz.ntmps83
  go_upto_region 2 with fail
  generalize (w.alloc (.cells #[.int .i64 0, .int .i64 0, .slice none 0 0] 43)).alloc (.cells #[.int .i64 2, .int .i64 2, .slice none 0 0] 43) = w1 at *
  obtain ⟨gr, hgr⟩ : ∃ gr, w.heap.size = gr := ⟨_, rfl⟩
  obtain ⟨gm, hgm⟩ : ∃ gm, gr + 1 = gm := ⟨_, rfl⟩
  have HGL := hid (show w.heap.size ≤ gm by omega)
  have HGR := hid (show gr < gm by omega)
  have HGW := hid hgr
  rw [hgr] at HR HM ⊢
  rw [hgm] at HM ⊢
  clear hgr hgm
  go_wp2
  go_loopw [14] (fun q wr => ∃ (i : Nat) (V : Value) (xs : List Cx), i ≤ 2 ∧ q = .int .i64 i ∧ wr.heap[gm]? = some (.cells #[.int .i64 2, .int .i64 2, V] 43 (0, 0)) ∧ wr.heap[gr]? = some (.cells #[.int .i64 0, .int .i64 0, .slice none 0 0] 43 (0, 0)) ∧ wr.ownsRow (gm + 1) 48 1 V xs.length (xs.map mkC) ∧ xs.map ck = (prodL (elK a1 a2 a3 a4) (elK b1 b2 b3 b4)).take (2 * i + 0) ∧ Below w.heap.size w wr) (fun q _ => 2 - (intOf q).toNat)
  case atStart => exact ⟨0, .slice none 0 0, [], by omega, rfl, HM.out, HR.out, World.ownsRow_nil _ _ _ _, rfl, HB0.out⟩
  case round =>
    obtain ⟨i, V, xs, hile, rfl, hm, hr, hown, hxs, hb⟩ := hrel
    obtain ⟨wo, rfl⟩ : ∃ wo : World, wo = wr := ⟨_, rfl⟩
    by_cases hlt : i < 2
    · have hl2 : (i : Int) < 2 := by omega
      have HI := hid hlt
      have HMo := hid hm
      have HRo := hid hr
      have HOo := hid hown
      have HXo := hid hxs
      have HBo := hid hb
      clear hm hr hown hxs hb
      go_upto_region 5 with fail
      go_wp2
      go_loopw [18] (fun q wr => ∃ (j : Nat) (V : Value) (xs : List Cx), j ≤ 2 ∧ q = .int .i64 j ∧ wr.heap[gm]? = some (.cells #[.int .i64 2, .int .i64 2, V] 43 (0, 0)) ∧ wr.heap[gr]? = some (.cells #[.int .i64 0, .int .i64 0, .slice none 0 0] 43 (0, 0)) ∧ wr.ownsRow (gm + 1) 48 1 V xs.length (xs.map mkC) ∧ xs.map ck = (prodL (elK a1 a2 a3 a4) (elK b1 b2 b3 b4)).take (2 * i + j) ∧ Below w.heap.size w wr) (fun q _ => 2 - (intOf q).toNat)
      case atStart => exact ⟨0, V, xs, by omega, rfl, HMo.out, HRo.out, HOo.out, HXo.out, HBo.out⟩
      case round =>
        clear HMo HRo HOo HXo HBo
        obtain ⟨j, V, xs, hjle, rfl, hm, hr, hown, hxs, hb⟩ := hrel
        obtain ⟨wi, rfl⟩ : ∃ wi : World, wi = wr := ⟨_, rfl⟩
        have HMO := hid hm
        have HRO := hid hr
        have HOW := hid hown
        have HXS := hid hxs
        have HB := hid hb
        have HTO := hid (HT.out.below hb)
        clear hm hr hown hxs hb
        by_cases hlj : j < 2
        · have hl3 : (j : Int) < 2 := by omega
          have HJ := hid hlj
          have HLX := hid (show xs.length ≤ 4 by have h := congrArg List.length HXS.out; rw [List.length_map, List.length_take] at h; have : (prodL (elK a1 a2 a3 a4) (elK b1 b2 b3 b4)).length = 4 := rfl; omega)
          go_upto_region 8 with fail
          refine wp_region_any (by kernel_rfl) ?_
          change wpAny _ _ _ _ _ _ _ (World.drew _)
          refine wpAny_makersD [⟨some 21, 0, []⟩, ⟨some 22, 1, []⟩, ⟨some 23, 2, []⟩, ⟨some 24, 3, []⟩, ⟨some 25, 4, []⟩, ⟨some 26, 5, []⟩, ⟨some 27, 6, []⟩]
            (fun w' => w'.heap[gm]? = some (.cells #[.int .i64 2, .int .i64 2, V] 43 (0, 0)) ∧ w'.ownsRow (gm + 1) 48 1 V xs.length (xs.map mkC) ∧ Two22 p1 p2 g1 o1 c1 g2 o2 c2 a1 a2 a3 a4 b1 b2 b3 b4 w')
            (fun oq v _ ww lo hi => (match oq with | 0 => v = .pointer (some ⟨gm, 2, none⟩) | 1 => v = V | 2 => v = .func (.func 84) #[] #[.pointer (some ⟨p1, 0, none⟩), .pointer (some ⟨p2, 0, none⟩)] | 3 => v = .int .i64 i | 4 => v = .int .i64 j | 5 => ∃ r s, v = .complex .f64 r s ∧ (fc r, fc s) = dotP (elK a1 a2 a3 a4) (elK b1 b2 b3 b4) i j 2 | 6 => True | _ => True) ∧ (oq = 6 → OneC (dotP (elK a1 a2 a3 a4) (elK b1 b2 b3 b4) i j 2) v ww lo hi)) (by kernel_rfl) ?hSe (fun _ _ hb h => ⟨heap_next hb h.1, own_none h.2.1 (grown_of_below hb none), h.2.2.below hb⟩) (fun _ _ _ _ _ _ _ hb _ h => ⟨h.1, fun e => (h.2 e).later hb⟩) ?hope ?hende
          case hSe => exact ⟨heap_next (Below.refl _ _).drew HMO.out, own_none HOW.out (grown_of_below (Below.refl _ _).drew none), HTO.out.below (Below.refl _ _).drew⟩
          case hope =>
            delta Owed
            simp only [fillD, Act.put, List.setIfInBounds_toArray, List.set_cons_zero, List.set_cons_succ]
            refine Each.cons rfl ?_ (Each.cons rfl ?_ (Each.cons rfl ?_ (Each.cons rfl ?_ (Each.cons rfl ?_ (Each.cons rfl ?_ (Each.cons rfl ?_ Each.nil))))))
            · intro vs w2 hb2 hS2 hR2 K hK
              simp only [List.set_cons_zero, List.set_cons_succ] at hK ⊢
              go_simp
              exact hK.out _ _ (Below.refl _ _) ⟨rfl, (fun e => (by cases e))⟩
            · intro vs w2 hb2 hS2 hR2 K hK
              have h0 : vs 0 = .pointer (some ⟨gm, 2, none⟩) := by obtain ⟨_, _, _, h⟩ := hR2 0 (by kernel_rfl); exact h.1
              simp only [List.set_cons_zero, List.set_cons_succ] at hK ⊢
              obtain ⟨k0, k1, k2⟩ : w2.cell? ⟨gm, 0, none⟩ = some (.int .i64 2) ∧ w2.cell? ⟨gm, 1, none⟩ = some (.int .i64 2) ∧ w2.cell? ⟨gm, 2, none⟩ = some V := ⟨(cells_ofS hS2.1).1 0 _ rfl, (cells_ofS hS2.1).1 1 _ rfl, (cells_ofS hS2.1).1 2 _ rfl⟩
              simp only [h0] at hK ⊢
              go_simp
              exact hK.out _ _ (Below.refl _ _) ⟨rfl, (fun e => (by cases e))⟩
            · intro vs w2 hb2 hS2 hR2 K hK
              simp only [List.set_cons_zero, List.set_cons_succ] at hK ⊢
              go_simp
              exact hK.out _ _ (Below.refl _ _) ⟨rfl, (fun e => (by cases e))⟩
            · intro vs w2 hb2 hS2 hR2 K hK
              simp only [List.set_cons_zero, List.set_cons_succ] at hK ⊢
              go_simp
              exact hK.out _ _ (Below.refl _ _) ⟨rfl, (fun e => (by cases e))⟩
            · intro vs w2 hb2 hS2 hR2 K hK
              simp only [List.set_cons_zero, List.set_cons_succ] at hK ⊢
              go_simp
              exact hK.out _ _ (Below.refl _ _) ⟨rfl, (fun e => (by cases e))⟩
            · intro vs w2 hb2 hS2 hR2 K hK
              have h2 : vs 2 = .func (.func 84) #[] #[.pointer (some ⟨p1, 0, none⟩), .pointer (some ⟨p2, 0, none⟩)] := by obtain ⟨_, _, _, h⟩ := hR2 2 (by kernel_rfl); exact h.1
              have h3 : vs 3 = .int .i64 i := by obtain ⟨_, _, _, h⟩ := hR2 3 (by kernel_rfl); exact h.1
              have h4 : vs 4 = .int .i64 j := by obtain ⟨_, _, _, h⟩ := hR2 4 (by kernel_rfl); exact h.1
              simp only [List.set_cons_zero, List.set_cons_succ] at hK ⊢
              simp only [h2, h3, h4] at hK ⊢
              rw [if_pos (by rfl)]
              go_wp2_with (first | (refine (mul1_any p1 p2 g1 o1 c1 g2 o2 c2 a1 a2 a3 a4 b1 b2 b3 b4 i j _ hS2.2.2 HI.out HJ.out).mono ?_; rintro e w5 ⟨r, s, rfl, hz, hb⟩) | (go_simp; refine (mul1_any p1 p2 g1 o1 c1 g2 o2 c2 a1 a2 a3 a4 b1 b2 b3 b4 i j _ hS2.2.2 HI.out HJ.out).mono ?_; rintro e w5 ⟨r, s, rfl, hz, hb⟩))
              exact hK.out _ _ hb ⟨⟨r, s, rfl, hz⟩, fun e => (by cases e)⟩
            · intro vs w2 hb2 hS2 hR2 K hK
              obtain ⟨_, _, _, H5⟩ := hR2 5 (by kernel_rfl)
              replace H5 := H5.1
              obtain ⟨r5, s5, h5, q5⟩ := H5
              simp only [List.set_cons_zero, List.set_cons_succ] at hK ⊢
              simp only [h5] at hK ⊢
              go_simp
              exact hK.out _ _ ((Below.refl _ _).alloc (Nat.le_refl _) _) ⟨trivial, fun _ => ⟨(r5, s5), q5, w2.heap.size, rfl, Nat.le_refl _, by simp, heap_alloc_new _ _⟩⟩
          case hende =>
            intro vs wx lo hiv hbx hSx hRx hdx
            have h0 : vs 0 = .pointer (some ⟨gm, 2, none⟩) := (hRx 0 (by kernel_rfl)).1.1
            have h1 : vs 1 = V := (hRx 1 (by kernel_rfl)).1.1
            have h2 : vs 2 = .func (.func 84) #[] #[.pointer (some ⟨p1, 0, none⟩), .pointer (some ⟨p2, 0, none⟩)] := (hRx 2 (by kernel_rfl)).1.1
            have h3 : vs 3 = .int .i64 i := (hRx 3 (by kernel_rfl)).1.1
            have h4 : vs 4 = .int .i64 j := (hRx 4 (by kernel_rfl)).1.1
            have H5 := (hRx 5 (by kernel_rfl)).1.1
            obtain ⟨r5, s5, h5, q5⟩ := H5
            have Y6 := (hRx 6 (by kernel_rfl)).1.2 rfl
            have Z6 := (hRx 6 (by kernel_rfl)).2
            simp only [fillD, Act.put, List.setIfInBounds_toArray, List.set_cons_zero, List.set_cons_succ, h0, h1, h2, h3, h4, h5]
            have hb := below_drew_left hbx
            obtain ⟨z6, hz6, b6, h6, hb6, hb6', hrow6⟩ := Y6
            have hown := hSx.2.1
            have HBX := hid (below_next HB.out hb)
            have HSX := hid hSx
            have HRX := hid (heap_next hb HRO.out)
            have HZ6 := hid hz6
            have HGX := hid (show gm + 1 ≤ wx.heap.size by have h1 := (Array.getElem?_eq_some_iff.1 hSx.1).1; omega)
            simp only [h6]
            clear hbx hSx hRx hdx hb h6 hz6 q5 h5 Z6 h0 h1 h2 h3 h4
            refine wpAny_one (i := 7) (by kernel_rfl) rfl (fun K hK => ?_)
            rw [if_pos (by rfl)]
            refine append_own_op rfl _ _ _ rfl (gm + 1) 48 1 16 i0 (.complex .f64 0 0) Tryz.underlying41 hi hz0 hz1 hz2 rfl _ xs.length _ hown ⟨b6, 0, none⟩ 1 1 [mkC z6] (by rfl) (by rfl) rfl (news_atB hrow6) (by intro u hu; rw [List.mem_singleton.1 hu]; rfl) (by decide) (by have := HLX.out; unfold maxLen; omega) (by have := HLX.out; omega) HGX.out ?_
            intro gq cap wq hown1 hgq htwo
            refine hK.out _ _ ?_
            clear hK hown hrow6
            have hgm : gm ≠ gq := by have h1 := (hown1.lt gq rfl).1; omega
            have hgr : gr ≠ gq := by have h1 := (hown1.lt gq rfl).1; have h2 := HGR.out; omega
            obtain ⟨hm1, hr1, ht1, hb1⟩ : wq.heap[gm]? = some (.cells #[.int .i64 2, .int .i64 2, V] 43 (0, 0)) ∧ wq.heap[gr]? = some (.cells #[.int .i64 0, .int .i64 0, .slice none 0 0] 43 (0, 0)) ∧ Two22 p1 p2 g1 o1 c1 g2 o2 c2 a1 a2 a3 a4 b1 b2 b3 b4 wq ∧ Below w.heap.size w wq := by
              rcases htwo with ⟨e1, e2⟩ | ⟨_, e2⟩
              · have hge := (HSX.out.2.1.lt _ e1).1
                have hbq := HBX.out.grown e2 HBX.out.size (fun r e => by cases e; have := HGL.out; omega)
                exact ⟨heap_nextG e2 hgm HSX.out.1, heap_nextG e2 hgr HRX.out, HT.out.below hbq, hbq⟩
              · have hbq := below_of_grown e2
                exact ⟨heap_next hbq HSX.out.1, heap_next hbq HRX.out, HSX.out.2.2.below hbq, below_next HBX.out hbq⟩
            have HM1 := hid hm1
            have HR1 := hid hr1
            have HB1 := hid hb1
            have HO1 := hid hown1
            have HGQ := hid hgm
            clear hm1 hr1 ht1 hb1 htwo hown1 hgq hgm hgr
            refine wpAny_one (i := 8) (by kernel_rfl) rfl (fun K hK => ?_)
            go_simp
            refine hK.out _ _ ?_
            clear hK
            have f2 := (cells_ofS HM1.out).2 2
            have c2' := (cells_ofS HM1.out).1 2 _ rfl
            refine wpAny_one (i := 9) (by kernel_rfl) rfl (fun K hK => ?_)
            go_simp
            refine hK.out _ _ ?_
            clear hK f2 c2'
            refine wpAny_done (by kernel_rfl) ?_ _
            go_wp2
            go_roundw
            case rel =>
              refine ⟨j + 1, .slice (some ⟨gq, 0, none⟩) (xs.length + 1) cap, xs ++ [z6], by omega, by go_num, ?_, ?_, ?_, ?_, ?_⟩
              · have h := blk_set1 HM1.out (o := 2) (.slice (some ⟨gq, 0, none⟩) (xs.length + 1) cap); simpa using h
              · exact heap_putB (by have := HGR.out; omega) HR1.out
              · have h := HO1.out.kept (set1_grown wq gm 2 (.slice (some ⟨gq, 0, none⟩) (xs.length + 1) cap)) (.inr (fun e => HGQ.out (Option.some.inj e).symm))
                rw [List.length_append, List.map_append]
                exact h
              · rw [List.map_append, HXS.out]
                show _ ++ [ck z6] = _
                rw [HZ6.out]
                exact prod_at HI.out HJ.out
              · exact HB1.out.setCell (p := ⟨gm, 2, none⟩) (by have := HGL.out; dsimp only; omega) _
            case measure => simp [intOf]; omega
        · obtain rfl : j = 2 := by omega
          go_wp2
          go_roundw
          case rel => exact ⟨i + 1, V, xs, by omega, by go_num, HMO.out, HRO.out, HOW.out, by rw [show 2 * (i + 1) + 0 = 2 * i + 2 by omega]; exact HXS.out, HB.out⟩
          case measure => simp [intOf]; omega
    · obtain rfl : i = 2 := by omega
      obtain ⟨av, cv, rfl⟩ := (IsSl.of_own hown).form
      have HRO := hid hr
      have HOW := hid hown
      have HXS := hid hxs
      have HB := hid hb
      have hsc := block_cells hm
      have m0 := hsc.1 0 _ rfl
      have m1 := hsc.1 1 _ rfl
      have m2 := hsc.1 2 _ rfl
      have hsc := block_cells hr
      have r0 := hsc.1 0 _ rfl
      have r1 := hsc.1 1 _ rfl
      have r2 := hsc.1 2 _ rfl
      have f0 := hsc.2 0
      have f1 := hsc.2 1
      have f2 := hsc.2 2
      clear hsc hm hr hown hxs hb
      go_wp2
      (try simp only [Exit.inBlock, Exit.then])
      (try rw [Exit.noGoto_ret])
      refine bodyPost_ret (v := .agg #[.int .i64 2, .int .i64 2, .slice av xs.length cv]) ?_ rfl ⟨.slice av xs.length cv, xs, rfl, HXS.out, (HOW.out.mono (by have := HGW.out; have := HGR.out; omega)).kept (grown_m3 wo gr (.int .i64 2) (.int .i64 2) (.slice av xs.length cv)) (.inr (fun e => by have h1 := (HOW.out.lt _ e).1; have := HGR.out; omega)), below_m3 HB.out (by rw [HGW.out]; exact Nat.le_refl _)⟩
      rw [results_cell1Q rfl]
      go_simp
end Go.Proofs.YtdepiggjneoopaaGreatDoor
