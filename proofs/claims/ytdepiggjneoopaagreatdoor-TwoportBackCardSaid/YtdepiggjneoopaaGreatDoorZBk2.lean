/- a part of the proof of the last text -/
import Derived.Test.YtdepiggjneoopaaGreatDoorZBk1
namespace Go.Proofs.YtdepiggjneoopaaGreatDoor
set_option linter.all false
set_option maxHeartbeats 4000000
set_option maxRecDepth 100000
open Go.RowKit
theorem three_blks (w : World) (o1 o2 o3 : Array Value) (t1 t2 t3 : TypeId) : (((w.alloc (.cells o1 t1)).alloc (.cells o2 t2)).alloc (.cells o3 t3)).heap[w.heap.size]? = some (.cells o1 t1 (0, 0)) ∧ (((w.alloc (.cells o1 t1)).alloc (.cells o2 t2)).alloc (.cells o3 t3)).heap[w.heap.size + 1]? = some (.cells o2 t2 (0, 0)) ∧ (((w.alloc (.cells o1 t1)).alloc (.cells o2 t2)).alloc (.cells o3 t3)).heap[w.heap.size + 2]? = some (.cells o3 t3 (0, 0)) ∧ Below w.heap.size w (((w.alloc (.cells o1 t1)).alloc (.cells o2 t2)).alloc (.cells o3 t3)) := by
  obtain ⟨h1, h2, h3⟩ := two_blks w o1 o2 t1 t2
  have h4 := heap_alloc_new ((w.alloc (.cells o1 t1)).alloc (.cells o2 t2)) (.cells o3 t3)
  rw [show ((w.alloc (.cells o1 t1)).alloc (.cells o2 t2)).heap.size = w.heap.size + 2 by simp] at h4
  exact ⟨heap_past_of h1, heap_past_of h2, h4, h3.alloc h3.size _⟩
theorem RetTk.form {r c : Int} {xs : List Cx} {w w' : World} {e : Ending} (h : RetTk r c xs w e w') : ∃ a b g d, e = .returned (.tuple #[mk4 a b g d, .int .i64 (takS r c xs)]) ∧ Below w.heap.size w w' ∧ (takS r c xs = 0 → xs = [a, b, g, d]) := h
set_option maxRecDepth 100000 in
set_option maxHeartbeats 2000000 in
theorem mmul22_any (g1 o1 c1 g2 o2 c2 : Nat) (a1 a2 a3 a4 b1 b2 b3 b4 : Cx) (w : World) (h1 : IsSl w 1 (.slice (some ⟨g1, o1, none⟩) 4 c1) 4 [mkC a1, mkC a2, mkC a3, mkC a4]) (h2 : IsSl w 1 (.slice (some ⟨g2, o2, none⟩) 4 c2) 4 [mkC b1, mkC b2, mkC b3, mkC b4]) :
    Calls Tryz.prog 51 #[.agg #[.int .i64 2, .int .i64 2, .slice (some ⟨g1, o1, none⟩) 4 c1], .agg #[.int .i64 2, .int .i64 2, .slice (some ⟨g2, o2, none⟩) 4 c2]] w fun e w' => ∃ (v : Value) (xs : List Cx), e = .returned (.tuple #[.agg #[.int .i64 2, .int .i64 2, v], .int .i64 0]) ∧ xs.map ck = prodL (elK a1 a2 a3 a4) (elK b1 b2 b3 b4) ∧ w'.ownsRow w.heap.size 48 1 v xs.length (xs.map mkC) ∧ Below w.heap.size w w' := by
  obtain ⟨t1, t2, t3, t4⟩ := three_blks w #[.int .i64 2, .int .i64 2, (.slice (some ⟨g1, o1, none⟩) 4 c1)] #[.int .i64 2, .int .i64 2, (.slice (some ⟨g2, o2, none⟩) 4 c2)] #[.int .i64 0, .int .i64 0, .slice none 0 0] 43 43 43
  have HS1 := hid t1
  have HS2 := hid t2
  have HT := hid t3
  have HB := hid t4
  have HV1 := hid (h1.below t4 (Nat.le_refl _))
  have HV2 := hid (h2.below t4 (Nat.le_refl _))
  clear t1 t2 t3 t4 h1 h2
  have T1 : True := trivial
  have T2 : True := trivial
  go_enter Tryz.func51, Tryz.ntmps51
  go_upto_region 1 with fail
  generalize ((w.alloc (.cells #[.int .i64 2, .int .i64 2, .slice (some ⟨g1, o1, none⟩) 4 c1] 43)).alloc (.cells #[.int .i64 2, .int .i64 2, .slice (some ⟨g2, o2, none⟩) 4 c2] 43)).alloc (.cells #[.int .i64 0, .int .i64 0, .slice none 0 0] 43) = w1 at *
  obtain ⟨p1, hp1⟩ : ∃ gs, w.heap.size = gs := ⟨_, rfl⟩
  obtain ⟨p2, hp2⟩ : ∃ gt, p1 + 1 = gt := ⟨_, rfl⟩
  obtain ⟨gt, hgt⟩ : ∃ gt, p2 + 1 = gt := ⟨_, rfl⟩
  have HLE := hid (show w.heap.size ≤ gt by omega)
  rw [hp1] at HS1 HS2 HT ⊢
  rw [hp2] at HS2 ⊢
  rw [show p1 + 2 = gt by omega] at HT
  rw [hgt]
  have HGW := hid (show gt < w1.heap.size from (Array.getElem?_eq_some_iff.1 HT.out).1)
  clear hp1 hp2 hgt
  have hsc := block_cells HS1.out
  have s0 := hsc.1 0 _ rfl
  have s1 := hsc.1 1 _ rfl
  have s2 := hsc.1 2 _ rfl
  have sf0 := hsc.2 0
  have sf1 := hsc.2 1
  have sf2 := hsc.2 2
  clear hsc
  have hsc := block_cells HS2.out
  have r0 := hsc.1 0 _ rfl
  have r1 := hsc.1 1 _ rfl
  have r2 := hsc.1 2 _ rfl
  have rf0 := hsc.2 0
  have rf1 := hsc.2 1
  have rf2 := hsc.2 2
  clear hsc
  go_upto_region 3 with (first | (clear T1; go_at_call 82; refine (mcheck22_any _ _ _).mono ?_; rintro e w2 ⟨rfl, hb⟩; have HS11 := hid (heap_later2 hb HS1.out); have HS21 := hid (heap_later2 hb HS2.out); have HT1 := hid (heap_later2 hb HT.out); have HV11 := hid (HV1.out.below hb (Nat.le_refl _)); have HV21 := hid (HV2.out.below hb (Nat.le_refl _)); have HB1 := hid (below_next HB.out hb); have hsc := block_cells HS11.out; have s0 := hsc.1 0 _ rfl; have s1 := hsc.1 1 _ rfl; have s2 := hsc.1 2 _ rfl; clear hsc; have hsc := block_cells HS21.out; have r0 := hsc.1 0 _ rfl; have r1 := hsc.1 1 _ rfl; have r2 := hsc.1 2 _ rfl; clear hsc; clear hb ) | (clear T2; go_at_call 82; refine (mcheck22_any _ _ _).mono ?_; rintro e w3 ⟨rfl, hb⟩; have HS12 := hid (heap_later2 hb HS11.out); have HS22 := hid (heap_later2 hb HS21.out); have HT2 := hid (heap_later2 hb HT1.out); have HV12 := hid (HV11.out.below hb (Nat.le_refl _)); have HV22 := hid (HV21.out.below hb (Nat.le_refl _)); have HB2 := hid (below_next HB1.out hb); have hsc := block_cells HS12.out; have s0 := hsc.1 0 _ rfl; have s1 := hsc.1 1 _ rfl; have s2 := hsc.1 2 _ rfl; clear hsc; have hsc := block_cells HS22.out; have r0 := hsc.1 0 _ rfl; have r1 := hsc.1 1 _ rfl; have r2 := hsc.1 2 _ rfl; clear hsc; clear hb ))
  clear s0 s1 s2 r0 r1 r2 HS1 HS2 HT HV1 HV2 HB HS11 HS21 HT1 HV11 HV21 HB1
  have hsc := block_cells HS12.out
  have s0 := hsc.1 0 _ rfl
  have s1 := hsc.1 1 _ rfl
  have s2 := hsc.1 2 _ rfl
  have sf0 := hsc.2 0
  have sf1 := hsc.2 1
  have sf2 := hsc.2 2
  clear hsc
  have hsc := block_cells HS22.out
  have r0 := hsc.1 0 _ rfl
  have r1 := hsc.1 1 _ rfl
  have r2 := hsc.1 2 _ rfl
  have rf0 := hsc.2 0
  have rf1 := hsc.2 1
  have rf2 := hsc.2 2
  clear hsc
  go_wp2_with (go_at_call 83; refine (made22_any p1 p2 g1 o1 c1 g2 o2 c2 a1 a2 a3 a4 b1 b2 b3 b4 _ ⟨HS12.out, HS22.out, HV12.out, HV22.out⟩).mono ?_; rintro e w4 ⟨v, xs, rfl, hxs, hown, hb⟩; have HS13 := hid (heap_later2 hb HS12.out); have HS23 := hid (heap_later2 hb HS22.out); have HT3 := hid (heap_later2 hb HT2.out); have HV13 := hid (HV12.out.below hb (Nat.le_refl _)); have HV23 := hid (HV22.out.below hb (Nat.le_refl _)); have HB3 := hid (below_next HB2.out hb); have HX := hid hxs; have HOW := hid hown; obtain ⟨av, cv, rfl⟩ := (IsSl.of_own hown).form; clear hxs hown; have hsc := block_cells HT3.out; have t0 := hsc.1 0 _ rfl; have t1 := hsc.1 1 _ rfl; have t2 := hsc.1 2 _ rfl; have f0 := hsc.2 0; have f1 := hsc.2 1; have f2 := hsc.2 2; clear hsc; clear hb )
  (try simp only [Exit.inBlock, Exit.then])
  (try rw [Exit.noGoto_ret])
  refine bodyPost_ret (v := .tuple #[.agg #[.int .i64 2, .int .i64 2, .slice av xs.length cv], .int .i64 0]) ?_ rfl ⟨.slice av xs.length cv, xs, rfl, HX.out, (HOW.out.mono HB2.out.size).kept (grown_m3 w4 gt (.int .i64 2) (.int .i64 2) (.slice av xs.length cv)) (.inr (fun e => by have h1 := (HOW.out.lt _ e).1; have h2 := (Array.getElem?_eq_some_iff.1 HT2.out).1; omega)), below_m3 HB3.out HLE.out⟩
  rw [results_cell_tmp rfl]
  go_simp
set_option maxRecDepth 100000 in
set_option maxHeartbeats 4000000 in
theorem cascade22_any (g1 o1 c1 g2 o2 c2 : Nat) (a1 a2 a3 a4 b1 b2 b3 b4 : Cx) (w : World) (h1 : IsSl w 1 (.slice (some ⟨g1, o1, none⟩) 4 c1) 4 [mkC a1, mkC a2, mkC a3, mkC a4]) (h2 : IsSl w 1 (.slice (some ⟨g2, o2, none⟩) 4 c2) 4 [mkC b1, mkC b2, mkC b3, mkC b4]) (ka : takS 2 2 [a1, a2, a3, a4] = 0) (kb : takS 2 2 [b1, b2, b3, b4] = 0) (kp : ∀ z ∈ prodL (elK a1 a2 a3 a4) (elK b1 b2 b3 b4), cfin z = true) :
    Calls Tryz.prog 24 #[.agg #[.int .i64 2, .int .i64 2, .slice (some ⟨g1, o1, none⟩) 4 c1], .agg #[.int .i64 2, .int .i64 2, .slice (some ⟨g2, o2, none⟩) 4 c2]] w fun e w' => ∃ (v : Value) (xs : List Cx), e = .returned (.tuple #[.agg #[.int .i64 2, .int .i64 2, v], .int .i64 0]) ∧ xs.map ck = prodL (elK a1 a2 a3 a4) (elK b1 b2 b3 b4) ∧ w'.ownsRow w.heap.size 48 1 v xs.length (xs.map mkC) ∧ Below w.heap.size w w' := by
  have HKA := hid ka
  have HKB := hid kb
  have HKP := hid kp
  clear ka kb kp
  obtain ⟨t1, t2, t3, t4⟩ := three_blks w #[.int .i64 2, .int .i64 2, (.slice (some ⟨g1, o1, none⟩) 4 c1)] #[.int .i64 2, .int .i64 2, (.slice (some ⟨g2, o2, none⟩) 4 c2)] #[.int .i64 0, .int .i64 0, .slice none 0 0] 43 43 43
  have HS1 := hid t1
  have HS2 := hid t2
  have HT := hid t3
  have HB := hid t4
  have HV1 := hid (h1.below t4 (Nat.le_refl _))
  have HV2 := hid (h2.below t4 (Nat.le_refl _))
  clear t1 t2 t3 t4 h1 h2
  have T1 : True := trivial
  have T2 : True := trivial
  go_enter Tryz.func24, Tryz.ntmps24
  go_upto_region 1 with fail
  generalize ((w.alloc (.cells #[.int .i64 2, .int .i64 2, .slice (some ⟨g1, o1, none⟩) 4 c1] 43)).alloc (.cells #[.int .i64 2, .int .i64 2, .slice (some ⟨g2, o2, none⟩) 4 c2] 43)).alloc (.cells #[.int .i64 0, .int .i64 0, .slice none 0 0] 43) = w1 at *
  obtain ⟨p1, hp1⟩ : ∃ gs, w.heap.size = gs := ⟨_, rfl⟩
  obtain ⟨p2, hp2⟩ : ∃ gt, p1 + 1 = gt := ⟨_, rfl⟩
  obtain ⟨gt, hgt⟩ : ∃ gt, p2 + 1 = gt := ⟨_, rfl⟩
  have HLE := hid (show w.heap.size ≤ gt by omega)
  rw [hp1] at HS1 HS2 HT ⊢
  rw [hp2] at HS2 ⊢
  rw [show p1 + 2 = gt by omega] at HT
  rw [hgt]
  have HGW := hid (show gt < w1.heap.size from (Array.getElem?_eq_some_iff.1 HT.out).1)
  clear hp1 hp2 hgt
  have hsc := block_cells HS1.out
  have s0 := hsc.1 0 _ rfl
  have s1 := hsc.1 1 _ rfl
  have s2 := hsc.1 2 _ rfl
  have sf0 := hsc.2 0
  have sf1 := hsc.2 1
  have sf2 := hsc.2 2
  clear hsc
  go_upto_region 4 with (go_at_call 44; refine (taken_any 2 2 _ [a1, a2, a3, a4] _ HV1.out).mono ?_; rintro e w2 ⟨x1, y1, z1, u1, rfl, hb, hx⟩; have HS11 := hid (heap_later2 hb HS1.out); have HS21 := hid (heap_later2 hb HS2.out); have HT1 := hid (heap_later2 hb HT.out); have HV11 := hid (HV1.out.below hb (Nat.le_refl _)); have HV21 := hid (HV2.out.below hb (Nat.le_refl _)); have HB1 := hid (below_next HB.out hb); rw [HKA.out]; clear hx; clear hb )
  clear s0 s1 s2 sf0 sf1 sf2 HS1 HS2 HT HV1 HV2 HB
  have HS12 := hid (heap_later2 ((Below.refl w2.heap.size w2).alloc (Nat.le_refl _) (.cells #[mkC x1, mkC y1, mkC z1, mkC u1] 82)) HS11.out)
  have HS22 := hid (heap_later2 ((Below.refl w2.heap.size w2).alloc (Nat.le_refl _) (.cells #[mkC x1, mkC y1, mkC z1, mkC u1] 82)) HS21.out)
  have HT2 := hid (heap_later2 ((Below.refl w2.heap.size w2).alloc (Nat.le_refl _) (.cells #[mkC x1, mkC y1, mkC z1, mkC u1] 82)) HT1.out)
  have HV12 := hid (HV11.out.below ((Below.refl w2.heap.size w2).alloc (Nat.le_refl _) (.cells #[mkC x1, mkC y1, mkC z1, mkC u1] 82)) (Nat.le_refl _))
  have HV22 := hid (HV21.out.below ((Below.refl w2.heap.size w2).alloc (Nat.le_refl _) (.cells #[mkC x1, mkC y1, mkC z1, mkC u1] 82)) (Nat.le_refl _))
  have HB2 := hid (below_next HB1.out ((Below.refl w2.heap.size w2).alloc (Nat.le_refl _) (.cells #[mkC x1, mkC y1, mkC z1, mkC u1] 82)))
  clear HS11 HS21 HT1 HV11 HV21 HB1
  generalize w2.alloc (.cells #[mkC x1, mkC y1, mkC z1, mkC u1] 82) = w3 at *
  have hsc := block_cells HS22.out
  have s0 := hsc.1 0 _ rfl
  have s1 := hsc.1 1 _ rfl
  have s2 := hsc.1 2 _ rfl
  have sf0 := hsc.2 0
  have sf1 := hsc.2 1
  have sf2 := hsc.2 2
  clear hsc
  go_upto_region 7 with (go_at_call 44; refine (taken_any 2 2 _ [b1, b2, b3, b4] _ HV22.out).mono ?_; rintro e w4 ⟨x2, y2, z2, u2, rfl, hb, hx⟩; have HS13 := hid (heap_later2 hb HS12.out); have HS23 := hid (heap_later2 hb HS22.out); have HT3 := hid (heap_later2 hb HT2.out); have HV13 := hid (HV12.out.below hb (Nat.le_refl _)); have HV23 := hid (HV22.out.below hb (Nat.le_refl _)); have HB3 := hid (below_next HB2.out hb); rw [HKB.out]; clear hx; clear hb )
  clear s0 s1 s2 sf0 sf1 sf2 HS12 HS22 HT2 HV12 HV22 HB2
  have HS14 := hid (heap_later2 ((Below.refl w4.heap.size w4).alloc (Nat.le_refl _) (.cells #[mkC x2, mkC y2, mkC z2, mkC u2] 82)) HS13.out)
  have HS24 := hid (heap_later2 ((Below.refl w4.heap.size w4).alloc (Nat.le_refl _) (.cells #[mkC x2, mkC y2, mkC z2, mkC u2] 82)) HS23.out)
  have HT4 := hid (heap_later2 ((Below.refl w4.heap.size w4).alloc (Nat.le_refl _) (.cells #[mkC x2, mkC y2, mkC z2, mkC u2] 82)) HT3.out)
  have HV14 := hid (HV13.out.below ((Below.refl w4.heap.size w4).alloc (Nat.le_refl _) (.cells #[mkC x2, mkC y2, mkC z2, mkC u2] 82)) (Nat.le_refl _))
  have HV24 := hid (HV23.out.below ((Below.refl w4.heap.size w4).alloc (Nat.le_refl _) (.cells #[mkC x2, mkC y2, mkC z2, mkC u2] 82)) (Nat.le_refl _))
  have HB4 := hid (below_next HB3.out ((Below.refl w4.heap.size w4).alloc (Nat.le_refl _) (.cells #[mkC x2, mkC y2, mkC z2, mkC u2] 82)))
  clear HS13 HS23 HT3 HV13 HV23 HB3
  generalize w4.alloc (.cells #[mkC x2, mkC y2, mkC z2, mkC u2] 82) = w5 at *
  have hsc := block_cells HS14.out
  have s0 := hsc.1 0 _ rfl
  have s1 := hsc.1 1 _ rfl
  have s2 := hsc.1 2 _ rfl
  have sf0 := hsc.2 0
  have sf1 := hsc.2 1
  have sf2 := hsc.2 2
  clear hsc
  have hsc := block_cells HS24.out
  have r0 := hsc.1 0 _ rfl
  have r1 := hsc.1 1 _ rfl
  have r2 := hsc.1 2 _ rfl
  have rf0 := hsc.2 0
  have rf1 := hsc.2 1
  have rf2 := hsc.2 2
  clear hsc
  go_upto_region 10 with (go_at_call 51; refine (mmul22_any g1 o1 c1 g2 o2 c2 a1 a2 a3 a4 b1 b2 b3 b4 _ HV14.out HV24.out).mono ?_; rintro e w6 ⟨v, xs, rfl, hxs, hown, hb⟩; have HT5 := hid (heap_later2 hb HT4.out); have HB5 := hid (below_next HB4.out hb); have HX := hid hxs; have HOW := hid (IsSl.of_own hown); obtain ⟨av, cv, rfl⟩ := (IsSl.of_own hown).form; clear hxs hown; clear hb )
  clear s0 s1 s2 sf0 sf1 sf2 r0 r1 r2 rf0 rf1 rf2 HT4 HB4 HV14 HV24 HS14 HS24
  have HT6 := hid (heap_later2 ((Below.refl w6.heap.size w6).alloc (Nat.le_refl _) (.cells #[.int .i64 2, .int .i64 2, .slice av xs.length cv] 43)) HT5.out)
  have HOW6 := hid (HOW.out.below ((Below.refl w6.heap.size w6).alloc (Nat.le_refl _) (.cells #[.int .i64 2, .int .i64 2, .slice av xs.length cv] 43)) (Nat.le_refl _))
  have HB6 := hid (below_next HB5.out ((Below.refl w6.heap.size w6).alloc (Nat.le_refl _) (.cells #[.int .i64 2, .int .i64 2, .slice av xs.length cv] 43)))
  have HMB := hid (heap_alloc_new w6 (.cells #[.int .i64 2, .int .i64 2, .slice av xs.length cv] 43))
  clear HT5 HOW HB5
  generalize w6.alloc (.cells #[.int .i64 2, .int .i64 2, .slice av xs.length cv] 43) = w7 at *
  generalize w6.heap.size = gm at *
  have HL4 := hid (show xs.length = 4 by have h := congrArg List.length HX.out; simpa [prodL] using h)
  have HKX := hid (show takS 2 2 xs = 0 by
    unfold takS
    rw [if_neg (by have := HL4.out; simp [this]), if_pos]
    rw [List.all_eq_true]
    intro z hz
    exact HKP.out _ (by rw [← HX.out]; exact List.mem_map.2 ⟨z, hz, rfl⟩))
  have hsc := block_cells HMB.out
  have s0 := hsc.1 0 _ rfl
  have s1 := hsc.1 1 _ rfl
  have s2 := hsc.1 2 _ rfl
  have sf0 := hsc.2 0
  have sf1 := hsc.2 1
  have sf2 := hsc.2 2
  clear hsc
  go_upto_region 11 with (go_at_call 44; refine (taken_any 2 2 _ xs _ HOW6.out).mono ?_; rintro e w8 ⟨x3, y3, z3, u3, rfl, hb, hx⟩; have HT7 := hid (heap_later2 hb HT6.out); have HOW7 := hid (HOW6.out.below hb (Nat.le_refl _)); have HMB7 := hid (heap_later2 hb HMB.out); have HB7 := hid (below_next HB6.out hb); rw [HKX.out] at hx ⊢; have HXS := hid (hx rfl); clear hx; clear hb )
  clear s0 s1 s2 sf0 sf1 sf2 HT6 HOW6 HMB HB6
  have HT8 := hid (heap_later2 ((Below.refl w8.heap.size w8).alloc (Nat.le_refl _) (.cells #[mkC x3, mkC y3, mkC z3, mkC u3] 82)) HT7.out)
  have HOW8 := hid (HOW7.out.below ((Below.refl w8.heap.size w8).alloc (Nat.le_refl _) (.cells #[mkC x3, mkC y3, mkC z3, mkC u3] 82)) (Nat.le_refl _))
  have HMB8 := hid (heap_later2 ((Below.refl w8.heap.size w8).alloc (Nat.le_refl _) (.cells #[mkC x3, mkC y3, mkC z3, mkC u3] 82)) HMB7.out)
  have HB8 := hid (below_next HB7.out ((Below.refl w8.heap.size w8).alloc (Nat.le_refl _) (.cells #[mkC x3, mkC y3, mkC z3, mkC u3] 82)))
  have HC3 := hid (heap_alloc_new w8 (.cells #[mkC x3, mkC y3, mkC z3, mkC u3] 82))
  clear HT7 HOW7 HMB7 HB7
  generalize w8.alloc (.cells #[mkC x3, mkC y3, mkC z3, mkC u3] 82) = w9 at *
  generalize w8.heap.size = gc at *
  have HTD := hid (show told4S 0 x3 y3 z3 u3 = ((2, [ck x3, ck y3, ck z3, ck u3]), 0) by
    unfold told4S
    rw [if_neg (by simp), if_pos]
    have h1 := HXS.out
    have h2 : ∀ z ∈ xs, cfin (ck z) = true := fun z hz => HKP.out _ (by rw [← HX.out]; exact List.mem_map.2 ⟨z, hz, rfl⟩)
    rw [h1] at h2
    unfold fin4
    rw [h2 x3 (by simp), h2 y3 (by simp), h2 z3 (by simp), h2 u3 (by simp)]
    rfl)
  go_upto_region 13 with fail
  have hsc := block_cells HC3.out
  have s0 := hsc.1 0 _ rfl
  have s1 := hsc.1 1 _ rfl
  have s2 := hsc.1 2 _ rfl
  have s3 := hsc.1 3 _ rfl
  clear hsc
  go_wp2_with (go_at_call 48; refine (told_any x3 y3 z3 u3 0 _).mono ?_; rintro e wa ⟨v, ys, rfl, hys, hown, hb⟩; have HT9 := hid (heap_later2 hb HT8.out); have HOW9 := hid (HOW8.out.below hb (Nat.le_refl _)); have HMB9 := hid (heap_later2 hb HMB8.out); have HC39 := hid (heap_later2 hb HC3.out); have HB9 := hid (below_next HB8.out hb); rw [HTD.out] at hys ⊢; have HY := hid hys; have HOY := hid hown; obtain ⟨ay, cy, rfl⟩ := (IsSl.of_own hown).form; clear hys hown; have hsc := block_cells HT9.out; have t0 := hsc.1 0 _ rfl; have t1 := hsc.1 1 _ rfl; have t2 := hsc.1 2 _ rfl; have f0 := hsc.2 0; have f1 := hsc.2 1; have f2 := hsc.2 2; clear hsc; clear hb )
  (try simp only [Exit.inBlock, Exit.then])
  (try rw [Exit.noGoto_ret])
  refine bodyPost_ret (v := .tuple #[.agg #[.int .i64 2, .int .i64 2, .slice ay ys.length cy], .int .i64 0]) ?_ rfl ⟨.slice ay ys.length cy, ys, rfl, by rw [HY.out, ← HX.out, HXS.out]; rfl, (HOY.out.mono HB8.out.size).kept (grown_m3 wa gt (.int .i64 2) (.int .i64 2) (.slice ay ys.length cy)) (.inr (fun e => by have h1 := (HOY.out.lt _ e).1; have h2 := (Array.getElem?_eq_some_iff.1 HT8.out).1; omega)), below_m3 HB9.out HLE.out⟩
  rw [results_cell_tmp rfl]
  go_simp
end Go.Proofs.YtdepiggjneoopaaGreatDoor
