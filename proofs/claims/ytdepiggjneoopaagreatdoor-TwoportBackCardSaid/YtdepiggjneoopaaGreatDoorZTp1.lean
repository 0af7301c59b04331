/- a part of the proof of the last text -/
import Derived.Test.YtdepiggjneoopaaGreatDoorZPiv
import Derived.Test.YtdepiggjneoopaaGreatDoorZReg2
import Derived.Test.YtdepiggjneoopaaGreatDoorZMem
import Derived.Deep.RegionWith
namespace Go.Proofs.YtdepiggjneoopaaGreatDoor
set_option linter.all false
set_option maxHeartbeats 4000000
set_option maxRecDepth 100000
open Go.RowKit
abbrev mk4 (a b c d : Cx) : Value := .agg #[mkC a, mkC b, mkC c, mkC d]
/-- What is wrong with a matrix that is to be a two-port. -/
def takS (r c : Int) (xs : List Cx) : Int := if r ≠ 2 ∨ c ≠ 2 ∨ xs.length ≠ 4 then 4 else if (xs.all fun z => cfin (ck z)) = true then 0 else 5
theorem bw (b : Bool) : b = false ∨ b = true := by cases b <;> simp
def fin4 (a b c d : Cx) : Bool := cfin (ck a) && cfin (ck b) && cfin (ck c) && cfin (ck d)
theorem fin4_ways (a b c d : Cx) : (cfin (fc a.1, fc a.2) = false ∨ (cfin (fc a.1, fc a.2) = true ∧ (cfin (fc b.1, fc b.2) = false ∨ (cfin (fc b.1, fc b.2) = true ∧ (cfin (fc c.1, fc c.2) = false ∨ (cfin (fc c.1, fc c.2) = true ∧ (cfin (fc d.1, fc d.2) = false ∨ cfin (fc d.1, fc d.2) = true))))))) := by
  rcases bw (cfin (fc a.1, fc a.2)) with h | h
  · exact .inl h
  refine .inr ⟨h, ?_⟩
  rcases bw (cfin (fc b.1, fc b.2)) with h | h
  · exact .inl h
  refine .inr ⟨h, ?_⟩
  rcases bw (cfin (fc c.1, fc c.2)) with h | h
  · exact .inl h
  exact .inr ⟨h, bw _⟩
theorem slice4c {w : World} {g o cp : Nat} {a b c d : Cx} (h : IsSl w 1 (.slice (some ⟨g, o, none⟩) 4 cp) 4 [mkC a, mkC b, mkC c, mkC d]) : w.cell? ⟨g, o, none⟩ = some (mkC a) ∧ w.cell? ⟨g, o + 1, none⟩ = some (mkC b) ∧ w.cell? ⟨g, o + 2, none⟩ = some (mkC c) ∧ w.cell? ⟨g, o + 3, none⟩ = some (mkC d) := by
  obtain ⟨_, h⟩ := h
  rcases h with ⟨_, h⟩ | ⟨g', o', cp', hv, hc, _, hq⟩
  · exact absurd h (by decide)
  · cases hv
    exact ⟨hq 0 (by decide), hq 1 (by decide), hq 2 (by decide), hq 3 (by decide)⟩
theorem below_f4 {B gt : Nat} {w u : World} {a0 a1 a2 a3 : Value} (h : Below B w u) (hg : B ≤ gt) : Below B w ((((u.setCell ⟨gt, 0, none⟩ a0).setCell ⟨gt, 1, none⟩ a1).setCell ⟨gt, 2, none⟩ a2).setCell ⟨gt, 3, none⟩ a3) :=
  (((h.setCell (p := ⟨gt, 0, none⟩) hg a0).setCell (p := ⟨gt, 1, none⟩) hg a1).setCell (p := ⟨gt, 2, none⟩) hg a2).setCell (p := ⟨gt, 3, none⟩) hg a3
theorem two_blks (w : World) (o1 o2 : Array Value) (t1 t2 : TypeId) : ((w.alloc (.cells o1 t1)).alloc (.cells o2 t2)).heap[w.heap.size]? = some (.cells o1 t1 (0, 0)) ∧ ((w.alloc (.cells o1 t1)).alloc (.cells o2 t2)).heap[w.heap.size + 1]? = some (.cells o2 t2 (0, 0)) ∧ Below w.heap.size w ((w.alloc (.cells o1 t1)).alloc (.cells o2 t2)) :=
  ⟨(heap_alloc_old _ _ (by simp)).trans (heap_alloc_new w _), by have h := heap_alloc_new (w.alloc (.cells o1 t1)) (.cells o2 t2); simpa using h, ((Below.refl _ w).alloc (Nat.le_refl _) _).alloc (by simp) _⟩
abbrev z4 : Value := .agg #[.complex .f64 0 0, .complex .f64 0 0, .complex .f64 0 0, .complex .f64 0 0]
/-- The four numbers taken out; the error. -/
def RetTk (r c : Int) (xs : List Cx) (w : World) (e : Ending) (w' : World) : Prop :=
  ∃ x y z u : Cx, e = .returned (.tuple #[mk4 x y z u, .int .i64 (takS r c xs)]) ∧ Below w.heap.size w w' ∧ (takS r c xs = 0 → xs = [x, y, z, u])
theorem RetTk.good {a b c d : Cx} {w w' : World} (h : takS 2 2 [a, b, c, d] = 0) (hb : Below w.heap.size w w') : RetTk 2 2 [a, b, c, d] w (.returned (.tuple #[mk4 a b c d, .int .i64 0])) w' :=
  ⟨a, b, c, d, by rw [h], hb, fun _ => rfl⟩
theorem RetTk.bad {r c k : Int} {xs : List Cx} {w w' : World} (h : takS r c xs = k) (hk : k ≠ 0) (hb : Below w.heap.size w w') : RetTk r c xs w (.returned (.tuple #[z4, .int .i64 k])) w' :=
  ⟨(0, 0), (0, 0), (0, 0), (0, 0), by rw [h], hb, fun h0 => absurd (h.symm.trans h0) hk⟩
theorem slice4 {w : World} {v : Value} {a b c d : Cx} (h : IsSl w 1 v 4 [mkC a, mkC b, mkC c, mkC d]) : ∃ g o cp, v = .slice (some ⟨g, o, none⟩) 4 cp ∧ 4 ≤ cp ∧ w.cell? ⟨g, o, none⟩ = some (mkC a) ∧ w.cell? ⟨g, o + 1, none⟩ = some (mkC b) ∧ w.cell? ⟨g, o + 2, none⟩ = some (mkC c) ∧ w.cell? ⟨g, o + 3, none⟩ = some (mkC d) := by
  obtain ⟨_, h⟩ := h
  rcases h with ⟨_, h⟩ | ⟨g, o, cp, rfl, hc, _, hq⟩
  · exact absurd h (by decide)
  · exact ⟨g, o, cp, rfl, hc, hq 0 (by decide), hq 1 (by decide), hq 2 (by decide), hq 3 (by decide)⟩
set_option maxRecDepth 100000 in
set_option maxHeartbeats 1000000 in
theorem f4fin_any (a b c d : Cx) (w : World) :
    Calls Tryz.prog 76 #[mk4 a b c d] w (fun e w' => e = .returned (.bool (fin4 a b c d)) ∧ Below w.heap.size w w') := by
  have hb1 := (Below.refl w.heap.size w).alloc (Nat.le_refl _) (.cells #[mkC a, mkC b, mkC c, mkC d] 82)
  have HS := hid (heap_alloc_new w (.cells #[mkC a, mkC b, mkC c, mkC d] 82))
  have HB := hid hb1
  clear hb1
  rcases fin4_ways a b c d with h1 | ⟨h1, h2 | ⟨h2, h3 | ⟨h3, h4 | h4⟩⟩⟩
  all_goals
    go_enter Tryz.func76, Tryz.ntmps76
    go_upto_region 1 with fail
    generalize w.alloc (.cells #[mkC a, mkC b, mkC c, mkC d] 82) = w1 at *
    obtain ⟨gs, hgs⟩ : ∃ gs, w.heap.size = gs := ⟨_, rfl⟩
    rw [hgs] at HS ⊢
    have hsc := block_cells HS.out
    have s0 := hsc.1 0 _ rfl
    have s1 := hsc.1 1 _ rfl
    have s2 := hsc.1 2 _ rfl
    have s3 := hsc.1 3 _ rfl
    clear hsc
    go_wp2_with (go_at_call 41; refine (pfin_any _ _ _).mono ?_; rintro e w' ⟨_, n, rfl, rfl, rfl⟩)
    go_ret
    exact ⟨by simp [fin4, ck, *], by first | exact HB.out.drewN _ | exact below_n (below_n (below_n (below_n HB.out _) _) _) _ | exact below_n (below_n (below_n HB.out _) _) _ | exact below_n (below_n HB.out _) _ | exact below_n HB.out _⟩
set_option maxRecDepth 100000 in
set_option maxHeartbeats 2000000 in
theorem taken_any (r c : Int) (v : Value) (xs : List Cx) (w : World) (hv : IsSl w 1 v xs.length (xs.map mkC)) :
    Calls Tryz.prog 44 #[.agg #[.int .i64 r, .int .i64 c, v]] w (RetTk r c xs w) := by
  obtain ⟨av, cp, rfl⟩ := hv.form
  obtain ⟨t1, t2, t3⟩ := two_blks w #[.int .i64 r, .int .i64 c, .slice av xs.length cp] #[.complex .f64 0 0, .complex .f64 0 0, .complex .f64 0 0, .complex .f64 0 0] 43 82
  have HM := hid t1
  have HT := hid t2
  have HB := hid t3
  have HV := hid (hv.below t3 (Nat.le_refl _))
  clear hv t1 t2 t3
  have hways : (r ≠ 2 ∧ (r != 2) = true ∧ takS r c xs = 4) ∨ (r = 2 ∧ (c != 2) = true ∧ takS r c xs = 4) ∨ (r = 2 ∧ c = 2 ∧ ((xs.length : Int) != 4) = true ∧ takS r c xs = 4) ∨ (r = 2 ∧ c = 2 ∧ xs.length = 4) := by
    unfold takS
    by_cases h1 : r = 2
    · by_cases h2 : c = 2
      · by_cases h3 : xs.length = 4
        · exact .inr (.inr (.inr ⟨h1, h2, h3⟩))
        · exact .inr (.inr (.inl ⟨h1, h2, by simp; omega, by rw [if_pos (.inr (.inr h3))]⟩))
      · exact .inr (.inl ⟨h1, by simpa using h2, by rw [if_pos (.inr (.inl h2))]⟩)
    · exact .inl ⟨h1, by simpa using h1, by rw [if_pos (.inl h1)]⟩
  rcases hways with ⟨_, q1, hs⟩ | ⟨rfl, q1, hs⟩ | ⟨rfl, rfl, q1, hs⟩ | ⟨rfl, rfl, h4⟩
  · have HS := hid hs
    clear hs
    go_enter Tryz.func44, Tryz.ntmps44
    go_upto_region 1 with fail
    generalize (w.alloc (.cells #[.int .i64 r, .int .i64 c, .slice av xs.length cp] 43)).alloc (.cells #[.complex .f64 0 0, .complex .f64 0 0, .complex .f64 0 0, .complex .f64 0 0] 82) = w1 at *
    obtain ⟨gm, hgm⟩ : ∃ gm, w.heap.size = gm := ⟨_, rfl⟩
    obtain ⟨gt, hgt⟩ : ∃ gt, gm + 1 = gt := ⟨_, rfl⟩
    have HLE := hid (show w.heap.size ≤ gt by omega)
    have HNE := hid (show gm ≠ gt by omega)
    rw [hgm] at HM HT ⊢
    rw [hgt] at HT ⊢
    clear hgm hgt
    have hsc := block_cells HM.out
    have m0 := hsc.1 0 _ rfl
    have m1 := hsc.1 1 _ rfl
    have m2 := hsc.1 2 _ rfl
    have hsc := block_cells HT.out
    have t0 := hsc.1 0 _ rfl
    have t1 := hsc.1 1 _ rfl
    have t2 := hsc.1 2 _ rfl
    have t3 := hsc.1 3 _ rfl
    have f0 := hsc.2 0
    have f1 := hsc.2 1
    have f2 := hsc.2 2
    have f3 := hsc.2 3
    clear hsc
    go_wp2
    (try simp only [Exit.inBlock, Exit.then])
    (try rw [Exit.noGoto_ret])
    refine bodyPost_ret (v := .tuple #[z4, .int .i64 4]) ?_ rfl (RetTk.bad HS.out (by decide) (below_f4 HB.out HLE.out))
    rw [results_cell_tmp rfl]
    go_simp
  · have HS := hid hs
    clear hs
    go_enter Tryz.func44, Tryz.ntmps44
    go_upto_region 1 with fail
    generalize (w.alloc (.cells #[.int .i64 2, .int .i64 c, .slice av xs.length cp] 43)).alloc (.cells #[.complex .f64 0 0, .complex .f64 0 0, .complex .f64 0 0, .complex .f64 0 0] 82) = w1 at *
    obtain ⟨gm, hgm⟩ : ∃ gm, w.heap.size = gm := ⟨_, rfl⟩
    obtain ⟨gt, hgt⟩ : ∃ gt, gm + 1 = gt := ⟨_, rfl⟩
    have HLE := hid (show w.heap.size ≤ gt by omega)
    have HNE := hid (show gm ≠ gt by omega)
    rw [hgm] at HM HT ⊢
    rw [hgt] at HT ⊢
    clear hgm hgt
    have hsc := block_cells HM.out
    have m0 := hsc.1 0 _ rfl
    have m1 := hsc.1 1 _ rfl
    have m2 := hsc.1 2 _ rfl
    have hsc := block_cells HT.out
    have t0 := hsc.1 0 _ rfl
    have t1 := hsc.1 1 _ rfl
    have t2 := hsc.1 2 _ rfl
    have t3 := hsc.1 3 _ rfl
    have f0 := hsc.2 0
    have f1 := hsc.2 1
    have f2 := hsc.2 2
    have f3 := hsc.2 3
    clear hsc
    go_wp2
    (try simp only [Exit.inBlock, Exit.then])
    (try rw [Exit.noGoto_ret])
    refine bodyPost_ret (v := .tuple #[z4, .int .i64 4]) ?_ rfl (RetTk.bad HS.out (by decide) (below_f4 HB.out HLE.out))
    rw [results_cell_tmp rfl]
    go_simp
  · have HS := hid hs
    clear hs
    go_enter Tryz.func44, Tryz.ntmps44
    go_upto_region 1 with fail
    generalize (w.alloc (.cells #[.int .i64 2, .int .i64 2, .slice av xs.length cp] 43)).alloc (.cells #[.complex .f64 0 0, .complex .f64 0 0, .complex .f64 0 0, .complex .f64 0 0] 82) = w1 at *
    obtain ⟨gm, hgm⟩ : ∃ gm, w.heap.size = gm := ⟨_, rfl⟩
    obtain ⟨gt, hgt⟩ : ∃ gt, gm + 1 = gt := ⟨_, rfl⟩
    have HLE := hid (show w.heap.size ≤ gt by omega)
    have HNE := hid (show gm ≠ gt by omega)
    rw [hgm] at HM HT ⊢
    rw [hgt] at HT ⊢
    clear hgm hgt
    have hsc := block_cells HM.out
    have m0 := hsc.1 0 _ rfl
    have m1 := hsc.1 1 _ rfl
    have m2 := hsc.1 2 _ rfl
    have hsc := block_cells HT.out
    have t0 := hsc.1 0 _ rfl
    have t1 := hsc.1 1 _ rfl
    have t2 := hsc.1 2 _ rfl
    have t3 := hsc.1 3 _ rfl
    have f0 := hsc.2 0
    have f1 := hsc.2 1
    have f2 := hsc.2 2
    have f3 := hsc.2 3
    clear hsc
    go_wp2
    (try simp only [Exit.inBlock, Exit.then])
    (try rw [Exit.noGoto_ret])
    refine bodyPost_ret (v := .tuple #[z4, .int .i64 4]) ?_ rfl (RetTk.bad HS.out (by decide) (below_f4 HB.out HLE.out))
    rw [results_cell_tmp rfl]
    go_simp
  · obtain ⟨a, b, c, d, rfl⟩ : ∃ a b c d : Cx, xs = [a, b, c, d] := by
      match xs, h4 with
      | [a, b, c, d], _ => exact ⟨a, b, c, d, rfl⟩
    clear h4
    have HV2 := hid (show IsSl ((w.alloc (.cells #[.int .i64 2, .int .i64 2, .slice av 4 cp] 43)).alloc (.cells #[.complex .f64 0 0, .complex .f64 0 0, .complex .f64 0 0, .complex .f64 0 0] 82)) 1 (.slice av 4 cp) 4 [mkC a, mkC b, mkC c, mkC d] from HV.out)
    clear HV
    obtain ⟨g, o, cp', hsl, _, _⟩ := slice4 HV2.out
    cases hsl
    dsimp only [List.length_cons, List.length_nil] at HM HT HB ⊢
    go_enter Tryz.func44, Tryz.ntmps44
    go_upto_region 1 with fail
    generalize (w.alloc (.cells #[.int .i64 2, .int .i64 2, .slice (some ⟨g, o, none⟩) 4 cp] 43)).alloc (.cells #[.complex .f64 0 0, .complex .f64 0 0, .complex .f64 0 0, .complex .f64 0 0] 82) = w1 at *
    obtain ⟨gm, hgm⟩ : ∃ gm, w.heap.size = gm := ⟨_, rfl⟩
    obtain ⟨gt, hgt⟩ : ∃ gt, gm + 1 = gt := ⟨_, rfl⟩
    have HLE := hid (show w.heap.size ≤ gt by omega)
    have HNE := hid (show gm ≠ gt by omega)
    rw [hgm] at HM HT ⊢
    rw [hgt] at HT ⊢
    clear hgm hgt
    have hsc := block_cells HM.out
    have m0 := hsc.1 0 _ rfl
    have m1 := hsc.1 1 _ rfl
    have m2 := hsc.1 2 _ rfl
    have hsc := block_cells HT.out
    have t0 := hsc.1 0 _ rfl
    have t1 := hsc.1 1 _ rfl
    have t2 := hsc.1 2 _ rfl
    have t3 := hsc.1 3 _ rfl
    have f0 := hsc.2 0
    have f1 := hsc.2 1
    have f2 := hsc.2 2
    have f3 := hsc.2 3
    clear hsc
    clear t0 t1 t2 t3 f0 f1 f2 f3
    go_upto_region 3 with fail
    clear m0 m1 m2
    refine wp_region_any (by kernel_rfl) ?_
    change wpAny _ _ _ _ _ _ _ (World.drew _)
    refine wpAny_makersD [⟨some 20, 0, []⟩, ⟨some 21, 1, []⟩, ⟨some 22, 2, []⟩, ⟨some 23, 3, []⟩, ⟨some 24, 4, []⟩, ⟨some 25, 5, []⟩, ⟨some 26, 6, []⟩, ⟨some 27, 7, []⟩, ⟨some 28, 8, []⟩, ⟨some 29, 9, []⟩, ⟨some 30, 10, []⟩, ⟨some 31, 11, []⟩, ⟨some 32, 12, []⟩, ⟨some 33, 13, []⟩, ⟨some 34, 14, []⟩, ⟨some 35, 15, []⟩, ⟨some 36, 16, []⟩, ⟨some 37, 17, []⟩, ⟨some 38, 18, []⟩, ⟨some 4, 19, []⟩]
      (fun w' => w'.heap[gm]? = some (.cells #[.int .i64 2, .int .i64 2, .slice (some ⟨g, o, none⟩) 4 cp] 43 (0, 0)) ∧ w'.heap[gt]? = some (.cells #[.complex .f64 0 0, .complex .f64 0 0, .complex .f64 0 0, .complex .f64 0 0] 82 (0, 0)) ∧ IsSl w' 1 (.slice (some ⟨g, o, none⟩) 4 cp) 4 [mkC a, mkC b, mkC c, mkC d])
      (fun oq v _ ww lo hi => (match oq with | 0 => v = .pointer (some ⟨gm, 2, none⟩) | 1 => v = .slice (some ⟨g, o, none⟩) 4 cp | 2 => v = .pointer (some ⟨g, o, none⟩) | 3 => v = mkC a | 4 => v = .pointer (some ⟨gm, 2, none⟩) | 5 => v = .slice (some ⟨g, o, none⟩) 4 cp | 6 => v = .pointer (some ⟨g, o + 1, none⟩) | 7 => v = mkC b | 8 => v = .agg #[mkC a, mkC b] | 9 => v = .pointer (some ⟨gm, 2, none⟩) | 10 => v = .slice (some ⟨g, o, none⟩) 4 cp | 11 => v = .pointer (some ⟨g, o + 2, none⟩) | 12 => v = mkC c | 13 => v = .pointer (some ⟨gm, 2, none⟩) | 14 => v = .slice (some ⟨g, o, none⟩) 4 cp | 15 => v = .pointer (some ⟨g, o + 3, none⟩) | 16 => v = mkC d | 17 => v = .agg #[mkC c, mkC d] | 18 => v = mk4 a b c d | 19 => True | _ => True) ∧ (oq = 19 → BlkD (.cells #[.complex .f64 0 0, .complex .f64 0 0, .complex .f64 0 0, .complex .f64 0 0] 82) v ww lo hi)) (by kernel_rfl) ?hSm (fun _ _ hb h => ⟨heap_next hb h.1, heap_next hb h.2.1, h.2.2.below hb (Nat.le_refl _)⟩) (fun _ _ _ _ _ _ _ hb _ h => ⟨h.1, fun e => (h.2 e).later hb⟩) ?hopm ?hendm
    case hSm => exact ⟨HM.out, HT.out, HV2.out⟩
    case hopm =>
      delta Owed
      simp only [fillD, Act.put, List.setIfInBounds_toArray, List.set_cons_zero, List.set_cons_succ]
      refine Each.cons rfl ?_ (Each.cons rfl ?_ (Each.cons rfl ?_ (Each.cons rfl ?_ (Each.cons rfl ?_ (Each.cons rfl ?_ (Each.cons rfl ?_ (Each.cons rfl ?_ (Each.cons rfl ?_ (Each.cons rfl ?_ (Each.cons rfl ?_ (Each.cons rfl ?_ (Each.cons rfl ?_ (Each.cons rfl ?_ (Each.cons rfl ?_ (Each.cons rfl ?_ (Each.cons rfl ?_ (Each.cons rfl ?_ (Each.cons rfl ?_ (Each.cons rfl ?_ Each.nil)))))))))))))))))))
      · intro vs w2 hb2 hS2 hR2 K hK
        simp only [List.set_cons_zero, List.set_cons_succ] at hK ⊢
        go_simp
        exact hK.out _ _ (Below.refl _ _) ⟨rfl, (fun e => (by cases e))⟩
      · intro vs w2 hb2 hS2 hR2 K hK
        have h0 : vs 0 = .pointer (some ⟨gm, 2, none⟩) := by obtain ⟨_, _, _, h⟩ := hR2 0 (by kernel_rfl); exact h.1
        simp only [List.set_cons_zero, List.set_cons_succ] at hK ⊢
        have k0 := (cells_ofS hS2.1).1 2 _ rfl
        obtain ⟨k1, k2, k3, k4⟩ := slice4c hS2.2.2
        simp only [h0] at hK ⊢
        go_simp
        exact hK.out _ _ (Below.refl _ _) ⟨rfl, (fun e => (by cases e))⟩
      · intro vs w2 hb2 hS2 hR2 K hK
        have h1 : vs 1 = .slice (some ⟨g, o, none⟩) 4 cp := by obtain ⟨_, _, _, h⟩ := hR2 1 (by kernel_rfl); exact h.1
        simp only [List.set_cons_zero, List.set_cons_succ] at hK ⊢
        have k0 := (cells_ofS hS2.1).1 2 _ rfl
        obtain ⟨k1, k2, k3, k4⟩ := slice4c hS2.2.2
        simp only [h1] at hK ⊢
        go_simp
        exact hK.out _ _ (Below.refl _ _) ⟨rfl, (fun e => (by cases e))⟩
      · intro vs w2 hb2 hS2 hR2 K hK
        have h2 : vs 2 = .pointer (some ⟨g, o, none⟩) := by obtain ⟨_, _, _, h⟩ := hR2 2 (by kernel_rfl); exact h.1
        simp only [List.set_cons_zero, List.set_cons_succ] at hK ⊢
        have k0 := (cells_ofS hS2.1).1 2 _ rfl
        obtain ⟨k1, k2, k3, k4⟩ := slice4c hS2.2.2
        simp only [h2] at hK ⊢
        go_simp
        exact hK.out _ _ (Below.refl _ _) ⟨rfl, (fun e => (by cases e))⟩
      · intro vs w2 hb2 hS2 hR2 K hK
        simp only [List.set_cons_zero, List.set_cons_succ] at hK ⊢
        go_simp
        exact hK.out _ _ (Below.refl _ _) ⟨rfl, (fun e => (by cases e))⟩
      · intro vs w2 hb2 hS2 hR2 K hK
        have h4 : vs 4 = .pointer (some ⟨gm, 2, none⟩) := by obtain ⟨_, _, _, h⟩ := hR2 4 (by kernel_rfl); exact h.1
        simp only [List.set_cons_zero, List.set_cons_succ] at hK ⊢
        have k0 := (cells_ofS hS2.1).1 2 _ rfl
        obtain ⟨k1, k2, k3, k4⟩ := slice4c hS2.2.2
        simp only [h4] at hK ⊢
        go_simp
        exact hK.out _ _ (Below.refl _ _) ⟨rfl, (fun e => (by cases e))⟩
      · intro vs w2 hb2 hS2 hR2 K hK
        have h5 : vs 5 = .slice (some ⟨g, o, none⟩) 4 cp := by obtain ⟨_, _, _, h⟩ := hR2 5 (by kernel_rfl); exact h.1
        simp only [List.set_cons_zero, List.set_cons_succ] at hK ⊢
        have k0 := (cells_ofS hS2.1).1 2 _ rfl
        obtain ⟨k1, k2, k3, k4⟩ := slice4c hS2.2.2
        simp only [h5] at hK ⊢
        go_simp
        exact hK.out _ _ (Below.refl _ _) ⟨rfl, (fun e => (by cases e))⟩
      · intro vs w2 hb2 hS2 hR2 K hK
        have h6 : vs 6 = .pointer (some ⟨g, o + 1, none⟩) := by obtain ⟨_, _, _, h⟩ := hR2 6 (by kernel_rfl); exact h.1
        simp only [List.set_cons_zero, List.set_cons_succ] at hK ⊢
        have k0 := (cells_ofS hS2.1).1 2 _ rfl
        obtain ⟨k1, k2, k3, k4⟩ := slice4c hS2.2.2
        simp only [h6] at hK ⊢
        go_simp
        exact hK.out _ _ (Below.refl _ _) ⟨rfl, (fun e => (by cases e))⟩
      · intro vs w2 hb2 hS2 hR2 K hK
        have h3 : vs 3 = mkC a := by obtain ⟨_, _, _, h⟩ := hR2 3 (by kernel_rfl); exact h.1
        have h7 : vs 7 = mkC b := by obtain ⟨_, _, _, h⟩ := hR2 7 (by kernel_rfl); exact h.1
        simp only [List.set_cons_zero, List.set_cons_succ] at hK ⊢
        simp only [h3, h7] at hK ⊢
        go_simp
        exact hK.out _ _ (Below.refl _ _) ⟨rfl, (fun e => (by cases e))⟩
      · intro vs w2 hb2 hS2 hR2 K hK
        simp only [List.set_cons_zero, List.set_cons_succ] at hK ⊢
        go_simp
        exact hK.out _ _ (Below.refl _ _) ⟨rfl, (fun e => (by cases e))⟩
      · intro vs w2 hb2 hS2 hR2 K hK
        have h9 : vs 9 = .pointer (some ⟨gm, 2, none⟩) := by obtain ⟨_, _, _, h⟩ := hR2 9 (by kernel_rfl); exact h.1
        simp only [List.set_cons_zero, List.set_cons_succ] at hK ⊢
        have k0 := (cells_ofS hS2.1).1 2 _ rfl
        obtain ⟨k1, k2, k3, k4⟩ := slice4c hS2.2.2
        simp only [h9] at hK ⊢
        go_simp
        exact hK.out _ _ (Below.refl _ _) ⟨rfl, (fun e => (by cases e))⟩
      · intro vs w2 hb2 hS2 hR2 K hK
        have h10 : vs 10 = .slice (some ⟨g, o, none⟩) 4 cp := by obtain ⟨_, _, _, h⟩ := hR2 10 (by kernel_rfl); exact h.1
        simp only [List.set_cons_zero, List.set_cons_succ] at hK ⊢
        have k0 := (cells_ofS hS2.1).1 2 _ rfl
        obtain ⟨k1, k2, k3, k4⟩ := slice4c hS2.2.2
        simp only [h10] at hK ⊢
        go_simp
        exact hK.out _ _ (Below.refl _ _) ⟨rfl, (fun e => (by cases e))⟩
      · intro vs w2 hb2 hS2 hR2 K hK
        have h11 : vs 11 = .pointer (some ⟨g, o + 2, none⟩) := by obtain ⟨_, _, _, h⟩ := hR2 11 (by kernel_rfl); exact h.1
        simp only [List.set_cons_zero, List.set_cons_succ] at hK ⊢
        have k0 := (cells_ofS hS2.1).1 2 _ rfl
        obtain ⟨k1, k2, k3, k4⟩ := slice4c hS2.2.2
        simp only [h11] at hK ⊢
        go_simp
        exact hK.out _ _ (Below.refl _ _) ⟨rfl, (fun e => (by cases e))⟩
      · intro vs w2 hb2 hS2 hR2 K hK
        simp only [List.set_cons_zero, List.set_cons_succ] at hK ⊢
        go_simp
        exact hK.out _ _ (Below.refl _ _) ⟨rfl, (fun e => (by cases e))⟩
      · intro vs w2 hb2 hS2 hR2 K hK
        have h13 : vs 13 = .pointer (some ⟨gm, 2, none⟩) := by obtain ⟨_, _, _, h⟩ := hR2 13 (by kernel_rfl); exact h.1
        simp only [List.set_cons_zero, List.set_cons_succ] at hK ⊢
        have k0 := (cells_ofS hS2.1).1 2 _ rfl
        obtain ⟨k1, k2, k3, k4⟩ := slice4c hS2.2.2
        simp only [h13] at hK ⊢
        go_simp
        exact hK.out _ _ (Below.refl _ _) ⟨rfl, (fun e => (by cases e))⟩
      · intro vs w2 hb2 hS2 hR2 K hK
        have h14 : vs 14 = .slice (some ⟨g, o, none⟩) 4 cp := by obtain ⟨_, _, _, h⟩ := hR2 14 (by kernel_rfl); exact h.1
        simp only [List.set_cons_zero, List.set_cons_succ] at hK ⊢
        have k0 := (cells_ofS hS2.1).1 2 _ rfl
        obtain ⟨k1, k2, k3, k4⟩ := slice4c hS2.2.2
        simp only [h14] at hK ⊢
        go_simp
        exact hK.out _ _ (Below.refl _ _) ⟨rfl, (fun e => (by cases e))⟩
      · intro vs w2 hb2 hS2 hR2 K hK
        have h15 : vs 15 = .pointer (some ⟨g, o + 3, none⟩) := by obtain ⟨_, _, _, h⟩ := hR2 15 (by kernel_rfl); exact h.1
        simp only [List.set_cons_zero, List.set_cons_succ] at hK ⊢
        have k0 := (cells_ofS hS2.1).1 2 _ rfl
        obtain ⟨k1, k2, k3, k4⟩ := slice4c hS2.2.2
        simp only [h15] at hK ⊢
        go_simp
        exact hK.out _ _ (Below.refl _ _) ⟨rfl, (fun e => (by cases e))⟩
      · intro vs w2 hb2 hS2 hR2 K hK
        have h12 : vs 12 = mkC c := by obtain ⟨_, _, _, h⟩ := hR2 12 (by kernel_rfl); exact h.1
        have h16 : vs 16 = mkC d := by obtain ⟨_, _, _, h⟩ := hR2 16 (by kernel_rfl); exact h.1
        simp only [List.set_cons_zero, List.set_cons_succ] at hK ⊢
        simp only [h12, h16] at hK ⊢
        go_simp
        exact hK.out _ _ (Below.refl _ _) ⟨rfl, (fun e => (by cases e))⟩
      · intro vs w2 hb2 hS2 hR2 K hK
        have h8 : vs 8 = .agg #[mkC a, mkC b] := by obtain ⟨_, _, _, h⟩ := hR2 8 (by kernel_rfl); exact h.1
        have h17 : vs 17 = .agg #[mkC c, mkC d] := by obtain ⟨_, _, _, h⟩ := hR2 17 (by kernel_rfl); exact h.1
        simp only [List.set_cons_zero, List.set_cons_succ] at hK ⊢
        simp only [h8, h17] at hK ⊢
        go_simp
        exact hK.out _ _ (Below.refl _ _) ⟨rfl, (fun e => (by cases e))⟩
      · intro vs w2 hb2 hS2 hR2 K hK
        simp only [List.set_cons_zero, List.set_cons_succ] at hK ⊢
        go_simp
        exact hK.out _ _ ((Below.refl _ _).alloc (Nat.le_refl _) _) ⟨trivial, fun _ => BlkD.new _ _⟩
    case hendm =>
      intro vs wx lo hiv hbx hSx hRx hdx
      have h0 : vs 0 = .pointer (some ⟨gm, 2, none⟩) := (hRx 0 (by kernel_rfl)).1.1
      have h1 : vs 1 = .slice (some ⟨g, o, none⟩) 4 cp := (hRx 1 (by kernel_rfl)).1.1
      have h2 : vs 2 = .pointer (some ⟨g, o, none⟩) := (hRx 2 (by kernel_rfl)).1.1
      have h3 : vs 3 = mkC a := (hRx 3 (by kernel_rfl)).1.1
      have h4 : vs 4 = .pointer (some ⟨gm, 2, none⟩) := (hRx 4 (by kernel_rfl)).1.1
      have h5 : vs 5 = .slice (some ⟨g, o, none⟩) 4 cp := (hRx 5 (by kernel_rfl)).1.1
      have h6 : vs 6 = .pointer (some ⟨g, o + 1, none⟩) := (hRx 6 (by kernel_rfl)).1.1
      have h7 : vs 7 = mkC b := (hRx 7 (by kernel_rfl)).1.1
      have h8 : vs 8 = .agg #[mkC a, mkC b] := (hRx 8 (by kernel_rfl)).1.1
      have h9 : vs 9 = .pointer (some ⟨gm, 2, none⟩) := (hRx 9 (by kernel_rfl)).1.1
      have h10 : vs 10 = .slice (some ⟨g, o, none⟩) 4 cp := (hRx 10 (by kernel_rfl)).1.1
      have h11 : vs 11 = .pointer (some ⟨g, o + 2, none⟩) := (hRx 11 (by kernel_rfl)).1.1
      have h12 : vs 12 = mkC c := (hRx 12 (by kernel_rfl)).1.1
      have h13 : vs 13 = .pointer (some ⟨gm, 2, none⟩) := (hRx 13 (by kernel_rfl)).1.1
      have h14 : vs 14 = .slice (some ⟨g, o, none⟩) 4 cp := (hRx 14 (by kernel_rfl)).1.1
      have h15 : vs 15 = .pointer (some ⟨g, o + 3, none⟩) := (hRx 15 (by kernel_rfl)).1.1
      have h16 : vs 16 = mkC d := (hRx 16 (by kernel_rfl)).1.1
      have h17 : vs 17 = .agg #[mkC c, mkC d] := (hRx 17 (by kernel_rfl)).1.1
      have h18 : vs 18 = mk4 a b c d := (hRx 18 (by kernel_rfl)).1.1
      have Y19 := (hRx 19 (by kernel_rfl)).1.2 rfl
      have Z19 := (hRx 19 (by kernel_rfl)).2
      simp only [fillD, Act.put, List.setIfInBounds_toArray, List.set_cons_zero, List.set_cons_succ, h0, h1, h2, h3, h4, h5, h6, h7, h8, h9, h10, h11, h12, h13, h14, h15, h16, h17, h18]
      obtain ⟨g8, h19, lo8, hi8, hr8⟩ := Y19
      have l8 : w1.heap.size ≤ g8 := Nat.le_trans Z19.1 lo8
      have hb := below_drew_left hbx
      have hbS : Below w1.heap.size w1 ((((wx.setCell ⟨g8, 0, none⟩ (mkC a)).setCell ⟨g8, 1, none⟩ (mkC b)).setCell ⟨g8, 2, none⟩ (mkC c)).setCell ⟨g8, 3, none⟩ (mkC d)) := below_f4 hb l8
      have HT2 := hid (heap_next hbS HT.out)
      have HB2 := hid (below_next HB.out hbS)
      have HS8 := hid (show ((((wx.setCell ⟨g8, 0, none⟩ (mkC a)).setCell ⟨g8, 1, none⟩ (mkC b)).setCell ⟨g8, 2, none⟩ (mkC c)).setCell ⟨g8, 3, none⟩ (mkC d)).heap[g8]? = some (.cells #[mkC a, mkC b, mkC c, mkC d] 82 (0, 0)) from blk_set1 (blk_set1 (blk_set1 (blk_set1 hr8 _) _) _) _)
      have hbk := block_cells hr8
      have f0 := hbk.2 0
      have f1 := hbk.2 1
      have f2 := hbk.2 2
      have f3 := hbk.2 3
      have v0 := hbk.1 0 _ rfl
      have v1 := hbk.1 1 _ rfl
      have v2 := hbk.1 2 _ rfl
      have v3 := hbk.1 3 _ rfl
      clear hbk
      simp only [h18, h19]
      clear hbx hSx hRx hdx hr8 lo8 hi8 l8 hb hbS Z19 HT HB h0 h1 h2 h3 h4 h5 h6 h7 h8 h9 h10 h11 h12 h13 h14 h15 h16 h17 h18 h19
      refine wpAny_one (i := 20) (by kernel_rfl) rfl (fun K hK => ?_)
      go_simp
      refine hK.out _ _ ?_
      clear hK
      refine wpAny_done (by kernel_rfl) ?_ _
      clear f0 f1 f2 f3 v0 v1 v2 v3
      generalize ((((wx.setCell ⟨g8, 0, none⟩ (mkC a)).setCell ⟨g8, 1, none⟩ (mkC b)).setCell ⟨g8, 2, none⟩ (mkC c)).setCell ⟨g8, 3, none⟩ (mkC d)) = w2 at *
      have hsc := block_cells HS8.out
      have s0 := hsc.1 0 _ rfl
      have s1 := hsc.1 1 _ rfl
      have s2 := hsc.1 2 _ rfl
      have s3 := hsc.1 3 _ rfl
      clear hsc
      cases hfn : fin4 a b c d
      · skip
        have HF3 := hid hfn
        have HW := hid (show takS 2 2 [a, b, c, d] = 5 by unfold takS; rw [if_neg (by simp)]; rw [if_neg]; simpa [fin4, Bool.and_assoc] using hfn)
        clear hfn
        go_upto_region 5 with (go_at_call 76; refine (f4fin_any a b c d _).mono ?_; rintro e w3 ⟨rfl, hb⟩; rw [HF3.out]; have HB3 := hid (below_next HB2.out hb); have HT3 := hid (heap_later2 hb HT2.out); have HS3 := hid (heap_later2 hb HS8.out); clear hb)
        clear s0 s1 s2 s3
        have hsc := block_cells HS3.out
        have s0 := hsc.1 0 _ rfl
        have s1 := hsc.1 1 _ rfl
        have s2 := hsc.1 2 _ rfl
        have s3 := hsc.1 3 _ rfl
        have hsc := block_cells HT3.out
        have t0 := hsc.1 0 _ rfl
        have t1 := hsc.1 1 _ rfl
        have t2 := hsc.1 2 _ rfl
        have t3 := hsc.1 3 _ rfl
        have f0 := hsc.2 0
        have f1 := hsc.2 1
        have f2 := hsc.2 2
        have f3 := hsc.2 3
        clear hsc
        go_wp2
        (try simp only [Exit.inBlock, Exit.then])
        (try rw [Exit.noGoto_ret])
        refine bodyPost_ret (v := .tuple #[z4, .int .i64 5]) ?_ rfl (RetTk.bad HW.out (by decide) (below_f4 HB3.out HLE.out))
        rw [results_cell_tmp rfl]
        go_simp
      · skip
        have HF3 := hid hfn
        have HW := hid (show takS 2 2 [a, b, c, d] = 0 by unfold takS; rw [if_neg (by simp)]; rw [if_pos]; simpa [fin4, Bool.and_assoc] using hfn)
        clear hfn
        go_upto_region 6 with (go_at_call 76; refine (f4fin_any a b c d _).mono ?_; rintro e w3 ⟨rfl, hb⟩; rw [HF3.out]; have HB3 := hid (below_next HB2.out hb); have HT3 := hid (heap_later2 hb HT2.out); have HS3 := hid (heap_later2 hb HS8.out); clear hb)
        clear s0 s1 s2 s3
        have hsc := block_cells HS3.out
        have s0 := hsc.1 0 _ rfl
        have s1 := hsc.1 1 _ rfl
        have s2 := hsc.1 2 _ rfl
        have s3 := hsc.1 3 _ rfl
        have hsc := block_cells HT3.out
        have t0 := hsc.1 0 _ rfl
        have t1 := hsc.1 1 _ rfl
        have t2 := hsc.1 2 _ rfl
        have t3 := hsc.1 3 _ rfl
        have f0 := hsc.2 0
        have f1 := hsc.2 1
        have f2 := hsc.2 2
        have f3 := hsc.2 3
        clear hsc
        go_wp2
        (try simp only [Exit.inBlock, Exit.then])
        (try rw [Exit.noGoto_ret])
        refine bodyPost_ret (v := .tuple #[mk4 a b c d, .int .i64 0]) ?_ rfl (RetTk.good HW.out (below_f4 HB3.out HLE.out))
        rw [results_cell_tmp rfl]
        go_simp
end Go.Proofs.YtdepiggjneoopaaGreatDoor
