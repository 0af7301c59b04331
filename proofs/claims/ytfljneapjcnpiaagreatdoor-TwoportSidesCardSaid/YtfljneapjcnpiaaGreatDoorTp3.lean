/- twoport.told, twoport.S. -/
import Derived.Test.YtfljneapjcnpiaaGreatDoorTp2
import Derived.Deep.Onto
namespace Go.Proofs.YtfljneapjcnpiaaGreatDoor
open Go.RowKit

set_option maxRecDepth 100000 in
set_option maxHeartbeats 2000000 in
theorem told_any (a b c d : Cx) (k : Int) (w : World) :
    Calls Tryz.prog 44 #[mk4 a b c d, .int .i64 k] w (RetM2 (toldS k a b c d) w) := by
  obtain ⟨t1, t2, t3⟩ := two_blks w #[mkC a, mkC b, mkC c, mkC d] #[.int .i64 0, .int .i64 0, .slice none 0 0] 70 32
  have HS := hid t1
  have HT := hid t2
  have HB := hid t3
  clear t1 t2 t3
  by_cases hk : k = 0
  rotate_left
  · have q1 : (k != 0) = true := by simpa using hk
    have HW := hid (show toldS k a b c d = ((0, []), k) by unfold toldS; rw [if_pos hk])
    clear hk
    go_enter Tryz.func44, Tryz.ntmps44
    go_upto_region 1 with fail
    generalize (w.alloc (.cells #[mkC a, mkC b, mkC c, mkC d] 70)).alloc (.cells #[.int .i64 0, .int .i64 0, .slice none 0 0] 32) = w1 at *
    obtain ⟨gs, hgs⟩ : ∃ gs, w.heap.size = gs := ⟨_, rfl⟩
    obtain ⟨gt, hgt⟩ : ∃ gt, gs + 1 = gt := ⟨_, rfl⟩
    have HLE := hid (show w.heap.size ≤ gt by omega)
    rw [hgs] at HS HT ⊢
    rw [hgt] at HT ⊢
    clear hgs hgt
    have hsc := block_cells HS.out
    have s0 := hsc.1 0 _ rfl
    have s1 := hsc.1 1 _ rfl
    have s2 := hsc.1 2 _ rfl
    have s3 := hsc.1 3 _ rfl
    have hsc := block_cells HT.out
    have t0 := hsc.1 0 _ rfl
    have t1 := hsc.1 1 _ rfl
    have t2 := hsc.1 2 _ rfl
    have f0 := hsc.2 0
    have f1 := hsc.2 1
    have f2 := hsc.2 2
    clear hsc
    go_wp2
    (try simp only [Exit.inBlock, Exit.then])
    (try rw [Exit.noGoto_ret])
    refine bodyPost_ret (v := .tuple #[.agg #[.int .i64 0, .int .i64 0, .slice none 0 0], .int .i64 k]) ?_ rfl (RetM2.bad HW.out (below_m3 HB.out HLE.out))
    rw [results_cell_tmp rfl]
    go_simp
  subst hk
  cases hfn : fin4 a b c d
  · have HW := hid (show toldS 0 a b c d = ((0, []), 6) by unfold toldS; rw [if_neg (by simp), if_neg (by rw [hfn]; simp)])
    have HFN := hid hfn
    clear hfn
    go_enter Tryz.func44, Tryz.ntmps44
    go_upto_region 1 with fail
    generalize (w.alloc (.cells #[mkC a, mkC b, mkC c, mkC d] 70)).alloc (.cells #[.int .i64 0, .int .i64 0, .slice none 0 0] 32) = w1 at *
    obtain ⟨gs, hgs⟩ : ∃ gs, w.heap.size = gs := ⟨_, rfl⟩
    obtain ⟨gt, hgt⟩ : ∃ gt, gs + 1 = gt := ⟨_, rfl⟩
    have HLE := hid (show w.heap.size ≤ gt by omega)
    rw [hgs] at HS HT ⊢
    rw [hgt] at HT ⊢
    clear hgs hgt
    have hsc := block_cells HS.out
    have s0 := hsc.1 0 _ rfl
    have s1 := hsc.1 1 _ rfl
    have s2 := hsc.1 2 _ rfl
    have s3 := hsc.1 3 _ rfl
    have hsc := block_cells HT.out
    have t0 := hsc.1 0 _ rfl
    have t1 := hsc.1 1 _ rfl
    have t2 := hsc.1 2 _ rfl
    have f0 := hsc.2 0
    have f1 := hsc.2 1
    have f2 := hsc.2 2
    clear hsc
    go_wp2_with (go_at_call 78; refine (f4fin_any a b c d _).mono ?_; rintro e w3 ⟨rfl, hb⟩; rw [HFN.out]; have HB2 := hid (below_next HB.out hb); have HS2 := hid (heap_later2 hb HS.out); have HT2 := hid (heap_later2 hb HT.out); clear hb; clear s0 s1 s2 s3 t0 t1 t2 f0 f1 f2; have hsc := block_cells HS2.out; have s0 := hsc.1 0 _ rfl; have s1 := hsc.1 1 _ rfl; have s2 := hsc.1 2 _ rfl; have s3 := hsc.1 3 _ rfl; have hsc := block_cells HT2.out; have t0 := hsc.1 0 _ rfl; have t1 := hsc.1 1 _ rfl; have t2 := hsc.1 2 _ rfl; have f0 := hsc.2 0; have f1 := hsc.2 1; have f2 := hsc.2 2; clear hsc)
    (try simp only [Exit.inBlock, Exit.then])
    (try rw [Exit.noGoto_ret])
    refine bodyPost_ret (v := .tuple #[.agg #[.int .i64 0, .int .i64 0, .slice none 0 0], .int .i64 6]) ?_ rfl (RetM2.bad HW.out (below_m3 HB2.out HLE.out))
    rw [results_cell_tmp rfl]
    go_simp
  · have HW := hid (show toldS 0 a b c d = ((2, [ck a, ck b, ck c, ck d]), 0) by unfold toldS; rw [if_neg (by simp), if_pos hfn])
    have HFN := hid hfn
    clear hfn
    go_enter Tryz.func44, Tryz.ntmps44
    go_upto_region 1 with fail
    generalize (w.alloc (.cells #[mkC a, mkC b, mkC c, mkC d] 70)).alloc (.cells #[.int .i64 0, .int .i64 0, .slice none 0 0] 32) = w1 at *
    obtain ⟨gs, hgs⟩ : ∃ gs, w.heap.size = gs := ⟨_, rfl⟩
    obtain ⟨gt, hgt⟩ : ∃ gt, gs + 1 = gt := ⟨_, rfl⟩
    have HLE := hid (show w.heap.size ≤ gt by omega)
    rw [hgs] at HS HT ⊢
    rw [hgt] at HT ⊢
    clear hgs hgt
    have hsc := block_cells HS.out
    have s0 := hsc.1 0 _ rfl
    have s1 := hsc.1 1 _ rfl
    have s2 := hsc.1 2 _ rfl
    have s3 := hsc.1 3 _ rfl
    have hsc := block_cells HT.out
    have t0 := hsc.1 0 _ rfl
    have t1 := hsc.1 1 _ rfl
    have t2 := hsc.1 2 _ rfl
    have f0 := hsc.2 0
    have f1 := hsc.2 1
    have f2 := hsc.2 2
    clear hsc
    go_upto_region 5 with (go_at_call 78; refine (f4fin_any a b c d _).mono ?_; rintro e w3 ⟨rfl, hb⟩; rw [HFN.out]; have HB2 := hid (below_next HB.out hb); have HS2 := hid (heap_later2 hb HS.out); have HT2 := hid (heap_later2 hb HT.out); clear hb; clear s0 s1 s2 s3 t0 t1 t2 f0 f1 f2; have hsc := block_cells HS2.out; have s0 := hsc.1 0 _ rfl; have s1 := hsc.1 1 _ rfl; have s2 := hsc.1 2 _ rfl; have s3 := hsc.1 3 _ rfl; have hsc := block_cells HT2.out; have t0 := hsc.1 0 _ rfl; have t1 := hsc.1 1 _ rfl; have t2 := hsc.1 2 _ rfl; have f0 := hsc.2 0; have f1 := hsc.2 1; have f2 := hsc.2 2; clear hsc)
    go_wp2_with (go_at_call 76; refine (f4list_any a b c d _).mono ?_; rintro e w4 ⟨q, rfl, hq, hqr, hb⟩; have HB3 := hid (below_next HB2.out hb); have HT3 := hid (heap_later2 hb HT2.out); have HQN := hid (show w.heap.size ≤ q from Nat.le_trans HB2.out.size hq); have HQ := hid hqr; have HNE := hid (show q ≠ gt from fun e => by have := (Array.getElem?_eq_some_iff.1 HT2.out).1; omega); clear hb hq hqr s0 s1 s2 s3 t0 t1 t2 f0 f1 f2; have hsc := block_cells HT3.out; have t0 := hsc.1 0 _ rfl; have t1 := hsc.1 1 _ rfl; have t2 := hsc.1 2 _ rfl; have f0 := hsc.2 0; have f1 := hsc.2 1; have f2 := hsc.2 2; clear hsc)
    (try simp only [Exit.inBlock, Exit.then])
    (try rw [Exit.noGoto_ret])
    refine bodyPost_ret (v := .tuple #[.agg #[.int .i64 2, .int .i64 2, .slice (some ⟨q, 0, none⟩) 4 4], .int .i64 0]) ?_ rfl ⟨.slice (some ⟨q, 0, none⟩) 4 4, [a, b, c, d], by rw [HW.out]; rfl, by rw [HW.out]; rfl, cells4_own HQN.out (heap_nextG (grown_m3 _ gt _ _ _) HNE.out HQ.out), below_m3 HB3.out HLE.out⟩
    rw [results_cell_tmp rfl]
    go_simp
/-- What S tells of any four numbers. -/
def sQ (a b c d : Cx) (ref : Nat) : (Nat × List Cx) × Int := if fin4 a b c d = true then sS (ck a) (ck b) (ck c) (ck d) ref else ((0, []), 5)
theorem ck_ck2 (z : Cx) : ck (ck z) = ck z := Prod.ext (fc_fc _) (fc_fc _)
theorem Ret.b {S : Value → Prop} {w w' : World} {e : Ending} (h : Ret S w e w') : RetB S w e w' := by
  obtain ⟨v, n, he, rfl, hs⟩ := h
  exact ⟨v, he, below_n (Below.refl _ _) n, hs⟩
theorem tak4 (a b c d : Cx) : takS 2 2 [a, b, c, d] = if fin4 a b c d = true then 0 else 5 := by
  unfold takS fin4
  rw [if_neg (by simp)]
  simp [Bool.and_assoc]
set_option maxRecDepth 100000 in
set_option maxHeartbeats 4000000 in
theorem s4_any (g o cp : Nat) (a b c d : Cx) (ref : Nat) (w : World) (hv : IsSl w 1 (.slice (some ⟨g, o, none⟩) 4 cp) 4 [mkC a, mkC b, mkC c, mkC d]) :
    Calls Tryz.prog 9 #[.agg #[.int .i64 2, .int .i64 2, .slice (some ⟨g, o, none⟩) 4 cp], .float .f64 ref] w (RetM2 (sQ a b c d ref) w) := by
  obtain ⟨t1, t2, t3⟩ := two_blks w #[.int .i64 2, .int .i64 2, .slice (some ⟨g, o, none⟩) 4 cp] #[.int .i64 0, .int .i64 0, .slice none 0 0] 32 32
  have HS := hid t1
  have HT := hid t2
  have HB := hid t3
  have HV := hid (hv.below t3 (Nat.le_refl _))
  clear t1 t2 t3 hv
  go_enter Tryz.func9, Tryz.ntmps9
  go_upto_region 1 with fail
  generalize (w.alloc (.cells #[.int .i64 2, .int .i64 2, .slice (some ⟨g, o, none⟩) 4 cp] 32)).alloc (.cells #[.int .i64 0, .int .i64 0, .slice none 0 0] 32) = w1 at *
  obtain ⟨gs, hgs⟩ : ∃ gs, w.heap.size = gs := ⟨_, rfl⟩
  obtain ⟨gt, hgt⟩ : ∃ gt, gs + 1 = gt := ⟨_, rfl⟩
  have HLE := hid (show w.heap.size ≤ gt by omega)
  rw [hgs] at HS HT ⊢
  rw [hgt] at HT ⊢
  clear hgs hgt
  have hsc := block_cells HS.out
  have s0 := hsc.1 0 _ rfl
  have s1 := hsc.1 1 _ rfl
  have s2 := hsc.1 2 _ rfl
  clear hsc
  cases hfn : fin4 a b c d
  · have HK := hid (show takS 2 2 [a, b, c, d] = 5 by rw [tak4, hfn]; rfl)
    have HW := hid (show sQ a b c d ref = ((0, []), 5) by unfold sQ; rw [if_neg (by rw [hfn]; simp)])
    clear hfn
    go_upto_region 2 with (go_at_call 39; refine (taken_any 2 2 _ [a, b, c, d] _ HV.out).mono ?_; rintro e w2 ⟨x, y, z, u, rfl, hb, hx⟩; have HT1 := hid (heap_later2 hb HT.out); have HB1 := hid (below_next HB.out hb); rw [HK.out]; clear hx; clear hb )
    clear s0 s1 s2 HT HB
    have HT2 := hid (heap_later2 ((Below.refl w2.heap.size w2).alloc (Nat.le_refl _) (.cells #[mkC x, mkC y, mkC z, mkC u] 70)) HT1.out)
    have HB2 := hid (below_next HB1.out ((Below.refl w2.heap.size w2).alloc (Nat.le_refl _) (.cells #[mkC x, mkC y, mkC z, mkC u] 70)))
    have HF := hid (heap_alloc_new w2 (.cells #[mkC x, mkC y, mkC z, mkC u] 70))
    clear HT1 HB1
    generalize w2.alloc (.cells #[mkC x, mkC y, mkC z, mkC u] 70) = w3 at *
    obtain ⟨gf, hgf⟩ : ∃ gf, w2.heap.size = gf := ⟨_, rfl⟩
    rw [hgf] at HF ⊢
    clear hgf
    have hsc := block_cells HT2.out
    have t0 := hsc.1 0 _ rfl
    have t1 := hsc.1 1 _ rfl
    have t2 := hsc.1 2 _ rfl
    have f0 := hsc.2 0
    have f1 := hsc.2 1
    have f2 := hsc.2 2
    clear hsc
    go_wp2
    (try simp only [Exit.inBlock, Exit.then])
    (try rw [Exit.noGoto_ret])
    refine bodyPost_ret (v := .tuple #[.agg #[.int .i64 0, .int .i64 0, .slice none 0 0], .int .i64 5]) ?_ rfl (RetM2.bad HW.out (below_m3 HB2.out HLE.out))
    rw [results_cell_tmp rfl]
    go_simp
  have HK := hid (show takS 2 2 [a, b, c, d] = 0 by rw [tak4, hfn]; rfl)
  have HSQ := hid (show sQ a b c d ref = sS (ck a) (ck b) (ck c) (ck d) ref by unfold sQ; rw [if_pos hfn])
  clear hfn
  go_upto_region 2 with (go_at_call 39; refine (taken_any 2 2 _ [a, b, c, d] _ HV.out).mono ?_; rintro e w2 ⟨x, y, z, u, rfl, hb, hx⟩; have HT1 := hid (heap_later2 hb HT.out); have HB1 := hid (below_next HB.out hb); rw [HK.out] at hx ⊢; obtain ⟨rfl, rfl, rfl, rfl⟩ : a = x ∧ b = y ∧ c = z ∧ d = u := (by simpa using hx rfl); clear hx; clear hb )
  clear s0 s1 s2 HT HB
  have HT2 := hid (heap_later2 ((Below.refl w2.heap.size w2).alloc (Nat.le_refl _) (.cells #[mkC a, mkC b, mkC c, mkC d] 70)) HT1.out)
  have HB2 := hid (below_next HB1.out ((Below.refl w2.heap.size w2).alloc (Nat.le_refl _) (.cells #[mkC a, mkC b, mkC c, mkC d] 70)))
  have HF := hid (heap_alloc_new w2 (.cells #[mkC a, mkC b, mkC c, mkC d] 70))
  clear HT1 HB1
  generalize w2.alloc (.cells #[mkC a, mkC b, mkC c, mkC d] 70) = w3 at *
  obtain ⟨gf, hgf⟩ : ∃ gf, w2.heap.size = gf := ⟨_, rfl⟩
  rw [hgf] at HF ⊢
  clear hgf
  cases hf : ffin (fc ref)
  · have HFR := hid hf
    have HGT := hid True.intro
    have HW := hid (show sQ a b c d ref = ((0, []), 5) by rw [HSQ.out]; unfold sS; rw [ang_5 hf]; rfl)
    clear hf
    have hsc := block_cells HT2.out
    have t0 := hsc.1 0 _ rfl
    have t1 := hsc.1 1 _ rfl
    have t2 := hsc.1 2 _ rfl
    have f0 := hsc.2 0
    have f1 := hsc.2 1
    have f2 := hsc.2 2
    clear hsc
    go_wp2_with (refine wpList_float rfl _ _ _ _ _ rfl rfl _ _ rfl rfl ?_; intro r n hr; have hq := neq_fin hr HFR.out; simp only [Bool.not_false] at hq; clear hr)
    (try simp only [Exit.inBlock, Exit.then])
    (try rw [Exit.noGoto_ret])
    refine bodyPost_ret (v := .tuple #[.agg #[.int .i64 0, .int .i64 0, .slice none 0 0], .int .i64 5]) ?_ rfl (RetM2.bad HW.out (below_m3 (below_n HB2.out _) HLE.out))
    rw [results_cell_tmp rfl]
    go_simp
  cases hg : (FloatKind.f64.format.order ref 0 == some .gt)
  · have HFR := hid hf
    have HGT := hid hg
    have HW := hid (show sQ a b c d ref = ((0, []), 2) by rw [HSQ.out]; unfold sS; rw [ang_2 hf hg]; rfl)
    clear hf hg
    have hsc := block_cells HT2.out
    have t0 := hsc.1 0 _ rfl
    have t1 := hsc.1 1 _ rfl
    have t2 := hsc.1 2 _ rfl
    have f0 := hsc.2 0
    have f1 := hsc.2 1
    have f2 := hsc.2 2
    clear hsc
    go_wp2_with (refine wpList_float rfl _ _ _ _ _ rfl rfl _ _ rfl rfl ?_; intro r n hr; have hq := neq_fin hr HFR.out; have hgg := HGT.out; simp only [Bool.not_true] at hq; clear hr)
    (try simp only [Exit.inBlock, Exit.then])
    (try rw [Exit.noGoto_ret])
    refine bodyPost_ret (v := .tuple #[.agg #[.int .i64 0, .int .i64 0, .slice none 0 0], .int .i64 2]) ?_ rfl (RetM2.bad HW.out (below_m3 (below_n HB2.out _) HLE.out))
    rw [results_cell_tmp rfl]
    go_simp
  have HFR := hid hf
  have HGT := hid hg
  have HW := hid (show sQ a b c d ref = toldS (sE (ck a) (ck b) (ck c) (ck d) (fc ref)) (o1 (ck a) (ck b) (ck c) (ck d) (fc ref)) (o2 (ck a) (ck b) (ck c) (ck d) (fc ref) (ck b)) (o2 (ck a) (ck b) (ck c) (ck d) (fc ref) (ck c)) (o4 (ck a) (ck b) (ck c) (ck d) (fc ref)) by rw [HSQ.out]; unfold sS; rw [ang_0 hf hg]; rfl)
  clear hf hg
  go_upto_region 9 with (refine wpList_float rfl _ _ _ _ _ rfl rfl _ _ rfl rfl ?_; intro r n hr; have hq := neq_fin hr HFR.out; have hgg := HGT.out; simp only [Bool.not_true] at hq; clear hr)
  have hb := below_n (Below.refl w3.heap.size w3) n
  have HT3 := hid (heap_later2 hb HT2.out)
  have HF3 := hid (heap_later2 hb HF.out)
  have HB3 := hid (below_next HB2.out hb)
  clear hb HT2 HF HB2
  generalize w3.drewN n = w4 at *
  refine wp_region_any (by kernel_rfl) ?_
  change wpAny _ _ _ _ _ _ _ (World.drew _)
  refine wpAny_makersD [⟨some 37, 0, []⟩, ⟨some 38, 1, []⟩, ⟨some 39, 2, []⟩, ⟨some 40, 3, []⟩, ⟨some 41, 4, []⟩, ⟨some 42, 5, []⟩, ⟨some 43, 6, []⟩, ⟨some 44, 7, []⟩, ⟨some 45, 8, []⟩, ⟨some 46, 9, []⟩]
    (fun w' => w'.heap[gt]? = some (.cells #[.int .i64 0, .int .i64 0, .slice none 0 0] 32 (0, 0)) ∧ w'.heap[gf]? = some (.cells #[mkC a, mkC b, mkC c, mkC d] 70 (0, 0)))
    (fun oq v _ _ _ _ => match oq with | 0 => v = .pointer (some ⟨gf, 0, none⟩) | 1 => v = .pointer (some ⟨gf, 0, none⟩) | 2 => v = mkC a | 3 => v = .complex .f64 ref 0 | 4 => ∃ r i, v = .complex .f64 r i ∧ (fc r, fc i) = sP (ck a) (fc ref) | 5 => v = .pointer (some ⟨gf, 2, none⟩) | 6 => v = .pointer (some ⟨gf, 3, none⟩) | 7 => v = mkC d | 8 => v = .complex .f64 ref 0 | 9 => ∃ r i, v = .complex .f64 r i ∧ (fc r, fc i) = sP (ck d) (fc ref) | _ => True) (by kernel_rfl) ?hSp (fun _ _ hb h => ⟨heap_next hb h.1, heap_next hb h.2⟩) (fun _ _ _ _ _ _ _ _ _ h => h) ?hopp ?hendp
  case hSp => exact ⟨heap_next (Below.refl _ _).drew HT3.out, heap_next (Below.refl _ _).drew HF3.out⟩
  case hopp =>
    delta Owed
    simp only [fillD, Act.put, List.setIfInBounds_toArray, List.set_cons_zero, List.set_cons_succ]
    refine Each.cons rfl ?_ (Each.cons rfl ?_ (Each.cons rfl ?_ (Each.cons rfl ?_ (Each.cons rfl ?_ (Each.cons rfl ?_ (Each.cons rfl ?_ (Each.cons rfl ?_ (Each.cons rfl ?_ (Each.cons rfl ?_ Each.nil)))))))))
    · intro vs w2 hb2 hS2 hR2 K hK
      simp only [List.set_cons_zero, List.set_cons_succ] at hK ⊢
      obtain ⟨k0, k1, k2, k3⟩ : w2.cell? ⟨gf, 0, none⟩ = some (mkC a) ∧ w2.cell? ⟨gf, 1, none⟩ = some (mkC b) ∧ w2.cell? ⟨gf, 2, none⟩ = some (mkC c) ∧ w2.cell? ⟨gf, 3, none⟩ = some (mkC d) := ⟨(cells_ofS hS2.2).1 0 _ rfl, (cells_ofS hS2.2).1 1 _ rfl, (cells_ofS hS2.2).1 2 _ rfl, (cells_ofS hS2.2).1 3 _ rfl⟩
      go_simp
      exact hK.out _ _ (Below.refl _ _) rfl
    · intro vs w2 hb2 hS2 hR2 K hK
      have h0 : vs 0 = .pointer (some ⟨gf, 0, none⟩) := by obtain ⟨_, _, _, h⟩ := hR2 0 (by kernel_rfl); exact h
      simp only [List.set_cons_zero, List.set_cons_succ] at hK ⊢
      obtain ⟨k0, k1, k2, k3⟩ : w2.cell? ⟨gf, 0, none⟩ = some (mkC a) ∧ w2.cell? ⟨gf, 1, none⟩ = some (mkC b) ∧ w2.cell? ⟨gf, 2, none⟩ = some (mkC c) ∧ w2.cell? ⟨gf, 3, none⟩ = some (mkC d) := ⟨(cells_ofS hS2.2).1 0 _ rfl, (cells_ofS hS2.2).1 1 _ rfl, (cells_ofS hS2.2).1 2 _ rfl, (cells_ofS hS2.2).1 3 _ rfl⟩
      simp only [h0] at hK ⊢
      go_simp
      exact hK.out _ _ (Below.refl _ _) rfl
    · intro vs w2 hb2 hS2 hR2 K hK
      have h1 : vs 1 = .pointer (some ⟨gf, 0, none⟩) := by obtain ⟨_, _, _, h⟩ := hR2 1 (by kernel_rfl); exact h
      simp only [List.set_cons_zero, List.set_cons_succ] at hK ⊢
      obtain ⟨k0, k1, k2, k3⟩ : w2.cell? ⟨gf, 0, none⟩ = some (mkC a) ∧ w2.cell? ⟨gf, 1, none⟩ = some (mkC b) ∧ w2.cell? ⟨gf, 2, none⟩ = some (mkC c) ∧ w2.cell? ⟨gf, 3, none⟩ = some (mkC d) := ⟨(cells_ofS hS2.2).1 0 _ rfl, (cells_ofS hS2.2).1 1 _ rfl, (cells_ofS hS2.2).1 2 _ rfl, (cells_ofS hS2.2).1 3 _ rfl⟩
      simp only [h1] at hK ⊢
      go_simp
      exact hK.out _ _ (Below.refl _ _) rfl
    · intro vs w2 hb2 hS2 hR2 K hK
      simp only [List.set_cons_zero, List.set_cons_succ] at hK ⊢
      go_simp
      exact hK.out _ _ (Below.refl _ _) rfl
    · intro vs w2 hb2 hS2 hR2 K hK
      have h2 : vs 2 = mkC a := by obtain ⟨_, _, _, h⟩ := hR2 2 (by kernel_rfl); exact h
      have h3 : vs 3 = .complex .f64 ref 0 := by obtain ⟨_, _, _, h⟩ := hR2 3 (by kernel_rfl); exact h
      simp only [List.set_cons_zero, List.set_cons_succ] at hK ⊢
      simp only [h2, h3] at hK ⊢
      rw [if_pos (by rfl)]
      go_wp2_with (go_at_call 40; refine (padd_any _ _ _ _ _).mono ?_; rintro e w5 ⟨_, n, rfl, rfl, r, i, rfl, hz⟩)
      exact hK.out _ _ (below_n (Below.refl _ _) n) ⟨r, i, rfl, hz.trans (by rw [fc_zero]; try rfl)⟩
    · intro vs w2 hb2 hS2 hR2 K hK
      simp only [List.set_cons_zero, List.set_cons_succ] at hK ⊢
      obtain ⟨k0, k1, k2, k3⟩ : w2.cell? ⟨gf, 0, none⟩ = some (mkC a) ∧ w2.cell? ⟨gf, 1, none⟩ = some (mkC b) ∧ w2.cell? ⟨gf, 2, none⟩ = some (mkC c) ∧ w2.cell? ⟨gf, 3, none⟩ = some (mkC d) := ⟨(cells_ofS hS2.2).1 0 _ rfl, (cells_ofS hS2.2).1 1 _ rfl, (cells_ofS hS2.2).1 2 _ rfl, (cells_ofS hS2.2).1 3 _ rfl⟩
      go_simp
      exact hK.out _ _ (Below.refl _ _) rfl
    · intro vs w2 hb2 hS2 hR2 K hK
      have h5 : vs 5 = .pointer (some ⟨gf, 2, none⟩) := by obtain ⟨_, _, _, h⟩ := hR2 5 (by kernel_rfl); exact h
      simp only [List.set_cons_zero, List.set_cons_succ] at hK ⊢
      obtain ⟨k0, k1, k2, k3⟩ : w2.cell? ⟨gf, 0, none⟩ = some (mkC a) ∧ w2.cell? ⟨gf, 1, none⟩ = some (mkC b) ∧ w2.cell? ⟨gf, 2, none⟩ = some (mkC c) ∧ w2.cell? ⟨gf, 3, none⟩ = some (mkC d) := ⟨(cells_ofS hS2.2).1 0 _ rfl, (cells_ofS hS2.2).1 1 _ rfl, (cells_ofS hS2.2).1 2 _ rfl, (cells_ofS hS2.2).1 3 _ rfl⟩
      simp only [h5] at hK ⊢
      go_simp
      exact hK.out _ _ (Below.refl _ _) rfl
    · intro vs w2 hb2 hS2 hR2 K hK
      have h6 : vs 6 = .pointer (some ⟨gf, 3, none⟩) := by obtain ⟨_, _, _, h⟩ := hR2 6 (by kernel_rfl); exact h
      simp only [List.set_cons_zero, List.set_cons_succ] at hK ⊢
      obtain ⟨k0, k1, k2, k3⟩ : w2.cell? ⟨gf, 0, none⟩ = some (mkC a) ∧ w2.cell? ⟨gf, 1, none⟩ = some (mkC b) ∧ w2.cell? ⟨gf, 2, none⟩ = some (mkC c) ∧ w2.cell? ⟨gf, 3, none⟩ = some (mkC d) := ⟨(cells_ofS hS2.2).1 0 _ rfl, (cells_ofS hS2.2).1 1 _ rfl, (cells_ofS hS2.2).1 2 _ rfl, (cells_ofS hS2.2).1 3 _ rfl⟩
      simp only [h6] at hK ⊢
      go_simp
      exact hK.out _ _ (Below.refl _ _) rfl
    · intro vs w2 hb2 hS2 hR2 K hK
      simp only [List.set_cons_zero, List.set_cons_succ] at hK ⊢
      go_simp
      exact hK.out _ _ (Below.refl _ _) rfl
    · intro vs w2 hb2 hS2 hR2 K hK
      have h7 : vs 7 = mkC d := by obtain ⟨_, _, _, h⟩ := hR2 7 (by kernel_rfl); exact h
      have h8 : vs 8 = .complex .f64 ref 0 := by obtain ⟨_, _, _, h⟩ := hR2 8 (by kernel_rfl); exact h
      simp only [List.set_cons_zero, List.set_cons_succ] at hK ⊢
      simp only [h7, h8] at hK ⊢
      rw [if_pos (by rfl)]
      go_wp2_with (go_at_call 40; refine (padd_any _ _ _ _ _).mono ?_; rintro e w5 ⟨_, n, rfl, rfl, r, i, rfl, hz⟩)
      exact hK.out _ _ (below_n (Below.refl _ _) n) ⟨r, i, rfl, hz.trans (by rw [fc_zero]; try rfl)⟩
  case hendp =>
    intro vs wx lo hiv hbx hSx hRx hdx
    have h0 : vs 0 = .pointer (some ⟨gf, 0, none⟩) := (hRx 0 (by kernel_rfl)).1
    have h1 : vs 1 = .pointer (some ⟨gf, 0, none⟩) := (hRx 1 (by kernel_rfl)).1
    have h2 : vs 2 = mkC a := (hRx 2 (by kernel_rfl)).1
    have h3 : vs 3 = .complex .f64 ref 0 := (hRx 3 (by kernel_rfl)).1
    have H4 := (hRx 4 (by kernel_rfl)).1
    obtain ⟨r4, i4, h4, q4⟩ := H4
    have h5 : vs 5 = .pointer (some ⟨gf, 2, none⟩) := (hRx 5 (by kernel_rfl)).1
    have h6 : vs 6 = .pointer (some ⟨gf, 3, none⟩) := (hRx 6 (by kernel_rfl)).1
    have h7 : vs 7 = mkC d := (hRx 7 (by kernel_rfl)).1
    have h8 : vs 8 = .complex .f64 ref 0 := (hRx 8 (by kernel_rfl)).1
    have H9 := (hRx 9 (by kernel_rfl)).1
    obtain ⟨r9, i9, h9, q9⟩ := H9
    simp only [fillD, Act.put, List.setIfInBounds_toArray, List.set_cons_zero, List.set_cons_succ, h0, h1, h2, h3, h4, h5, h6, h7, h8, h9]
    have hb := below_drew_left hbx
    have HT4 := hid (heap_later2 hb HT3.out)
    have HF4 := hid (heap_later2 hb HF3.out)
    have HB4 := hid (below_next HB3.out hb)
    have HP := hid q4
    have HQ := hid q9
    clear hbx hSx hRx hdx hb q4 q9 h0 h1 h2 h3 h4 h5 h6 h7 h8 h9 HT3 HF3 HB3
    refine wpAny_one (i := 10) (by kernel_rfl) rfl (fun K hK => ?_)
    go_simp
    refine hK.out _ _ ?_
    clear hK
    refine wpAny_one (i := 11) (by kernel_rfl) rfl (fun K hK => ?_)
    go_simp
    refine hK.out _ _ ?_
    clear hK
    refine wpAny_done (by kernel_rfl) ?_ _
    generalize wx = w5 at *
    have hsc := block_cells HF4.out
    have c0 := hsc.1 0 _ rfl
    have c1 := hsc.1 1 _ rfl
    have c2 := hsc.1 2 _ rfl
    have c3 := hsc.1 3 _ rfl
    clear hsc
    go_upto_region 11 with (go_at_call 41; refine (((pmul_any _ _ _ _ _).mono fun _ _ h => Ret.b h)).mono ?_; rintro e w6 ⟨_, rfl, hb, m1, m2, rfl, hz⟩; have HT5 := hid (heap_later2 hb HT4.out); have HF5 := hid (heap_later2 hb HF4.out); have HB5 := hid (below_next HB4.out hb); have HH := hid hz; clear hz; clear hb )
    clear HT4 HF4 HB4
    clear c0 c1 c2 c3
    go_upto_region 12 with (first | (go_at_call 41; refine (((pmul_any r4 i4 r9 i9 _).mono fun _ _ h => Ret.b h)).mono ?_; rintro e w7 ⟨_, rfl, hb, n1, n2, rfl, hz⟩; have HT6 := hid (heap_later2 hb HT5.out); have HF6 := hid (heap_later2 hb HF5.out); have HB6 := hid (below_next HB5.out hb); rw [HP.out, HQ.out] at hz; have HN := hid hz; clear hz; clear hb ) | (go_at_call 43; refine (((psub_any _ _ _ _ _).mono fun _ _ h => Ret.b h)).mono ?_; rintro e w8 ⟨_, rfl, hb, d1, d2, rfl, hz⟩; have HT7 := hid (heap_later2 hb HT6.out); have HF7 := hid (heap_later2 hb HF6.out); have HB7 := hid (below_next HB6.out hb); rw [HN.out, HH.out] at hz; have HD := hid (show (fc d1, fc d2) = sD (ck a) (ck b) (ck c) (ck d) (fc ref) from hz); clear hz; clear hb ) | (go_at_call 42; refine (over_any4 (d1, d2) _).mono ?_; rintro e w9 ⟨gd, rfl, hgd, hdr, hb⟩; have HT8 := hid (heap_later2 hb HT7.out); have HF8 := hid (heap_later2 hb HF7.out); have HB8 := hid (below_next HB7.out hb); have HG := hid hdr; clear hdr hgd; clear hb ))
    clear HT5 HF5 HB5 HT6 HF6 HB6 HT7 HF7 HB7
    go_upto_region 13 with (refine wpList_float rfl _ _ _ _ _ rfl rfl _ _ rfl rfl ?_; intro t n2 ht; have HTW := hid (show fc t = tw (fc ref) from ht.trans (by rw [show fc 4611686018427387904 = 4611686018427387904 from fc_of_not (by decide +kernel)]; rfl)); clear ht; have hb := below_n (Below.refl w9.heap.size w9) n2; have HT9 := hid (heap_later2 hb HT8.out); have HF9 := hid (heap_later2 hb HF8.out); have HG9 := hid (heap_later2 hb HG.out); have HB9 := hid (below_next HB8.out hb); clear hb)
    clear HT8 HF8 HG HB8
    generalize w9.drewN n2 = w10 at *
    obtain ⟨zb, hzb⟩ : ∃ z, czero (sD (ck a) (ck b) (ck c) (ck d) (fc ref)) = z := ⟨_, rfl⟩
    obtain ⟨wb, hwb⟩ : ∃ z, ffin (tw (fc ref)) = z := ⟨_, rfl⟩
    obtain ⟨oe, hoe⟩ : ∃ k, ovrE (d1, d2) = k := ⟨_, rfl⟩
    obtain ⟨bb, hbb⟩ : ∃ b, (!zb && !wb) = b := ⟨_, rfl⟩
    obtain ⟨ee, hee⟩ : ∃ k, (if bb = true then 6 else oe) = k := ⟨_, rfl⟩
    have ho2 : oe = if zb = true then 7 else 0 := by rw [← hoe, ← hzb]; unfold ovrE; rw [show ck (d1, d2) = (fc d1, fc d2) from rfl, HD.out]
    have HE := hid (show sE (ck a) (ck b) (ck c) (ck d) (fc ref) = ee by
      unfold sE
      rw [hzb, hwb, ← hee, ← hbb, ho2]
      cases zb <;> cases wb <;> rfl)
    have HOE := hid ho2
    have HBB := hid hbb
    have HEE := hid hee
    have HFW := hid (show ffin (fc t) = wb by rw [HTW.out]; exact hwb)
    rw [hoe]
    clear hoe ho2 hbb hee hzb hwb
    go_cut [72] (fun t wx => t = .bool bb ∧ Below w10.heap.size w10 wx)
    case first =>
      cases zb
      · have q1 : (oe == 0) = true := by rw [HOE.out]; rfl
        cases wb
        all_goals
          have hbb := HBB.out
          subst hbb
          go_wp2_with (refine wpList_float rfl _ _ _ _ _ rfl rfl _ _ rfl rfl ?_; intro r5 n5 hr5; have hq5 := neq_fin hr5 HFW.out; simp only [Bool.not_false, Bool.not_true] at hq5; clear hr5)
          go_meet
          exact ⟨rfl, below_n (Below.refl _ _) _⟩
      · have q1 : (oe == 0) = false := by rw [HOE.out]; rfl
        have hbb := HBB.out
        subst hbb
        go_wp2_with fail
        go_meet
        exact ⟨rfl, Below.refl _ _⟩
    case rest =>
      obtain ⟨rfl, hb⟩ := hcut
      obtain ⟨w11, rfl⟩ : ∃ w11 : World, w11 = wc := ⟨_, rfl⟩
      have HT10 := hid (heap_later2 hb HT9.out)
      have HF10 := hid (heap_later2 hb HF9.out)
      have HG10 := hid (heap_later2 hb HG9.out)
      have HB10 := hid (below_next HB9.out hb)
      clear hb HBB HOE HFW HT9 HF9 HG9 HB9
      go_upto_if 72 with fail
      go_cut [7] (fun t wx => t = .int .i64 ee ∧ wx = w11)
      case first =>
        cases bb
        all_goals
          have hee := HEE.out
          go_wp2_with fail
          go_meet
          exact ⟨by rw [← hee]; rfl, rfl⟩
      case rest =>
        obtain ⟨rfl, rfl⟩ := hcut
        obtain ⟨wd, rfl⟩ : ∃ wd : World, wd = wc := ⟨_, rfl⟩
        go_upto_region 15 with fail
        refine wp_region_any (by kernel_rfl) ?_
        change wpAny _ _ _ _ _ _ _ (World.drew _)
        refine wpAny_makersD [⟨some 73, 0, []⟩, ⟨some 74, 1, []⟩, ⟨some 75, 2, []⟩, ⟨some 76, 3, []⟩, ⟨some 77, 4, []⟩, ⟨some 78, 5, []⟩, ⟨some 79, 6, []⟩, ⟨some 80, 7, []⟩, ⟨some 81, 8, []⟩, ⟨some 82, 9, []⟩, ⟨some 83, 10, []⟩, ⟨some 84, 11, []⟩, ⟨some 85, 12, []⟩, ⟨some 86, 13, []⟩, ⟨some 87, 14, []⟩, ⟨some 88, 15, []⟩, ⟨some 89, 16, []⟩, ⟨some 90, 17, []⟩, ⟨some 91, 18, []⟩, ⟨some 92, 19, []⟩, ⟨some 93, 20, []⟩, ⟨some 94, 21, []⟩, ⟨some 95, 22, []⟩, ⟨some 96, 23, []⟩, ⟨some 97, 24, []⟩, ⟨some 98, 25, []⟩, ⟨some 99, 26, []⟩, ⟨some 100, 27, []⟩, ⟨some 101, 28, []⟩, ⟨some 102, 29, []⟩, ⟨some 103, 30, []⟩, ⟨some 104, 31, []⟩, ⟨some 105, 32, []⟩, ⟨some 106, 33, []⟩, ⟨some 107, 34, []⟩, ⟨some 108, 35, []⟩, ⟨some 109, 36, []⟩, ⟨some 110, 37, []⟩, ⟨some 111, 38, []⟩, ⟨some 112, 39, []⟩]
          (fun w' => w'.heap[gt]? = some (.cells #[.int .i64 0, .int .i64 0, .slice none 0 0] 32 (0, 0)) ∧ w'.heap[gf]? = some (.cells #[mkC a, mkC b, mkC c, mkC d] 70 (0, 0)) ∧ w'.heap[gd]? = some (.cells #[mkC (d1, d2)] 26 (0, 0)))
          (fun oq v _ _ _ _ => match oq with | 0 => v = .func (.func 80) #[] #[.pointer (some ⟨gd, 0, none⟩)] | 1 => v = .pointer (some ⟨gf, 0, none⟩) | 2 => v = .pointer (some ⟨gf, 0, none⟩) | 3 => v = mkC a | 4 => v = .complex .f64 ref 0 | 5 => ∃ r i, v = .complex .f64 r i ∧ (fc r, fc i) = sM (ck a) (fc ref) | 6 => v = .complex .f64 r9 i9 | 7 => ∃ r i, v = .complex .f64 r i ∧ (fc r, fc i) = cmul (sM (ck a) (fc ref)) (sP (ck d) (fc ref)) | 8 => v = .complex .f64 m1 m2 | 9 => ∃ r i, v = .complex .f64 r i ∧ (fc r, fc i) = csub (cmul (sM (ck a) (fc ref)) (sP (ck d) (fc ref))) (cmul (ck b) (ck c)) | 10 => ∃ r i, v = .complex .f64 r i ∧ (fc r, fc i) = o1 (ck a) (ck b) (ck c) (ck d) (fc ref) | 11 => v = .func (.func 80) #[] #[.pointer (some ⟨gd, 0, none⟩)] | 12 => v = .float .f64 t | 13 => v = .pointer (some ⟨gf, 0, none⟩) | 14 => v = .pointer (some ⟨gf, 1, none⟩) | 15 => v = mkC b | 16 => ∃ r i, v = .complex .f64 r i ∧ (fc r, fc i) = cscale (tw (fc ref)) (ck b) | 17 => ∃ r i, v = .complex .f64 r i ∧ (fc r, fc i) = o2 (ck a) (ck b) (ck c) (ck d) (fc ref) (ck b) | 18 => ∃ x y : Cx, v = .agg #[mkC x, mkC y] ∧ ck x = o1 (ck a) (ck b) (ck c) (ck d) (fc ref) ∧ ck y = o2 (ck a) (ck b) (ck c) (ck d) (fc ref) (ck b) | 19 => v = .func (.func 80) #[] #[.pointer (some ⟨gd, 0, none⟩)] | 20 => v = .float .f64 t | 21 => v = .pointer (some ⟨gf, 2, none⟩) | 22 => v = .pointer (some ⟨gf, 2, none⟩) | 23 => v = mkC c | 24 => ∃ r i, v = .complex .f64 r i ∧ (fc r, fc i) = cscale (tw (fc ref)) (ck c) | 25 => ∃ r i, v = .complex .f64 r i ∧ (fc r, fc i) = o2 (ck a) (ck b) (ck c) (ck d) (fc ref) (ck c) | 26 => v = .func (.func 80) #[] #[.pointer (some ⟨gd, 0, none⟩)] | 27 => v = .complex .f64 r4 i4 | 28 => v = .pointer (some ⟨gf, 2, none⟩) | 29 => v = .pointer (some ⟨gf, 3, none⟩) | 30 => v = mkC d | 31 => v = .complex .f64 ref 0 | 32 => ∃ r i, v = .complex .f64 r i ∧ (fc r, fc i) = sM (ck d) (fc ref) | 33 => ∃ r i, v = .complex .f64 r i ∧ (fc r, fc i) = cmul (sP (ck a) (fc ref)) (sM (ck d) (fc ref)) | 34 => v = .complex .f64 m1 m2 | 35 => ∃ r i, v = .complex .f64 r i ∧ (fc r, fc i) = csub (cmul (sP (ck a) (fc ref)) (sM (ck d) (fc ref))) (cmul (ck b) (ck c)) | 36 => ∃ r i, v = .complex .f64 r i ∧ (fc r, fc i) = o4 (ck a) (ck b) (ck c) (ck d) (fc ref) | 37 => ∃ x y : Cx, v = .agg #[mkC x, mkC y] ∧ ck x = o2 (ck a) (ck b) (ck c) (ck d) (fc ref) (ck c) ∧ ck y = o4 (ck a) (ck b) (ck c) (ck d) (fc ref) | 38 => ∃ x y z u : Cx, v = mk4 x y z u ∧ ck x = o1 (ck a) (ck b) (ck c) (ck d) (fc ref) ∧ ck y = o2 (ck a) (ck b) (ck c) (ck d) (fc ref) (ck b) ∧ ck z = o2 (ck a) (ck b) (ck c) (ck d) (fc ref) (ck c) ∧ ck u = o4 (ck a) (ck b) (ck c) (ck d) (fc ref) | 39 => v = .int .i64 ee | _ => True) (by kernel_rfl) ?hSr (fun _ _ hb h => ⟨heap_next hb h.1, heap_next hb h.2.1, heap_next hb h.2.2⟩) (fun _ _ _ _ _ _ _ _ _ h => h) ?hopr ?hendr
        case hSr => exact ⟨heap_next (Below.refl _ _).drew HT10.out, heap_next (Below.refl _ _).drew HF10.out, heap_next (Below.refl _ _).drew HG10.out⟩
        case hopr =>
          delta Owed
          simp only [fillD, Act.put, List.setIfInBounds_toArray, List.set_cons_zero, List.set_cons_succ]
          refine Each.cons rfl ?_ (Each.cons rfl ?_ (Each.cons rfl ?_ (Each.cons rfl ?_ (Each.cons rfl ?_ (Each.cons rfl ?_ (Each.cons rfl ?_ (Each.cons rfl ?_ (Each.cons rfl ?_ (Each.cons rfl ?_ (Each.cons rfl ?_ (Each.cons rfl ?_ (Each.cons rfl ?_ (Each.cons rfl ?_ (Each.cons rfl ?_ (Each.cons rfl ?_ (Each.cons rfl ?_ (Each.cons rfl ?_ (Each.cons rfl ?_ (Each.cons rfl ?_ (Each.cons rfl ?_ (Each.cons rfl ?_ (Each.cons rfl ?_ (Each.cons rfl ?_ (Each.cons rfl ?_ (Each.cons rfl ?_ (Each.cons rfl ?_ (Each.cons rfl ?_ (Each.cons rfl ?_ (Each.cons rfl ?_ (Each.cons rfl ?_ (Each.cons rfl ?_ (Each.cons rfl ?_ (Each.cons rfl ?_ (Each.cons rfl ?_ (Each.cons rfl ?_ (Each.cons rfl ?_ (Each.cons rfl ?_ (Each.cons rfl ?_ (Each.cons rfl ?_ Each.nil)))))))))))))))))))))))))))))))))))))))
          · intro vs w2 hb2 hS2 hR2 K hK
            simp only [List.set_cons_zero, List.set_cons_succ] at hK ⊢
            go_simp
            exact hK.out _ _ (Below.refl _ _) rfl
          · intro vs w2 hb2 hS2 hR2 K hK
            simp only [List.set_cons_zero, List.set_cons_succ] at hK ⊢
            obtain ⟨k0, k1, k2, k3⟩ : w2.cell? ⟨gf, 0, none⟩ = some (mkC a) ∧ w2.cell? ⟨gf, 1, none⟩ = some (mkC b) ∧ w2.cell? ⟨gf, 2, none⟩ = some (mkC c) ∧ w2.cell? ⟨gf, 3, none⟩ = some (mkC d) := ⟨(cells_ofS hS2.2.1).1 0 _ rfl, (cells_ofS hS2.2.1).1 1 _ rfl, (cells_ofS hS2.2.1).1 2 _ rfl, (cells_ofS hS2.2.1).1 3 _ rfl⟩
            go_simp
            exact hK.out _ _ (Below.refl _ _) rfl
          · intro vs w2 hb2 hS2 hR2 K hK
            have h1 : vs 1 = .pointer (some ⟨gf, 0, none⟩) := by obtain ⟨_, _, _, h⟩ := hR2 1 (by kernel_rfl); exact h
            simp only [List.set_cons_zero, List.set_cons_succ] at hK ⊢
            obtain ⟨k0, k1, k2, k3⟩ : w2.cell? ⟨gf, 0, none⟩ = some (mkC a) ∧ w2.cell? ⟨gf, 1, none⟩ = some (mkC b) ∧ w2.cell? ⟨gf, 2, none⟩ = some (mkC c) ∧ w2.cell? ⟨gf, 3, none⟩ = some (mkC d) := ⟨(cells_ofS hS2.2.1).1 0 _ rfl, (cells_ofS hS2.2.1).1 1 _ rfl, (cells_ofS hS2.2.1).1 2 _ rfl, (cells_ofS hS2.2.1).1 3 _ rfl⟩
            simp only [h1] at hK ⊢
            go_simp
            exact hK.out _ _ (Below.refl _ _) rfl
          · intro vs w2 hb2 hS2 hR2 K hK
            have h2 : vs 2 = .pointer (some ⟨gf, 0, none⟩) := by obtain ⟨_, _, _, h⟩ := hR2 2 (by kernel_rfl); exact h
            simp only [List.set_cons_zero, List.set_cons_succ] at hK ⊢
            obtain ⟨k0, k1, k2, k3⟩ : w2.cell? ⟨gf, 0, none⟩ = some (mkC a) ∧ w2.cell? ⟨gf, 1, none⟩ = some (mkC b) ∧ w2.cell? ⟨gf, 2, none⟩ = some (mkC c) ∧ w2.cell? ⟨gf, 3, none⟩ = some (mkC d) := ⟨(cells_ofS hS2.2.1).1 0 _ rfl, (cells_ofS hS2.2.1).1 1 _ rfl, (cells_ofS hS2.2.1).1 2 _ rfl, (cells_ofS hS2.2.1).1 3 _ rfl⟩
            simp only [h2] at hK ⊢
            go_simp
            exact hK.out _ _ (Below.refl _ _) rfl
          · intro vs w2 hb2 hS2 hR2 K hK
            simp only [List.set_cons_zero, List.set_cons_succ] at hK ⊢
            go_simp
            exact hK.out _ _ (Below.refl _ _) rfl
          · intro vs w2 hb2 hS2 hR2 K hK
            have h3 : vs 3 = mkC a := by obtain ⟨_, _, _, h⟩ := hR2 3 (by kernel_rfl); exact h
            have h4 : vs 4 = .complex .f64 ref 0 := by obtain ⟨_, _, _, h⟩ := hR2 4 (by kernel_rfl); exact h
            simp only [List.set_cons_zero, List.set_cons_succ] at hK ⊢
            simp only [h3, h4] at hK ⊢
            rw [if_pos (by rfl)]
            go_wp2_with (go_at_call 43; refine (psub_any _ _ _ _ _).mono ?_; rintro e w5 ⟨_, n, rfl, rfl, r, i, rfl, hz⟩)
            exact hK.out _ _ (below_n (Below.refl _ _) n) ⟨r, i, rfl, hz.trans (by rw [fc_zero]; try rfl)⟩
          · intro vs w2 hb2 hS2 hR2 K hK
            simp only [List.set_cons_zero, List.set_cons_succ] at hK ⊢
            go_simp
            exact hK.out _ _ (Below.refl _ _) rfl
          · intro vs w2 hb2 hS2 hR2 K hK
            obtain ⟨_, _, _, H5⟩ := hR2 5 (by kernel_rfl)
            obtain ⟨r5, i5, h5, q5⟩ := H5
            have h6 : vs 6 = .complex .f64 r9 i9 := by obtain ⟨_, _, _, h⟩ := hR2 6 (by kernel_rfl); exact h
            simp only [List.set_cons_zero, List.set_cons_succ] at hK ⊢
            simp only [h6, h5] at hK ⊢
            rw [if_pos (by rfl)]
            go_wp2_with (go_at_call 41; refine (pmul_any _ _ _ _ _).mono ?_; rintro e w5 ⟨_, n, rfl, rfl, r, i, rfl, hz⟩)
            exact hK.out _ _ (below_n (Below.refl _ _) n) ⟨r, i, rfl, hz.trans (by rw [q5, HQ.out]; try rfl)⟩
          · intro vs w2 hb2 hS2 hR2 K hK
            simp only [List.set_cons_zero, List.set_cons_succ] at hK ⊢
            go_simp
            exact hK.out _ _ (Below.refl _ _) rfl
          · intro vs w2 hb2 hS2 hR2 K hK
            obtain ⟨_, _, _, H7⟩ := hR2 7 (by kernel_rfl)
            obtain ⟨r7, i7, h7, q7⟩ := H7
            have h8 : vs 8 = .complex .f64 m1 m2 := by obtain ⟨_, _, _, h⟩ := hR2 8 (by kernel_rfl); exact h
            simp only [List.set_cons_zero, List.set_cons_succ] at hK ⊢
            simp only [h8, h7] at hK ⊢
            rw [if_pos (by rfl)]
            go_wp2_with (go_at_call 43; refine (psub_any _ _ _ _ _).mono ?_; rintro e w5 ⟨_, n, rfl, rfl, r, i, rfl, hz⟩)
            exact hK.out _ _ (below_n (Below.refl _ _) n) ⟨r, i, rfl, hz.trans (by rw [q7, HH.out]; try rfl)⟩
          · intro vs w2 hb2 hS2 hR2 K hK
            have h0 : vs 0 = .func (.func 80) #[] #[.pointer (some ⟨gd, 0, none⟩)] := by obtain ⟨_, _, _, h⟩ := hR2 0 (by kernel_rfl); exact h
            obtain ⟨_, _, _, H9⟩ := hR2 9 (by kernel_rfl)
            obtain ⟨rn, in_, h9, qn⟩ := H9
            simp only [List.set_cons_zero, List.set_cons_succ] at hK ⊢
            simp only [h0, h9] at hK ⊢
            rw [if_pos (by rfl)]
            go_wp2_with (first | (refine (over1_any (rn, in_) (d1, d2) gd _ hS2.2.2).mono ?_; rintro e w5 ⟨_, n, rfl, rfl, r, i, rfl, hz⟩) | (go_simp; refine (over1_any (rn, in_) (d1, d2) gd _ hS2.2.2).mono ?_; rintro e w5 ⟨_, n, rfl, rfl, r, i, rfl, hz⟩))
            exact hK.out _ _ (below_n (Below.refl _ _) n) ⟨r, i, rfl, hz.trans (by rw [show ck (d1, d2) = (fc d1, fc d2) from rfl, HD.out, show ck (rn, in_) = (fc rn, fc in_) from rfl, qn]; try rfl)⟩
          · intro vs w2 hb2 hS2 hR2 K hK
            simp only [List.set_cons_zero, List.set_cons_succ] at hK ⊢
            go_simp
            exact hK.out _ _ (Below.refl _ _) rfl
          · intro vs w2 hb2 hS2 hR2 K hK
            simp only [List.set_cons_zero, List.set_cons_succ] at hK ⊢
            go_simp
            exact hK.out _ _ (Below.refl _ _) rfl
          · intro vs w2 hb2 hS2 hR2 K hK
            simp only [List.set_cons_zero, List.set_cons_succ] at hK ⊢
            obtain ⟨k0, k1, k2, k3⟩ : w2.cell? ⟨gf, 0, none⟩ = some (mkC a) ∧ w2.cell? ⟨gf, 1, none⟩ = some (mkC b) ∧ w2.cell? ⟨gf, 2, none⟩ = some (mkC c) ∧ w2.cell? ⟨gf, 3, none⟩ = some (mkC d) := ⟨(cells_ofS hS2.2.1).1 0 _ rfl, (cells_ofS hS2.2.1).1 1 _ rfl, (cells_ofS hS2.2.1).1 2 _ rfl, (cells_ofS hS2.2.1).1 3 _ rfl⟩
            go_simp
            exact hK.out _ _ (Below.refl _ _) rfl
          · intro vs w2 hb2 hS2 hR2 K hK
            have h13 : vs 13 = .pointer (some ⟨gf, 0, none⟩) := by obtain ⟨_, _, _, h⟩ := hR2 13 (by kernel_rfl); exact h
            simp only [List.set_cons_zero, List.set_cons_succ] at hK ⊢
            obtain ⟨k0, k1, k2, k3⟩ : w2.cell? ⟨gf, 0, none⟩ = some (mkC a) ∧ w2.cell? ⟨gf, 1, none⟩ = some (mkC b) ∧ w2.cell? ⟨gf, 2, none⟩ = some (mkC c) ∧ w2.cell? ⟨gf, 3, none⟩ = some (mkC d) := ⟨(cells_ofS hS2.2.1).1 0 _ rfl, (cells_ofS hS2.2.1).1 1 _ rfl, (cells_ofS hS2.2.1).1 2 _ rfl, (cells_ofS hS2.2.1).1 3 _ rfl⟩
            simp only [h13] at hK ⊢
            go_simp
            exact hK.out _ _ (Below.refl _ _) rfl
          · intro vs w2 hb2 hS2 hR2 K hK
            have h14 : vs 14 = .pointer (some ⟨gf, 1, none⟩) := by obtain ⟨_, _, _, h⟩ := hR2 14 (by kernel_rfl); exact h
            simp only [List.set_cons_zero, List.set_cons_succ] at hK ⊢
            obtain ⟨k0, k1, k2, k3⟩ : w2.cell? ⟨gf, 0, none⟩ = some (mkC a) ∧ w2.cell? ⟨gf, 1, none⟩ = some (mkC b) ∧ w2.cell? ⟨gf, 2, none⟩ = some (mkC c) ∧ w2.cell? ⟨gf, 3, none⟩ = some (mkC d) := ⟨(cells_ofS hS2.2.1).1 0 _ rfl, (cells_ofS hS2.2.1).1 1 _ rfl, (cells_ofS hS2.2.1).1 2 _ rfl, (cells_ofS hS2.2.1).1 3 _ rfl⟩
            simp only [h14] at hK ⊢
            go_simp
            exact hK.out _ _ (Below.refl _ _) rfl
          · intro vs w2 hb2 hS2 hR2 K hK
            have h12 : vs 12 = .float .f64 t := by obtain ⟨_, _, _, h⟩ := hR2 12 (by kernel_rfl); exact h
            have h15 : vs 15 = mkC b := by obtain ⟨_, _, _, h⟩ := hR2 15 (by kernel_rfl); exact h
            simp only [List.set_cons_zero, List.set_cons_succ] at hK ⊢
            simp only [h12, h15] at hK ⊢
            rw [if_pos (by rfl)]
            go_wp2_with (go_at_call 45; refine (pscale_any _ _ _ _).mono ?_; rintro e w5 ⟨_, n, rfl, rfl, r, i, rfl, hz⟩)
            exact hK.out _ _ (below_n (Below.refl _ _) n) ⟨r, i, rfl, hz.trans (by rw [HTW.out]; try rfl)⟩
          · intro vs w2 hb2 hS2 hR2 K hK
            have h11 : vs 11 = .func (.func 80) #[] #[.pointer (some ⟨gd, 0, none⟩)] := by obtain ⟨_, _, _, h⟩ := hR2 11 (by kernel_rfl); exact h
            obtain ⟨_, _, _, H16⟩ := hR2 16 (by kernel_rfl)
            obtain ⟨r16, i16, h16, q16⟩ := H16
            simp only [List.set_cons_zero, List.set_cons_succ] at hK ⊢
            simp only [h11, h16] at hK ⊢
            rw [if_pos (by rfl)]
            go_wp2_with (first | (refine (over1_any (r16, i16) (d1, d2) gd _ hS2.2.2).mono ?_; rintro e w5 ⟨_, n, rfl, rfl, r, i, rfl, hz⟩) | (go_simp; refine (over1_any (r16, i16) (d1, d2) gd _ hS2.2.2).mono ?_; rintro e w5 ⟨_, n, rfl, rfl, r, i, rfl, hz⟩))
            exact hK.out _ _ (below_n (Below.refl _ _) n) ⟨r, i, rfl, hz.trans (by rw [show ck (d1, d2) = (fc d1, fc d2) from rfl, HD.out, show ck (r16, i16) = (fc r16, fc i16) from rfl, q16]; try rfl)⟩
          · intro vs w2 hb2 hS2 hR2 K hK
            obtain ⟨_, _, _, H10⟩ := hR2 10 (by kernel_rfl)
            obtain ⟨r10, i10, h10, q10⟩ := H10
            obtain ⟨_, _, _, H17⟩ := hR2 17 (by kernel_rfl)
            obtain ⟨r17, i17, h17, q17⟩ := H17
            simp only [List.set_cons_zero, List.set_cons_succ] at hK ⊢
            simp only [h10, h17] at hK ⊢
            go_simp
            exact hK.out _ _ (Below.refl _ _) ⟨(r10, i10), (r17, i17), rfl, q10, q17⟩
          · intro vs w2 hb2 hS2 hR2 K hK
            simp only [List.set_cons_zero, List.set_cons_succ] at hK ⊢
            go_simp
            exact hK.out _ _ (Below.refl _ _) rfl
          · intro vs w2 hb2 hS2 hR2 K hK
            simp only [List.set_cons_zero, List.set_cons_succ] at hK ⊢
            go_simp
            exact hK.out _ _ (Below.refl _ _) rfl
          · intro vs w2 hb2 hS2 hR2 K hK
            simp only [List.set_cons_zero, List.set_cons_succ] at hK ⊢
            obtain ⟨k0, k1, k2, k3⟩ : w2.cell? ⟨gf, 0, none⟩ = some (mkC a) ∧ w2.cell? ⟨gf, 1, none⟩ = some (mkC b) ∧ w2.cell? ⟨gf, 2, none⟩ = some (mkC c) ∧ w2.cell? ⟨gf, 3, none⟩ = some (mkC d) := ⟨(cells_ofS hS2.2.1).1 0 _ rfl, (cells_ofS hS2.2.1).1 1 _ rfl, (cells_ofS hS2.2.1).1 2 _ rfl, (cells_ofS hS2.2.1).1 3 _ rfl⟩
            go_simp
            exact hK.out _ _ (Below.refl _ _) rfl
          · intro vs w2 hb2 hS2 hR2 K hK
            have h21 : vs 21 = .pointer (some ⟨gf, 2, none⟩) := by obtain ⟨_, _, _, h⟩ := hR2 21 (by kernel_rfl); exact h
            simp only [List.set_cons_zero, List.set_cons_succ] at hK ⊢
            obtain ⟨k0, k1, k2, k3⟩ : w2.cell? ⟨gf, 0, none⟩ = some (mkC a) ∧ w2.cell? ⟨gf, 1, none⟩ = some (mkC b) ∧ w2.cell? ⟨gf, 2, none⟩ = some (mkC c) ∧ w2.cell? ⟨gf, 3, none⟩ = some (mkC d) := ⟨(cells_ofS hS2.2.1).1 0 _ rfl, (cells_ofS hS2.2.1).1 1 _ rfl, (cells_ofS hS2.2.1).1 2 _ rfl, (cells_ofS hS2.2.1).1 3 _ rfl⟩
            simp only [h21] at hK ⊢
            go_simp
            exact hK.out _ _ (Below.refl _ _) rfl
          · intro vs w2 hb2 hS2 hR2 K hK
            have h22 : vs 22 = .pointer (some ⟨gf, 2, none⟩) := by obtain ⟨_, _, _, h⟩ := hR2 22 (by kernel_rfl); exact h
            simp only [List.set_cons_zero, List.set_cons_succ] at hK ⊢
            obtain ⟨k0, k1, k2, k3⟩ : w2.cell? ⟨gf, 0, none⟩ = some (mkC a) ∧ w2.cell? ⟨gf, 1, none⟩ = some (mkC b) ∧ w2.cell? ⟨gf, 2, none⟩ = some (mkC c) ∧ w2.cell? ⟨gf, 3, none⟩ = some (mkC d) := ⟨(cells_ofS hS2.2.1).1 0 _ rfl, (cells_ofS hS2.2.1).1 1 _ rfl, (cells_ofS hS2.2.1).1 2 _ rfl, (cells_ofS hS2.2.1).1 3 _ rfl⟩
            simp only [h22] at hK ⊢
            go_simp
            exact hK.out _ _ (Below.refl _ _) rfl
          · intro vs w2 hb2 hS2 hR2 K hK
            have h20 : vs 20 = .float .f64 t := by obtain ⟨_, _, _, h⟩ := hR2 20 (by kernel_rfl); exact h
            have h23 : vs 23 = mkC c := by obtain ⟨_, _, _, h⟩ := hR2 23 (by kernel_rfl); exact h
            simp only [List.set_cons_zero, List.set_cons_succ] at hK ⊢
            simp only [h20, h23] at hK ⊢
            rw [if_pos (by rfl)]
            go_wp2_with (go_at_call 45; refine (pscale_any _ _ _ _).mono ?_; rintro e w5 ⟨_, n, rfl, rfl, r, i, rfl, hz⟩)
            exact hK.out _ _ (below_n (Below.refl _ _) n) ⟨r, i, rfl, hz.trans (by rw [HTW.out]; try rfl)⟩
          · intro vs w2 hb2 hS2 hR2 K hK
            have h19 : vs 19 = .func (.func 80) #[] #[.pointer (some ⟨gd, 0, none⟩)] := by obtain ⟨_, _, _, h⟩ := hR2 19 (by kernel_rfl); exact h
            obtain ⟨_, _, _, H24⟩ := hR2 24 (by kernel_rfl)
            obtain ⟨r24, i24, h24, q24⟩ := H24
            simp only [List.set_cons_zero, List.set_cons_succ] at hK ⊢
            simp only [h19, h24] at hK ⊢
            rw [if_pos (by rfl)]
            go_wp2_with (first | (refine (over1_any (r24, i24) (d1, d2) gd _ hS2.2.2).mono ?_; rintro e w5 ⟨_, n, rfl, rfl, r, i, rfl, hz⟩) | (go_simp; refine (over1_any (r24, i24) (d1, d2) gd _ hS2.2.2).mono ?_; rintro e w5 ⟨_, n, rfl, rfl, r, i, rfl, hz⟩))
            exact hK.out _ _ (below_n (Below.refl _ _) n) ⟨r, i, rfl, hz.trans (by rw [show ck (d1, d2) = (fc d1, fc d2) from rfl, HD.out, show ck (r24, i24) = (fc r24, fc i24) from rfl, q24]; try rfl)⟩
          · intro vs w2 hb2 hS2 hR2 K hK
            simp only [List.set_cons_zero, List.set_cons_succ] at hK ⊢
            go_simp
            exact hK.out _ _ (Below.refl _ _) rfl
          · intro vs w2 hb2 hS2 hR2 K hK
            simp only [List.set_cons_zero, List.set_cons_succ] at hK ⊢
            go_simp
            exact hK.out _ _ (Below.refl _ _) rfl
          · intro vs w2 hb2 hS2 hR2 K hK
            simp only [List.set_cons_zero, List.set_cons_succ] at hK ⊢
            obtain ⟨k0, k1, k2, k3⟩ : w2.cell? ⟨gf, 0, none⟩ = some (mkC a) ∧ w2.cell? ⟨gf, 1, none⟩ = some (mkC b) ∧ w2.cell? ⟨gf, 2, none⟩ = some (mkC c) ∧ w2.cell? ⟨gf, 3, none⟩ = some (mkC d) := ⟨(cells_ofS hS2.2.1).1 0 _ rfl, (cells_ofS hS2.2.1).1 1 _ rfl, (cells_ofS hS2.2.1).1 2 _ rfl, (cells_ofS hS2.2.1).1 3 _ rfl⟩
            go_simp
            exact hK.out _ _ (Below.refl _ _) rfl
          · intro vs w2 hb2 hS2 hR2 K hK
            have h28 : vs 28 = .pointer (some ⟨gf, 2, none⟩) := by obtain ⟨_, _, _, h⟩ := hR2 28 (by kernel_rfl); exact h
            simp only [List.set_cons_zero, List.set_cons_succ] at hK ⊢
            obtain ⟨k0, k1, k2, k3⟩ : w2.cell? ⟨gf, 0, none⟩ = some (mkC a) ∧ w2.cell? ⟨gf, 1, none⟩ = some (mkC b) ∧ w2.cell? ⟨gf, 2, none⟩ = some (mkC c) ∧ w2.cell? ⟨gf, 3, none⟩ = some (mkC d) := ⟨(cells_ofS hS2.2.1).1 0 _ rfl, (cells_ofS hS2.2.1).1 1 _ rfl, (cells_ofS hS2.2.1).1 2 _ rfl, (cells_ofS hS2.2.1).1 3 _ rfl⟩
            simp only [h28] at hK ⊢
            go_simp
            exact hK.out _ _ (Below.refl _ _) rfl
          · intro vs w2 hb2 hS2 hR2 K hK
            have h29 : vs 29 = .pointer (some ⟨gf, 3, none⟩) := by obtain ⟨_, _, _, h⟩ := hR2 29 (by kernel_rfl); exact h
            simp only [List.set_cons_zero, List.set_cons_succ] at hK ⊢
            obtain ⟨k0, k1, k2, k3⟩ : w2.cell? ⟨gf, 0, none⟩ = some (mkC a) ∧ w2.cell? ⟨gf, 1, none⟩ = some (mkC b) ∧ w2.cell? ⟨gf, 2, none⟩ = some (mkC c) ∧ w2.cell? ⟨gf, 3, none⟩ = some (mkC d) := ⟨(cells_ofS hS2.2.1).1 0 _ rfl, (cells_ofS hS2.2.1).1 1 _ rfl, (cells_ofS hS2.2.1).1 2 _ rfl, (cells_ofS hS2.2.1).1 3 _ rfl⟩
            simp only [h29] at hK ⊢
            go_simp
            exact hK.out _ _ (Below.refl _ _) rfl
          · intro vs w2 hb2 hS2 hR2 K hK
            simp only [List.set_cons_zero, List.set_cons_succ] at hK ⊢
            go_simp
            exact hK.out _ _ (Below.refl _ _) rfl
          · intro vs w2 hb2 hS2 hR2 K hK
            have h30 : vs 30 = mkC d := by obtain ⟨_, _, _, h⟩ := hR2 30 (by kernel_rfl); exact h
            have h31 : vs 31 = .complex .f64 ref 0 := by obtain ⟨_, _, _, h⟩ := hR2 31 (by kernel_rfl); exact h
            simp only [List.set_cons_zero, List.set_cons_succ] at hK ⊢
            simp only [h30, h31] at hK ⊢
            rw [if_pos (by rfl)]
            go_wp2_with (go_at_call 43; refine (psub_any _ _ _ _ _).mono ?_; rintro e w5 ⟨_, n, rfl, rfl, r, i, rfl, hz⟩)
            exact hK.out _ _ (below_n (Below.refl _ _) n) ⟨r, i, rfl, hz.trans (by rw [fc_zero]; try rfl)⟩
          · intro vs w2 hb2 hS2 hR2 K hK
            have h27 : vs 27 = .complex .f64 r4 i4 := by obtain ⟨_, _, _, h⟩ := hR2 27 (by kernel_rfl); exact h
            obtain ⟨_, _, _, H32⟩ := hR2 32 (by kernel_rfl)
            obtain ⟨r32, i32, h32, q32⟩ := H32
            simp only [List.set_cons_zero, List.set_cons_succ] at hK ⊢
            simp only [h27, h32] at hK ⊢
            rw [if_pos (by rfl)]
            go_wp2_with (go_at_call 41; refine (pmul_any _ _ _ _ _).mono ?_; rintro e w5 ⟨_, n, rfl, rfl, r, i, rfl, hz⟩)
            exact hK.out _ _ (below_n (Below.refl _ _) n) ⟨r, i, rfl, hz.trans (by rw [HP.out, q32]; try rfl)⟩
          · intro vs w2 hb2 hS2 hR2 K hK
            simp only [List.set_cons_zero, List.set_cons_succ] at hK ⊢
            go_simp
            exact hK.out _ _ (Below.refl _ _) rfl
          · intro vs w2 hb2 hS2 hR2 K hK
            obtain ⟨_, _, _, H33⟩ := hR2 33 (by kernel_rfl)
            obtain ⟨r33, i33, h33, q33⟩ := H33
            have h34 : vs 34 = .complex .f64 m1 m2 := by obtain ⟨_, _, _, h⟩ := hR2 34 (by kernel_rfl); exact h
            simp only [List.set_cons_zero, List.set_cons_succ] at hK ⊢
            simp only [h34, h33] at hK ⊢
            rw [if_pos (by rfl)]
            go_wp2_with (go_at_call 43; refine (psub_any _ _ _ _ _).mono ?_; rintro e w5 ⟨_, n, rfl, rfl, r, i, rfl, hz⟩)
            exact hK.out _ _ (below_n (Below.refl _ _) n) ⟨r, i, rfl, hz.trans (by rw [q33, HH.out]; try rfl)⟩
          · intro vs w2 hb2 hS2 hR2 K hK
            have h26 : vs 26 = .func (.func 80) #[] #[.pointer (some ⟨gd, 0, none⟩)] := by obtain ⟨_, _, _, h⟩ := hR2 26 (by kernel_rfl); exact h
            obtain ⟨_, _, _, H35⟩ := hR2 35 (by kernel_rfl)
            obtain ⟨r35, i35, h35, q35⟩ := H35
            simp only [List.set_cons_zero, List.set_cons_succ] at hK ⊢
            simp only [h26, h35] at hK ⊢
            rw [if_pos (by rfl)]
            go_wp2_with (first | (refine (over1_any (r35, i35) (d1, d2) gd _ hS2.2.2).mono ?_; rintro e w5 ⟨_, n, rfl, rfl, r, i, rfl, hz⟩) | (go_simp; refine (over1_any (r35, i35) (d1, d2) gd _ hS2.2.2).mono ?_; rintro e w5 ⟨_, n, rfl, rfl, r, i, rfl, hz⟩))
            exact hK.out _ _ (below_n (Below.refl _ _) n) ⟨r, i, rfl, hz.trans (by rw [show ck (d1, d2) = (fc d1, fc d2) from rfl, HD.out, show ck (r35, i35) = (fc r35, fc i35) from rfl, q35]; try rfl)⟩
          · intro vs w2 hb2 hS2 hR2 K hK
            obtain ⟨_, _, _, H25⟩ := hR2 25 (by kernel_rfl)
            obtain ⟨r25, i25, h25, q25⟩ := H25
            obtain ⟨_, _, _, H36⟩ := hR2 36 (by kernel_rfl)
            obtain ⟨r36, i36, h36, q36⟩ := H36
            simp only [List.set_cons_zero, List.set_cons_succ] at hK ⊢
            simp only [h25, h36] at hK ⊢
            go_simp
            exact hK.out _ _ (Below.refl _ _) ⟨(r25, i25), (r36, i36), rfl, q25, q36⟩
          · intro vs w2 hb2 hS2 hR2 K hK
            obtain ⟨_, _, _, H18⟩ := hR2 18 (by kernel_rfl)
            obtain ⟨x18, y18, h18, q18, s18⟩ := H18
            obtain ⟨_, _, _, H37⟩ := hR2 37 (by kernel_rfl)
            obtain ⟨x37, y37, h37, q37, s37⟩ := H37
            simp only [List.set_cons_zero, List.set_cons_succ] at hK ⊢
            simp only [h18, h37] at hK ⊢
            go_simp
            exact hK.out _ _ (Below.refl _ _) ⟨x18, y18, x37, y37, rfl, q18, s18, q37, s37⟩
          · intro vs w2 hb2 hS2 hR2 K hK
            simp only [List.set_cons_zero, List.set_cons_succ] at hK ⊢
            go_simp
            exact hK.out _ _ (Below.refl _ _) rfl
        case hendr =>
          intro vs wx lo hiv hbx hSx hRx hdx
          have h0 : vs 0 = .func (.func 80) #[] #[.pointer (some ⟨gd, 0, none⟩)] := (hRx 0 (by kernel_rfl)).1
          have h1 : vs 1 = .pointer (some ⟨gf, 0, none⟩) := (hRx 1 (by kernel_rfl)).1
          have h2 : vs 2 = .pointer (some ⟨gf, 0, none⟩) := (hRx 2 (by kernel_rfl)).1
          have h3 : vs 3 = mkC a := (hRx 3 (by kernel_rfl)).1
          have h4 : vs 4 = .complex .f64 ref 0 := (hRx 4 (by kernel_rfl)).1
          have H5 := (hRx 5 (by kernel_rfl)).1
          obtain ⟨r5, i5, h5, q5⟩ := H5
          have h6 : vs 6 = .complex .f64 r9 i9 := (hRx 6 (by kernel_rfl)).1
          have H7 := (hRx 7 (by kernel_rfl)).1
          obtain ⟨r7, i7, h7, q7⟩ := H7
          have h8 : vs 8 = .complex .f64 m1 m2 := (hRx 8 (by kernel_rfl)).1
          have H9 := (hRx 9 (by kernel_rfl)).1
          obtain ⟨rn, in_, h9, qn⟩ := H9
          have H10 := (hRx 10 (by kernel_rfl)).1
          obtain ⟨r10, i10, h10, q10⟩ := H10
          have h11 : vs 11 = .func (.func 80) #[] #[.pointer (some ⟨gd, 0, none⟩)] := (hRx 11 (by kernel_rfl)).1
          have h12 : vs 12 = .float .f64 t := (hRx 12 (by kernel_rfl)).1
          have h13 : vs 13 = .pointer (some ⟨gf, 0, none⟩) := (hRx 13 (by kernel_rfl)).1
          have h14 : vs 14 = .pointer (some ⟨gf, 1, none⟩) := (hRx 14 (by kernel_rfl)).1
          have h15 : vs 15 = mkC b := (hRx 15 (by kernel_rfl)).1
          have H16 := (hRx 16 (by kernel_rfl)).1
          obtain ⟨r16, i16, h16, q16⟩ := H16
          have H17 := (hRx 17 (by kernel_rfl)).1
          obtain ⟨r17, i17, h17, q17⟩ := H17
          have H18 := (hRx 18 (by kernel_rfl)).1
          obtain ⟨x18, y18, h18, q18, s18⟩ := H18
          have h19 : vs 19 = .func (.func 80) #[] #[.pointer (some ⟨gd, 0, none⟩)] := (hRx 19 (by kernel_rfl)).1
          have h20 : vs 20 = .float .f64 t := (hRx 20 (by kernel_rfl)).1
          have h21 : vs 21 = .pointer (some ⟨gf, 2, none⟩) := (hRx 21 (by kernel_rfl)).1
          have h22 : vs 22 = .pointer (some ⟨gf, 2, none⟩) := (hRx 22 (by kernel_rfl)).1
          have h23 : vs 23 = mkC c := (hRx 23 (by kernel_rfl)).1
          have H24 := (hRx 24 (by kernel_rfl)).1
          obtain ⟨r24, i24, h24, q24⟩ := H24
          have H25 := (hRx 25 (by kernel_rfl)).1
          obtain ⟨r25, i25, h25, q25⟩ := H25
          have h26 : vs 26 = .func (.func 80) #[] #[.pointer (some ⟨gd, 0, none⟩)] := (hRx 26 (by kernel_rfl)).1
          have h27 : vs 27 = .complex .f64 r4 i4 := (hRx 27 (by kernel_rfl)).1
          have h28 : vs 28 = .pointer (some ⟨gf, 2, none⟩) := (hRx 28 (by kernel_rfl)).1
          have h29 : vs 29 = .pointer (some ⟨gf, 3, none⟩) := (hRx 29 (by kernel_rfl)).1
          have h30 : vs 30 = mkC d := (hRx 30 (by kernel_rfl)).1
          have h31 : vs 31 = .complex .f64 ref 0 := (hRx 31 (by kernel_rfl)).1
          have H32 := (hRx 32 (by kernel_rfl)).1
          obtain ⟨r32, i32, h32, q32⟩ := H32
          have H33 := (hRx 33 (by kernel_rfl)).1
          obtain ⟨r33, i33, h33, q33⟩ := H33
          have h34 : vs 34 = .complex .f64 m1 m2 := (hRx 34 (by kernel_rfl)).1
          have H35 := (hRx 35 (by kernel_rfl)).1
          obtain ⟨r35, i35, h35, q35⟩ := H35
          have H36 := (hRx 36 (by kernel_rfl)).1
          obtain ⟨r36, i36, h36, q36⟩ := H36
          have H37 := (hRx 37 (by kernel_rfl)).1
          obtain ⟨x37, y37, h37, q37, s37⟩ := H37
          have H38 := (hRx 38 (by kernel_rfl)).1
          obtain ⟨x, y, z, u, h38, q1, q2, q3, q4⟩ := H38
          have h39 : vs 39 = .int .i64 ee := (hRx 39 (by kernel_rfl)).1
          simp only [fillD, Act.put, List.setIfInBounds_toArray, List.set_cons_zero, List.set_cons_succ, h0, h1, h2, h3, h4, h5, h6, h7, h8, h9, h10, h11, h12, h13, h14, h15, h16, h17, h18, h19, h20, h21, h22, h23, h24, h25, h26, h27, h28, h29, h30, h31, h32, h33, h34, h35, h36, h37, h38, h39]
          have hb := below_drew_left hbx
          have HT11 := hid (heap_later2 hb HT10.out)
          have HF11 := hid (heap_later2 hb HF10.out)
          have HG11 := hid (heap_later2 hb HG10.out)
          have HB11 := hid (below_next HB10.out hb)
          have HQ1 := hid q1
          have HQ2 := hid q2
          have HQ3 := hid q3
          have HQ4 := hid q4
          clear hbx hSx hRx hdx hb q1 q2 q3 q4 HT10 HF10 HG10 HB10 h0 h1 h2 h3 h4 h5 h6 h7 h8 h9 h10 h11 h12 h13 h14 h15 h16 h17 h18 h19 h20 h21 h22 h23 h24 h25 h26 h27 h28 h29 h30 h31 h32 h33 h34 h35 h36 h37 h38 h39 q5 q7 qn q10 q16 q17 q18 s18 q24 q25 q32 q33 q35 q36 q37 s37
          refine wpAny_one (i := 40) (by kernel_rfl) rfl (fun K hK => ?_)
          rw [if_pos (by rfl)]
          obtain ⟨rr, hrr⟩ : ∃ rr, (toldS ee x y z u).1.1 = rr := ⟨_, rfl⟩
          obtain ⟨ke, hke⟩ : ∃ ke, (toldS ee x y z u).2 = ke := ⟨_, rfl⟩
          have HRR := hid hrr
          have HKE := hid hke
          go_wp2_with (go_at_call 44; refine (told_any x y z u ee _).mono ?_; rintro e w12 ⟨v, ts, rfl, hts, hown, hb⟩; have HT12 := hid (heap_later2 hb HT11.out); have HF12 := hid (heap_later2 hb HF11.out); have HG12 := hid (heap_later2 hb HG11.out); have HB12 := hid (below_next HB11.out hb); rw [HRR.out, HKE.out]; have HTS := hid hts; have HOW := hid hown; obtain ⟨ar, cr, rfl⟩ := (IsSl.of_own hown).form; clear hts hown; clear hb )
          refine hK.out _ _ ?_
          clear hK hrr hke HF11 HG11
          have hsc := block_cells HT12.out
          have z0 := hsc.1 0 _ rfl
          have z1 := hsc.1 1 _ rfl
          have z2 := hsc.1 2 _ rfl
          have f0 := hsc.2 0
          have f1 := hsc.2 1
          have f2 := hsc.2 2
          clear hsc
          have HWT := hid (show sQ a b c d ref = toldS ee x y z u by rw [HW.out, HE.out]; exact told_ck (by rw [HQ1.out.symm, ck_ck2]) (by rw [HQ2.out.symm, ck_ck2]) (by rw [HQ3.out.symm, ck_ck2]) (by rw [HQ4.out.symm, ck_ck2]))
          have HOWQ := hid (show World.ownsRow _ w.heap.size 26 1 (.slice ar ts.length cr) ts.length (ts.map mkC) from (HOW.out.mono HB11.out.size).kept (grown_m3 w12 gt (.int .i64 rr) (.int .i64 rr) (.slice ar ts.length cr)) (.inr (fun e => by have h1 := (HOW.out.lt _ e).1; have h2 := (Array.getElem?_eq_some_iff.1 HT11.out).1; omega)))
          refine wpAny_two (i := 41) (j := 42) (by kernel_rfl) rfl rfl (fun K hK => ?_) (fun K hK => ?_)
          all_goals go_simp
          all_goals refine hK.out _ _ ?_
          all_goals clear hK
          rotate_left
          refine wpAny_one (i := 41) (by kernel_rfl) rfl (fun K hK => ?_)
          rotate_left
          refine wpAny_one (i := 42) (by kernel_rfl) rfl (fun K hK => ?_)
          all_goals go_simp
          all_goals refine hK.out _ _ ?_
          all_goals clear hK
          all_goals
            refine wpAny_one (i := 43) (by kernel_rfl) rfl (fun K hK => ?_)
            go_simp
            refine hK.out _ _ ?_
            clear hK
            refine wpAny_one (i := 44) (by kernel_rfl) rfl (fun K hK => ?_)
            go_simp
            refine hK.out _ _ ?_
            clear hK
            refine wpAny_done (by kernel_rfl) ?_ _
            simp only [Exit.then]
            refine ‹∀ (a_1 : Act) (w_1 : World), Code.wp Tryz.prog Code.ret (bodyPost Tryz.prog Tryz.f9 (RetM2 (sQ a b c d ref) w)) a_1 w_1 → _› _ _ ?_
            refine wp_ret ?_
            refine bodyPost_ret (v := .tuple #[.agg #[.int .i64 rr, .int .i64 rr, .slice ar ts.length cr], .int .i64 ke]) ?_ rfl ⟨.slice ar ts.length cr, ts, by rw [HWT.out, HRR.out, HKE.out], by rw [HWT.out]; exact HTS.out, HOWQ.out, below_m3 HB12.out HLE.out⟩
            rw [results_cell_tmp rfl]
            go_simp
end Go.Proofs.YtfljneapjcnpiaaGreatDoor
