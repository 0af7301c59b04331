/- a part of the proof of the last text -/
import Derived.Test.YtdepiggjneoopaaGreatDoorZTp2
import Derived.Deep.Onto
namespace Go.Proofs.YtdepiggjneoopaaGreatDoor
set_option linter.all false
set_option maxHeartbeats 4000000
set_option maxRecDepth 100000
open Go.RowKit
set_option maxRecDepth 100000 in
set_option maxHeartbeats 2000000 in
theorem told_any (a b c d : Cx) (k : Int) (w : World) :
    Calls Tryz.prog 48 #[mk4 a b c d, .int .i64 k] w (RetM2 (told4S k a b c d) w) := by
  obtain ⟨t1, t2, t3⟩ := two_blks w #[mkC a, mkC b, mkC c, mkC d] #[.int .i64 0, .int .i64 0, .slice none 0 0] 82 43
  have HS := hid t1
  have HT := hid t2
  have HB := hid t3
  clear t1 t2 t3
  by_cases hk : k = 0
  rotate_left
  · have q1 : (k != 0) = true := by simpa using hk
    have HW := hid (show told4S k a b c d = ((0, []), k) by unfold told4S; rw [if_pos hk])
    clear hk
    go_enter Tryz.func48, Tryz.ntmps48
    go_upto_region 1 with fail
    generalize (w.alloc (.cells #[mkC a, mkC b, mkC c, mkC d] 82)).alloc (.cells #[.int .i64 0, .int .i64 0, .slice none 0 0] 43) = w1 at *
    obtain ⟨gs, hgs⟩ : ∃ gs, w.heap.size = gs := ⟨_, rfl⟩
    obtain ⟨gt, hgt⟩ : ∃ gt, gs + 1 = gt := ⟨_, rfl⟩
    have HLE := hid (show w.heap.size ≤ gt by omega)
    rw [hgs] at HS HT ⊢
    rw [hgt] at HT ⊢
    clear hgs hgt
    have hsc := block_cells HS.out
    have s0 := hsc.1 0 _ rfl
    have s1 := hsc.1 1 _ rfl
    have s2 := hsc.1 2 _ rfl
    have s3 := hsc.1 3 _ rfl
    have hsc := block_cells HT.out
    have t0 := hsc.1 0 _ rfl
    have t1 := hsc.1 1 _ rfl
    have t2 := hsc.1 2 _ rfl
    have f0 := hsc.2 0
    have f1 := hsc.2 1
    have f2 := hsc.2 2
    clear hsc
    go_wp2
    (try simp only [Exit.inBlock, Exit.then])
    (try rw [Exit.noGoto_ret])
    refine bodyPost_ret (v := .tuple #[.agg #[.int .i64 0, .int .i64 0, .slice none 0 0], .int .i64 k]) ?_ rfl (RetM2.bad HW.out (below_m3 HB.out HLE.out))
    rw [results_cell_tmp rfl]
    go_simp
  subst hk
  cases hfn : fin4 a b c d
  · have HW := hid (show told4S 0 a b c d = ((0, []), 6) by unfold told4S; rw [if_neg (by simp), if_neg (by rw [hfn]; simp)])
    have HFN := hid hfn
    clear hfn
    go_enter Tryz.func48, Tryz.ntmps48
    go_upto_region 1 with fail
    generalize (w.alloc (.cells #[mkC a, mkC b, mkC c, mkC d] 82)).alloc (.cells #[.int .i64 0, .int .i64 0, .slice none 0 0] 43) = w1 at *
    obtain ⟨gs, hgs⟩ : ∃ gs, w.heap.size = gs := ⟨_, rfl⟩
    obtain ⟨gt, hgt⟩ : ∃ gt, gs + 1 = gt := ⟨_, rfl⟩
    have HLE := hid (show w.heap.size ≤ gt by omega)
    rw [hgs] at HS HT ⊢
    rw [hgt] at HT ⊢
    clear hgs hgt
    have hsc := block_cells HS.out
    have s0 := hsc.1 0 _ rfl
    have s1 := hsc.1 1 _ rfl
    have s2 := hsc.1 2 _ rfl
    have s3 := hsc.1 3 _ rfl
    have hsc := block_cells HT.out
    have t0 := hsc.1 0 _ rfl
    have t1 := hsc.1 1 _ rfl
    have t2 := hsc.1 2 _ rfl
    have f0 := hsc.2 0
    have f1 := hsc.2 1
    have f2 := hsc.2 2
    clear hsc
    go_wp2_with (go_at_call 76; refine (f4fin_any a b c d _).mono ?_; rintro e w3 ⟨rfl, hb⟩; rw [HFN.out]; have HB2 := hid (below_next HB.out hb); have HS2 := hid (heap_later2 hb HS.out); have HT2 := hid (heap_later2 hb HT.out); clear hb; clear s0 s1 s2 s3 t0 t1 t2 f0 f1 f2; have hsc := block_cells HS2.out; have s0 := hsc.1 0 _ rfl; have s1 := hsc.1 1 _ rfl; have s2 := hsc.1 2 _ rfl; have s3 := hsc.1 3 _ rfl; have hsc := block_cells HT2.out; have t0 := hsc.1 0 _ rfl; have t1 := hsc.1 1 _ rfl; have t2 := hsc.1 2 _ rfl; have f0 := hsc.2 0; have f1 := hsc.2 1; have f2 := hsc.2 2; clear hsc)
    (try simp only [Exit.inBlock, Exit.then])
    (try rw [Exit.noGoto_ret])
    refine bodyPost_ret (v := .tuple #[.agg #[.int .i64 0, .int .i64 0, .slice none 0 0], .int .i64 6]) ?_ rfl (RetM2.bad HW.out (below_m3 HB2.out HLE.out))
    rw [results_cell_tmp rfl]
    go_simp
  · have HW := hid (show told4S 0 a b c d = ((2, [ck a, ck b, ck c, ck d]), 0) by unfold told4S; rw [if_neg (by simp), if_pos hfn])
    have HFN := hid hfn
    clear hfn
    go_enter Tryz.func48, Tryz.ntmps48
    go_upto_region 1 with fail
    generalize (w.alloc (.cells #[mkC a, mkC b, mkC c, mkC d] 82)).alloc (.cells #[.int .i64 0, .int .i64 0, .slice none 0 0] 43) = w1 at *
    obtain ⟨gs, hgs⟩ : ∃ gs, w.heap.size = gs := ⟨_, rfl⟩
    obtain ⟨gt, hgt⟩ : ∃ gt, gs + 1 = gt := ⟨_, rfl⟩
    have HLE := hid (show w.heap.size ≤ gt by omega)
    rw [hgs] at HS HT ⊢
    rw [hgt] at HT ⊢
    clear hgs hgt
    have hsc := block_cells HS.out
    have s0 := hsc.1 0 _ rfl
    have s1 := hsc.1 1 _ rfl
    have s2 := hsc.1 2 _ rfl
    have s3 := hsc.1 3 _ rfl
    have hsc := block_cells HT.out
    have t0 := hsc.1 0 _ rfl
    have t1 := hsc.1 1 _ rfl
    have t2 := hsc.1 2 _ rfl
    have f0 := hsc.2 0
    have f1 := hsc.2 1
    have f2 := hsc.2 2
    clear hsc
    go_upto_region 5 with (go_at_call 76; refine (f4fin_any a b c d _).mono ?_; rintro e w3 ⟨rfl, hb⟩; rw [HFN.out]; have HB2 := hid (below_next HB.out hb); have HS2 := hid (heap_later2 hb HS.out); have HT2 := hid (heap_later2 hb HT.out); clear hb; clear s0 s1 s2 s3 t0 t1 t2 f0 f1 f2; have hsc := block_cells HS2.out; have s0 := hsc.1 0 _ rfl; have s1 := hsc.1 1 _ rfl; have s2 := hsc.1 2 _ rfl; have s3 := hsc.1 3 _ rfl; have hsc := block_cells HT2.out; have t0 := hsc.1 0 _ rfl; have t1 := hsc.1 1 _ rfl; have t2 := hsc.1 2 _ rfl; have f0 := hsc.2 0; have f1 := hsc.2 1; have f2 := hsc.2 2; clear hsc)
    go_wp2_with (go_at_call 42; refine (f4list_any a b c d _).mono ?_; rintro e w4 ⟨q, rfl, hq, hqr, hb⟩; have HB3 := hid (below_next HB2.out hb); have HT3 := hid (heap_later2 hb HT2.out); have HQN := hid (show w.heap.size ≤ q from Nat.le_trans HB2.out.size hq); have HQ := hid hqr; have HNE := hid (show q ≠ gt from fun e => by have := (Array.getElem?_eq_some_iff.1 HT2.out).1; omega); clear hb hq hqr s0 s1 s2 s3 t0 t1 t2 f0 f1 f2; have hsc := block_cells HT3.out; have t0 := hsc.1 0 _ rfl; have t1 := hsc.1 1 _ rfl; have t2 := hsc.1 2 _ rfl; have f0 := hsc.2 0; have f1 := hsc.2 1; have f2 := hsc.2 2; clear hsc)
    (try simp only [Exit.inBlock, Exit.then])
    (try rw [Exit.noGoto_ret])
    refine bodyPost_ret (v := .tuple #[.agg #[.int .i64 2, .int .i64 2, .slice (some ⟨q, 0, none⟩) 4 4], .int .i64 0]) ?_ rfl ⟨.slice (some ⟨q, 0, none⟩) 4 4, [a, b, c, d], by rw [HW.out]; rfl, by rw [HW.out]; rfl, cells4_own HQN.out (heap_nextG (grown_m3 _ gt _ _ _) HNE.out HQ.out), below_m3 HB3.out HLE.out⟩
    rw [results_cell_tmp rfl]
    go_simp
/-- What S tells of any four numbers. -/
def sQ (a b c d : Cx) (ref : Nat) : (Nat × List Cx) × Int := if fin4 a b c d = true then sS (ck a) (ck b) (ck c) (ck d) ref else ((0, []), 5)
theorem ck_ck2 (z : Cx) : ck (ck z) = ck z := Prod.ext (fc_fc _) (fc_fc _)
theorem Ret.b {S : Value → Prop} {w w' : World} {e : Ending} (h : Ret S w e w') : RetB S w e w' := by
  obtain ⟨v, n, he, rfl, hs⟩ := h
  exact ⟨v, he, below_n (Below.refl _ _) n, hs⟩
theorem tak4 (a b c d : Cx) : takS 2 2 [a, b, c, d] = if fin4 a b c d = true then 0 else 5 := by
  unfold takS fin4
  rw [if_neg (by simp)]
  simp [Bool.and_assoc]
end Go.Proofs.YtdepiggjneoopaaGreatDoor
