/- Matrices: the reference's Add where the place is one. -/
import Derived.Test.YtlgfpfjfoajjbaaMat
namespace Go.Proofs.Ytlgfpfjfoajjbaa
open Go.RowKit

theorem mbad_cases {r c : Int} {n : Nat} (h : mbad r c n = true) : r < 0 ∨ (0 ≤ r ∧ 64 < r) ∨ (0 ≤ r ∧ r ≤ 64 ∧ c < 0) ∨ (0 ≤ r ∧ r ≤ 64 ∧ 0 ≤ c ∧ 64 < c) ∨ (0 ≤ r ∧ r ≤ 64 ∧ 0 ≤ c ∧ c ≤ 64 ∧ ((n : Int) != wrap64 (r * c)) = true) := by
  rw [← mbadw_eq] at h
  simp only [mbadw, Bool.or_eq_true, decide_eq_true_eq] at h
  by_cases hr : r < 0
  · exact .inl hr
  by_cases hr2 : 64 < r
  · exact .inr (.inl ⟨by omega, hr2⟩)
  by_cases hc : c < 0
  · exact .inr (.inr (.inl ⟨by omega, by omega, hc⟩))
  by_cases hc2 : 64 < c
  · exact .inr (.inr (.inr (.inl ⟨by omega, by omega, by omega, hc2⟩)))
  refine .inr (.inr (.inr (.inr ⟨by omega, by omega, by omega, by omega, ?_⟩)))
  rcases h with (((h | h) | h) | h) | h
  · omega
  · omega
  · omega
  · omega
  · exact h
theorem mbad_fits {r c : Int} {n : Nat} (h : mbad r c n = false) : ((n : Int) != wrap64 (r * c)) = false := by
  rw [← mbadw_eq] at h
  simp only [mbadw, Bool.or_eq_false_iff] at h
  exact h.2
theorem maddC_cases {r c i j : Int} (h : maddC r c i j = true) : i < 0 ∨ (0 ≤ i ∧ r ≤ i) ∨ (0 ≤ i ∧ i < r ∧ j < 0) ∨ (0 ≤ i ∧ i < r ∧ 0 ≤ j ∧ c ≤ j) := by
  simp only [maddC, Bool.or_eq_true, decide_eq_true_eq] at h
  omega

theorem below_append {w w1 w2 : World} (h : Below w.heap.size w w1) (hg : w1.grownBy w2 none) : Below w.heap.size w w2 := below_step h (below_of_grown hg)

set_option maxRecDepth 100000 in
set_option maxHeartbeats 1000000 in
theorem radd18_good (r c i j : Int) (a : Option Addr) (k0 : Nat) (l : List Cx) (y : Cx) (w : World) (hv : IsSl w 1 (.slice a l.length k0) l.length (l.map mkC)) (hl : l.length * 16 ≤ 140737488351232) (hbad : mbad r c l.length = false) (hC : maddC r c i j = false) :
    Calls Try.prog 20 #[matV r c (.slice a l.length k0), .int .i64 i, .int .i64 j, mkC y] w (RetMat (madd r c (l.map ck) i j (ck y)) w) := by
  obtain ⟨i0, hi, hz0, hz1, hz2⟩ := info_parts infoC
  obtain ⟨r0, r64, q0, q64, hlen⟩ := mbad_no hbad
  have hfit := mbad_fits hbad
  obtain ⟨i0', ir, j0, jc⟩ := maddC_no hC
  obtain ⟨k, hk, hkl, hic⟩ := place_of i0' ir j0 jc r64 q64 hlen
  have hki : (i * c + j).toNat = k := by omega
  have hw1 : wrap64 (i * c) = i * c := by
    have h1 := Int.mul_nonneg i0' q0
    generalize i * c = x at *
    unfold wrap64; omega
  have hw2 : wrap64 (i * c + j) = (k : Int) := by rw [hk]; unfold wrap64; omega
  have hs : madd r c (l.map ck) i j (ck y) = if cfin (cadd ((l.map ck).getD k (0, 0)) (ck y)) then ((r, c, (l.map ck).set k (cadd ((l.map ck).getD k (0, 0)) (ck y))), 0) else ((0, 0, []), 6) := by
    simp only [madd, List.length_map, hbad, hC, hki, Bool.false_eq_true, if_false]
  have HV := hid (hv.below (((Below.refl _ w).alloc (Nat.le_refl _) (.cells #[.int .i64 r, .int .i64 c, .slice a l.length k0] 42)).alloc (by simp) (.cells #[.int .i64 0, .int .i64 0, .slice none 0 0] 42)) (Nat.le_refl _))
  have HS := hid hs
  have HL := hid hlen
  clear hv hs hC hbad hlen hk hki
  have hkk : (0 : Int) ≤ (k : Int) := by omega
  have hkk2 : (k : Int) < (l.length : Int) := by omega
  go_enter Try.func20, Try.ntmps20
  go_upto_region 7 with (refine wpList_appendAll rfl _ _ _ rfl (w.heap.size + 2) 45 1 16 i0 (.complex .f64 0 0) Try.underlying39 hi hz0 hz1 hz2 rfl (by decide) (.slice none 0 0) 0 [] (World.ownsRow_nil _ _ _ _) (by simp) _ l.length (l.map mkC) (by exact HV.out) rfl rfl (by intro u hu; obtain ⟨z, _, rfl⟩ := List.mem_map.1 hu; rfl) (by simp [maxLen]; omega) (by omega) ?_; intro v2 wc hown2 hgr2 hat2)
  rw [Nat.zero_add, List.nil_append] at hown2
  have hbx := below_of_grown (show World.grownBy _ wc none from hgr2)
  obtain ⟨a2, c2, hv2⟩ := (IsSl.of_own hown2).form
  subst hv2
  obtain ⟨g, x, hidx, hB, hg, hcell, hx, hfr, hob, hst⟩ := own_at1 Try.underlying39 hi hz1 hown2 hkl
  obtain ⟨z, hz, rfl⟩ := map_getElem? hx
  have p0 := mat_at ((hbx.block _ (by simp; omega)).trans (alloc2_0 _ _ _))
  have p1 := mat_at ((hbx.block _ (by simp)).trans (alloc2_1 _ _ _))
  obtain ⟨c00, c01, c02, f00, f01, f02⟩ := p0
  obtain ⟨c10, c11, c12, f10, f11, f12⟩ := p1
  have hzd : (l.map ck).getD k (0, 0) = ck z := by simp [List.getD, hz]
  rw [hzd] at HS
  have HST := hid hst
  have HOWN := hid hown2
  have HBW := hid (below_alloc2 hbx)
  clear hx hz hob hst hown2 hbx hgr2 hat2 hzd HV HL
  go_wp2_with (first | (go_at_call 48; refine (radd_any _ _ _ _ _).mono ?_; rintro e w' ⟨v, n1, rfl, rfl, x1, x2, rfl, hx12⟩; have HX12 := hid hx12; clear hx12) | (go_at_call 49; refine (rfin_any _ _ _).mono ?_; rintro e w' ⟨v, n2, rfl, rfl, rfl⟩; rw [HX12.out]))
  all_goals (try simp only [Exit.inBlock, Exit.then])
  · rename_i t
    have hE := HS.out.trans (if_neg (by have t' := t; revert t'; simp [ck]))
    refine bodyPost_ret (v := .tuple #[matV 0 0 (.slice none 0 0), .int .i64 6]) ?_ rfl ⟨0, 0, _, 6, [], rfl, World.ownsRow_nil _ _ _ _, hE.symm,
      (((below_n ((below_n HBW.out _).setCell (by show _ ≤ g; omega) _) _).setCell (Nat.le_succ _) _).setCell (Nat.le_succ _) _).setCell (Nat.le_succ _) _⟩
    rw [results_cell_tmp rfl]; go_simp
  · rename_i t
    have hE := HS.out.trans (if_pos (by have t' := t; revert t'; simp [ck]))
    refine bodyPost_ret (v := .tuple #[matV r c (.slice a2 l.length c2), .int .i64 0]) ?_ rfl ⟨r, c, _, 0, l.set k (x1, x2), rfl, ?_, ?_,
      (((below_n ((below_n HBW.out _).setCell (by show _ ≤ g; omega) _) _).setCell (Nat.le_succ _) _).setCell (Nat.le_succ _) _).setCell (Nat.le_succ _) _⟩
    · rw [results_cell_tmp rfl]; go_simp
    · rw [List.length_set, List.map_set]
      have h1 := (HST.out (wc.drewN n1) HOWN.out (mkC (x1, x2))).1
      exact World.ownsRow.mono (ownsRow_setCell_below (ownsRow_setCell_below (ownsRow_setCell_below h1 (Nat.lt_succ_self _) _) (Nat.lt_succ_self _) _) (Nat.lt_succ_self _) _) (by omega)
    · rw [hE, List.map_set, show ck (x1, x2) = cadd (ck z) (ck y) from HX12.out]
end Go.Proofs.Ytlgfpfjfoajjbaa
