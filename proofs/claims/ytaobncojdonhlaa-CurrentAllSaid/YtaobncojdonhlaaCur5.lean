/- Walk of gridworkref21.wrong. -/
import Derived.Test.YtaobncojdonhlaaCur4E
namespace Go.Proofs.Ytaobncojdonhlaa
open Go.RowKit

theorem rn_cells {w : World} {g : Nat} {l : List El} (h : RN w (.pointer (some ⟨g, 0, none⟩)) l) : ∃ v, w.cell? ⟨g, 0, none⟩ = some v ∧ w.cell? ⟨g, 1, none⟩ = some (.bool true) := by
  rcases h with ⟨h, _⟩ | ⟨g2, v, h, h0, h1, _⟩
  · cases h
  · cases h
    exact ⟨v, h0, h1⟩
theorem fin_app (V A : List Cx) : finAll (V ++ A) = (finAll V && finAll A) := by unfold finAll; rw [List.all_append]
theorem wrong_n (v1 v2 : Value) (l : List El) (o : Nat) (V A : List Cx) (w : World) :
    Calls Try.prog 35 #[.pointer none, .agg #[.float .f64 o, v1, v2]] w (RetI (chkS true l V A) w) := by
  have hbw := (Below.refl w.heap.size w).alloc (Nat.le_refl _) (.cells #[.float .f64 o, v1, v2] 41)
  have HBW := hid hbw
  clear hbw
  go_enter Try.func35, Try.ntmps35
  go_upto_region 1 with fail
  generalize w.alloc (.cells #[.float .f64 o, v1, v2] 41) = w1 at *
  go_wp2_with fail
  (try rw [Exit.noGoto_ret])
  go_ret
  exact ⟨by rw [chk_1 rfl]; rfl, HBW.out⟩
set_option maxRecDepth 100000 in
set_option maxHeartbeats 2000000 in
theorem wrong_v (g : Nat) (l : List El) (o : Nat) (v1 v2 : Value) (V A : List Cx) (w : World) (hp : RN w (.pointer (some ⟨g, 0, none⟩)) l) (hl : l.length ≤ 100000)
    (h1 : IsSl w 1 v1 V.length (V.map mkC)) (h2 : IsSl w 1 v2 A.length (A.map mkC)) (hlv : V.length * 16 ≤ 140737488351232) (hla : A.length * 16 ≤ 140737488351232) (hv : ¬ V.length = (nds l).length) :
    Calls Try.prog 35 #[.pointer (some ⟨g, 0, none⟩), .agg #[.float .f64 o, v1, v2]] w (RetI (chkS false l V A) w) := by
  obtain ⟨a1, c1, rfl⟩ := h1.form
  obtain ⟨a2, c2, rfl⟩ := h2.form
  obtain ⟨i0, hi, hz0, hz1, hz2⟩ := info_parts infoC
  have hbw := (Below.refl w.heap.size w).alloc (Nat.le_refl _) (.cells #[.float .f64 o, .slice a1 V.length c1, .slice a2 A.length c2] 41)
  have hs0 := heap_alloc_new w (.cells #[.float .f64 o, .slice a1 V.length c1, .slice a2 A.length c2] 41)
  have HP := hid (hp.below' hbw)
  have HV := hid (h1.below hbw (Nat.le_refl _))
  have HA := hid (h2.below hbw (Nat.le_refl _))
  have HBW := hid hbw
  have HS := hid hs0
  have HL := hid hl
  clear h1 h2 hbw hs0 hl
  obtain ⟨q1, q2, q3⟩ := bne_of hv
  have HLV := hid hv
  clear hv
  go_enter Try.func35, Try.ntmps35
  go_upto_region 1 with fail
  generalize w.alloc (.cells #[.float .f64 o, .slice a1 V.length c1, .slice a2 A.length c2] 41) = w1 at *
  have hsc := (block_cells HS.out).1
  have s0 := hsc 0 _ rfl
  have s1 := hsc 1 _ rfl
  have s2 := hsc 2 _ rfl
  clear hsc
  obtain ⟨vg, g0, g1⟩ := rn_cells HP.out
  go_upto_region 3 with fail
  refine wp_region_held_drew (S := fun w' => Below w1.heap.size w1 w' ∧ w'.cell? ⟨w.heap.size, 0, none⟩ = some (.float .f64 o) ∧ w'.cell? ⟨w.heap.size, 1, none⟩ = some (.slice a1 V.length c1) ∧ w'.cell? ⟨w.heap.size, 2, none⟩ = some (.slice a2 A.length c2)) (by kernel_rfl) ⟨(Below.refl _ _).drew, s0, s1, s2⟩ (fun hHeld => ?_)
  refine wpAnyH_take (i := 0) (v := .pointer (some ⟨w.heap.size, 1, none⟩)) rfl (by kernel_rfl) (by kernel_rfl) (by kernel_rfl) (fun _ _ _ h => h) (Or.inl ⟨by kernel_rfl, ?_⟩) hHeld ?_
  · intro w' hSw
    obtain ⟨-, z0, z1, z2⟩ := hSw
    go_simp
  simp only [Act.put, List.getElem_toArray, List.getElem_cons_zero, List.getElem_cons_succ, List.setIfInBounds_toArray, List.set_cons_zero, List.set_cons_succ]
  refine wpAnyH_take (i := 1) (v := .slice a1 V.length c1) rfl (by kernel_rfl) (by kernel_rfl) (by kernel_rfl) (fun _ _ _ h => h) (Or.inl ⟨by kernel_rfl, ?_⟩) hHeld ?_
  · intro w' hSw
    obtain ⟨-, z0, z1, z2⟩ := hSw
    go_simp
  simp only [Act.put, List.getElem_toArray, List.getElem_cons_zero, List.getElem_cons_succ, List.setIfInBounds_toArray, List.set_cons_zero, List.set_cons_succ]
  refine wpAnyH_take (i := 2) (v := .int .i64 V.length) rfl (by kernel_rfl) (by kernel_rfl) (by kernel_rfl) (fun _ _ _ h => h) (Or.inl ⟨by kernel_rfl, ?_⟩) hHeld ?_
  · intro w' hSw
    obtain ⟨-, z0, z1, z2⟩ := hSw
    go_simp
  simp only [Act.put, List.getElem_toArray, List.getElem_cons_zero, List.getElem_cons_succ, List.setIfInBounds_toArray, List.set_cons_zero, List.set_cons_succ]
  refine wpAnyH_take (i := 3) (v := .pointer (some ⟨g, 0, none⟩)) rfl (by kernel_rfl) (by kernel_rfl) (by kernel_rfl) (fun _ _ _ h => h) (Or.inl ⟨by kernel_rfl, ?_⟩) hHeld ?_
  · intro w' hSw
    obtain ⟨-, z0, z1, z2⟩ := hSw
    go_simp
  simp only [Act.put, List.getElem_toArray, List.getElem_cons_zero, List.getElem_cons_succ, List.setIfInBounds_toArray, List.set_cons_zero, List.set_cons_succ]
  refine wpAnyH_ready (rs := [4]) (by kernel_rfl) (by simp) (AllReadyH.cons rfl (fun K hK => ?_) AllReadyH.nil)
  go_simp
  go_at_call 23
  refine (rnodes_any _ l _ (HP.out.below (Below.refl _ _).drew (Nat.le_refl _)) HL.out).mono ?_
  rintro e wa ⟨vn, xs, rfl, hown, rfl, hb⟩
  obtain ⟨an, cn, rfl⟩ := (IsSl.of_own hown).form
  have hb2 : Below w1.heap.size w1 wa := below_drew_left hb
  have hq := block_cells (heap_later2 hb2 HS.out)
  refine hK.out _ _ ⟨hb2, hq.1 0 _ rfl, hq.1 1 _ rfl, hq.1 2 _ rfl⟩ (fun hHeld => ?_)
  clear hK K hown hb hq
  try simp only [Act.put, List.getElem_toArray, List.getElem_cons_zero, List.getElem_cons_succ, List.setIfInBounds_toArray, List.set_cons_zero, List.set_cons_succ]
  refine wpAnyH_take (i := 5) (v := .int .i64 (nds l).length) rfl (by kernel_rfl) (by kernel_rfl) (by kernel_rfl) (fun _ _ _ h => h) (Or.inl ⟨by kernel_rfl, ?_⟩) hHeld ?_
  · intro w' hSw
    obtain ⟨-, z0, z1, z2⟩ := hSw
    go_simp
  simp only [Act.put, List.getElem_toArray, List.getElem_cons_zero, List.getElem_cons_succ, List.setIfInBounds_toArray, List.set_cons_zero, List.set_cons_succ]
  refine wpAnyH_take (i := 6) (v := .bool true) rfl (by kernel_rfl) (by kernel_rfl) (by kernel_rfl) (fun _ _ _ h => h) (Or.inl ⟨by kernel_rfl, ?_⟩) hHeld ?_
  · intro w' hSw
    obtain ⟨-, z0, z1, z2⟩ := hSw
    go_simp
  simp only [Act.put, List.getElem_toArray, List.getElem_cons_zero, List.getElem_cons_succ, List.setIfInBounds_toArray, List.set_cons_zero, List.set_cons_succ]
  refine wpAnyH_take (i := 7) (v := .bool true) rfl (by kernel_rfl) (by kernel_rfl) (by kernel_rfl) (fun _ _ _ h => h) (Or.inl ⟨by kernel_rfl, ?_⟩) hHeld ?_
  · intro w' hSw
    obtain ⟨-, z0, z1, z2⟩ := hSw
    go_simp
  simp only [Act.put, List.getElem_toArray, List.getElem_cons_zero, List.getElem_cons_succ, List.setIfInBounds_toArray, List.set_cons_zero, List.set_cons_succ]
  refine wpAnyH_take (i := 8) (v := undef) rfl (by kernel_rfl) (by kernel_rfl) (by kernel_rfl) (fun _ _ _ h => h) (Or.inr ⟨by kernel_rfl, rfl⟩) hHeld ?_
  simp only [Act.put, List.getElem_toArray, List.getElem_cons_zero, List.getElem_cons_succ, List.setIfInBounds_toArray, List.set_cons_zero, List.set_cons_succ]
  refine wpAnyH_take (i := 9) (v := undef) rfl (by kernel_rfl) (by kernel_rfl) (by kernel_rfl) (fun _ _ _ h => h) (Or.inr ⟨by kernel_rfl, rfl⟩) hHeld ?_
  simp only [Act.put, List.getElem_toArray, List.getElem_cons_zero, List.getElem_cons_succ, List.setIfInBounds_toArray, List.set_cons_zero, List.set_cons_succ]
  refine wpAnyH_take (i := 10) (v := undef) rfl (by kernel_rfl) (by kernel_rfl) (by kernel_rfl) (fun _ _ _ h => h) (Or.inr ⟨by kernel_rfl, rfl⟩) hHeld ?_
  simp only [Act.put, List.getElem_toArray, List.getElem_cons_zero, List.getElem_cons_succ, List.setIfInBounds_toArray, List.set_cons_zero, List.set_cons_succ]
  refine wpAnyH_take (i := 11) (v := undef) rfl (by kernel_rfl) (by kernel_rfl) (by kernel_rfl) (fun _ _ _ h => h) (Or.inr ⟨by kernel_rfl, rfl⟩) hHeld ?_
  simp only [Act.put, List.getElem_toArray, List.getElem_cons_zero, List.getElem_cons_succ, List.setIfInBounds_toArray, List.set_cons_zero, List.set_cons_succ]
  refine wpAnyH_take (i := 12) (v := undef) rfl (by kernel_rfl) (by kernel_rfl) (by kernel_rfl) (fun _ _ _ h => h) (Or.inr ⟨by kernel_rfl, rfl⟩) hHeld ?_
  simp only [Act.put, List.getElem_toArray, List.getElem_cons_zero, List.getElem_cons_succ, List.setIfInBounds_toArray, List.set_cons_zero, List.set_cons_succ]
  refine wpAnyH_take (i := 13) (v := undef) rfl (by kernel_rfl) (by kernel_rfl) (by kernel_rfl) (fun _ _ _ h => h) (Or.inr ⟨by kernel_rfl, rfl⟩) hHeld ?_
  simp only [Act.put, List.getElem_toArray, List.getElem_cons_zero, List.getElem_cons_succ, List.setIfInBounds_toArray, List.set_cons_zero, List.set_cons_succ]
  refine wpAnyH_take (i := 14) (v := undef) rfl (by kernel_rfl) (by kernel_rfl) (by kernel_rfl) (fun _ _ _ h => h) (Or.inr ⟨by kernel_rfl, rfl⟩) hHeld ?_
  simp only [Act.put, List.getElem_toArray, List.getElem_cons_zero, List.getElem_cons_succ, List.setIfInBounds_toArray, List.set_cons_zero, List.set_cons_succ]
  refine wpAnyH_take (i := 15) (v := .bool true) rfl (by kernel_rfl) (by kernel_rfl) (by kernel_rfl) (fun _ _ _ h => h) (Or.inl ⟨by kernel_rfl, ?_⟩) hHeld ?_
  · intro w' hSw
    obtain ⟨-, z0, z1, z2⟩ := hSw
    go_simp
  simp only [Act.put, List.getElem_toArray, List.getElem_cons_zero, List.getElem_cons_succ, List.setIfInBounds_toArray, List.set_cons_zero, List.set_cons_succ]
  refine wpAnyH_done (by kernel_rfl) ?_ _
  have HB2 := hid (below_next HBW.out hb2)
  (try simp only [Exit.inBlock, Exit.then])
  go_wp2_with fail
  (try rw [Exit.noGoto_ret])
  go_ret
  exact ⟨by rw [chk_4 rfl (fun h => HLV.out h.1)]; rfl, HB2.out⟩
set_option maxRecDepth 100000 in
set_option maxHeartbeats 2000000 in
theorem wrong_a (g : Nat) (l : List El) (o : Nat) (v1 v2 : Value) (V A : List Cx) (w : World) (hp : RN w (.pointer (some ⟨g, 0, none⟩)) l) (hl : l.length ≤ 100000)
    (h1 : IsSl w 1 v1 V.length (V.map mkC)) (h2 : IsSl w 1 v2 A.length (A.map mkC)) (hlv : V.length * 16 ≤ 140737488351232) (hla : A.length * 16 ≤ 140737488351232) (hv : V.length = (nds l).length) (ha : ¬ A.length = (brs l).length) :
    Calls Try.prog 35 #[.pointer (some ⟨g, 0, none⟩), .agg #[.float .f64 o, v1, v2]] w (RetI (chkS false l V A) w) := by
  obtain ⟨a1, c1, rfl⟩ := h1.form
  obtain ⟨a2, c2, rfl⟩ := h2.form
  obtain ⟨i0, hi, hz0, hz1, hz2⟩ := info_parts infoC
  have hbw := (Below.refl w.heap.size w).alloc (Nat.le_refl _) (.cells #[.float .f64 o, .slice a1 V.length c1, .slice a2 A.length c2] 41)
  have hs0 := heap_alloc_new w (.cells #[.float .f64 o, .slice a1 V.length c1, .slice a2 A.length c2] 41)
  have HP := hid (hp.below' hbw)
  have HV := hid (h1.below hbw (Nat.le_refl _))
  have HA := hid (h2.below hbw (Nat.le_refl _))
  have HBW := hid hbw
  have HS := hid hs0
  have HL := hid hl
  clear h1 h2 hbw hs0 hl
  obtain ⟨q1, q2, q3⟩ := beq_of hv
  obtain ⟨r1, r2, r3⟩ := bne_of ha
  have HLA := hid ha
  clear hv ha
  go_enter Try.func35, Try.ntmps35
  go_upto_region 1 with fail
  generalize w.alloc (.cells #[.float .f64 o, .slice a1 V.length c1, .slice a2 A.length c2] 41) = w1 at *
  have hsc := (block_cells HS.out).1
  have s0 := hsc 0 _ rfl
  have s1 := hsc 1 _ rfl
  have s2 := hsc 2 _ rfl
  clear hsc
  obtain ⟨vg, g0, g1⟩ := rn_cells HP.out
  go_upto_region 3 with fail
  refine wp_region_held_drew (S := fun w' => Below w1.heap.size w1 w' ∧ w'.cell? ⟨w.heap.size, 0, none⟩ = some (.float .f64 o) ∧ w'.cell? ⟨w.heap.size, 1, none⟩ = some (.slice a1 V.length c1) ∧ w'.cell? ⟨w.heap.size, 2, none⟩ = some (.slice a2 A.length c2)) (by kernel_rfl) ⟨(Below.refl _ _).drew, s0, s1, s2⟩ (fun hHeld => ?_)
  refine wpAnyH_take (i := 0) (v := .pointer (some ⟨w.heap.size, 1, none⟩)) rfl (by kernel_rfl) (by kernel_rfl) (by kernel_rfl) (fun _ _ _ h => h) (Or.inl ⟨by kernel_rfl, ?_⟩) hHeld ?_
  · intro w' hSw
    obtain ⟨-, z0, z1, z2⟩ := hSw
    go_simp
  simp only [Act.put, List.getElem_toArray, List.getElem_cons_zero, List.getElem_cons_succ, List.setIfInBounds_toArray, List.set_cons_zero, List.set_cons_succ]
  refine wpAnyH_take (i := 1) (v := .slice a1 V.length c1) rfl (by kernel_rfl) (by kernel_rfl) (by kernel_rfl) (fun _ _ _ h => h) (Or.inl ⟨by kernel_rfl, ?_⟩) hHeld ?_
  · intro w' hSw
    obtain ⟨-, z0, z1, z2⟩ := hSw
    go_simp
  simp only [Act.put, List.getElem_toArray, List.getElem_cons_zero, List.getElem_cons_succ, List.setIfInBounds_toArray, List.set_cons_zero, List.set_cons_succ]
  refine wpAnyH_take (i := 2) (v := .int .i64 V.length) rfl (by kernel_rfl) (by kernel_rfl) (by kernel_rfl) (fun _ _ _ h => h) (Or.inl ⟨by kernel_rfl, ?_⟩) hHeld ?_
  · intro w' hSw
    obtain ⟨-, z0, z1, z2⟩ := hSw
    go_simp
  simp only [Act.put, List.getElem_toArray, List.getElem_cons_zero, List.getElem_cons_succ, List.setIfInBounds_toArray, List.set_cons_zero, List.set_cons_succ]
  refine wpAnyH_take (i := 3) (v := .pointer (some ⟨g, 0, none⟩)) rfl (by kernel_rfl) (by kernel_rfl) (by kernel_rfl) (fun _ _ _ h => h) (Or.inl ⟨by kernel_rfl, ?_⟩) hHeld ?_
  · intro w' hSw
    obtain ⟨-, z0, z1, z2⟩ := hSw
    go_simp
  simp only [Act.put, List.getElem_toArray, List.getElem_cons_zero, List.getElem_cons_succ, List.setIfInBounds_toArray, List.set_cons_zero, List.set_cons_succ]
  refine wpAnyH_ready (rs := [4]) (by kernel_rfl) (by simp) (AllReadyH.cons rfl (fun K hK => ?_) AllReadyH.nil)
  go_simp
  go_at_call 23
  refine (rnodes_any _ l _ (HP.out.below (Below.refl _ _).drew (Nat.le_refl _)) HL.out).mono ?_
  rintro e wa ⟨vn, xs, rfl, hown, rfl, hb⟩
  obtain ⟨an, cn, rfl⟩ := (IsSl.of_own hown).form
  have hb2 : Below w1.heap.size w1 wa := below_drew_left hb
  have hq := block_cells (heap_later2 hb2 HS.out)
  refine hK.out _ _ ⟨hb2, hq.1 0 _ rfl, hq.1 1 _ rfl, hq.1 2 _ rfl⟩ (fun hHeld => ?_)
  clear hK K hown hb hq
  try simp only [Act.put, List.getElem_toArray, List.getElem_cons_zero, List.getElem_cons_succ, List.setIfInBounds_toArray, List.set_cons_zero, List.set_cons_succ]
  refine wpAnyH_take (i := 5) (v := .int .i64 (nds l).length) rfl (by kernel_rfl) (by kernel_rfl) (by kernel_rfl) (fun _ _ _ h => h) (Or.inl ⟨by kernel_rfl, ?_⟩) hHeld ?_
  · intro w' hSw
    obtain ⟨-, z0, z1, z2⟩ := hSw
    go_simp
  simp only [Act.put, List.getElem_toArray, List.getElem_cons_zero, List.getElem_cons_succ, List.setIfInBounds_toArray, List.set_cons_zero, List.set_cons_succ]
  refine wpAnyH_take (i := 6) (v := .bool false) rfl (by kernel_rfl) (by kernel_rfl) (by kernel_rfl) (fun _ _ _ h => h) (Or.inl ⟨by kernel_rfl, ?_⟩) hHeld ?_
  · intro w' hSw
    obtain ⟨-, z0, z1, z2⟩ := hSw
    go_simp
  simp only [Act.put, List.getElem_toArray, List.getElem_cons_zero, List.getElem_cons_succ, List.setIfInBounds_toArray, List.set_cons_zero, List.set_cons_succ]
  refine wpAnyH_take (i := 7) (v := .bool false) rfl (by kernel_rfl) (by kernel_rfl) (by kernel_rfl) (fun _ _ _ h => h) (Or.inl ⟨by kernel_rfl, ?_⟩) hHeld ?_
  · intro w' hSw
    obtain ⟨-, z0, z1, z2⟩ := hSw
    go_simp
  simp only [Act.put, List.getElem_toArray, List.getElem_cons_zero, List.getElem_cons_succ, List.setIfInBounds_toArray, List.set_cons_zero, List.set_cons_succ]
  refine wpAnyH_take (i := 8) (v := .pointer (some ⟨w.heap.size, 2, none⟩)) rfl (by kernel_rfl) (by kernel_rfl) (by kernel_rfl) (fun _ _ _ h => h) (Or.inl ⟨by kernel_rfl, ?_⟩) hHeld ?_
  · intro w' hSw
    obtain ⟨-, z0, z1, z2⟩ := hSw
    go_simp
  simp only [Act.put, List.getElem_toArray, List.getElem_cons_zero, List.getElem_cons_succ, List.setIfInBounds_toArray, List.set_cons_zero, List.set_cons_succ]
  refine wpAnyH_take (i := 9) (v := .slice a2 A.length c2) rfl (by kernel_rfl) (by kernel_rfl) (by kernel_rfl) (fun _ _ _ h => h) (Or.inl ⟨by kernel_rfl, ?_⟩) hHeld ?_
  · intro w' hSw
    obtain ⟨-, z0, z1, z2⟩ := hSw
    go_simp
  simp only [Act.put, List.getElem_toArray, List.getElem_cons_zero, List.getElem_cons_succ, List.setIfInBounds_toArray, List.set_cons_zero, List.set_cons_succ]
  refine wpAnyH_take (i := 10) (v := .int .i64 A.length) rfl (by kernel_rfl) (by kernel_rfl) (by kernel_rfl) (fun _ _ _ h => h) (Or.inl ⟨by kernel_rfl, ?_⟩) hHeld ?_
  · intro w' hSw
    obtain ⟨-, z0, z1, z2⟩ := hSw
    go_simp
  simp only [Act.put, List.getElem_toArray, List.getElem_cons_zero, List.getElem_cons_succ, List.setIfInBounds_toArray, List.set_cons_zero, List.set_cons_succ]
  refine wpAnyH_take (i := 11) (v := .pointer (some ⟨g, 0, none⟩)) rfl (by kernel_rfl) (by kernel_rfl) (by kernel_rfl) (fun _ _ _ h => h) (Or.inl ⟨by kernel_rfl, ?_⟩) hHeld ?_
  · intro w' hSw
    obtain ⟨-, z0, z1, z2⟩ := hSw
    go_simp
  simp only [Act.put, List.getElem_toArray, List.getElem_cons_zero, List.getElem_cons_succ, List.setIfInBounds_toArray, List.set_cons_zero, List.set_cons_succ]
  refine wpAnyH_ready (rs := [12]) (by kernel_rfl) (by simp) (AllReadyH.cons rfl (fun K hK => ?_) AllReadyH.nil)
  go_simp
  go_at_call 51
  refine (rbranches_any _ l _ (HP.out.below hb2 (Nat.le_refl _)) HL.out).mono ?_
  rintro e w2 ⟨vb, xs, rfl, hown, rfl, hb⟩
  obtain ⟨an4, cn4, rfl⟩ := (IsSl.of_own hown).form
  have hb4 : Below w1.heap.size w1 w2 := below_next hb2 hb
  have hq := block_cells (heap_later2 hb4 HS.out)
  refine hK.out _ _ ⟨hb4, hq.1 0 _ rfl, hq.1 1 _ rfl, hq.1 2 _ rfl⟩ (fun hHeld => ?_)
  clear hK K hown hb hq
  try simp only [Act.put, List.getElem_toArray, List.getElem_cons_zero, List.getElem_cons_succ, List.setIfInBounds_toArray, List.set_cons_zero, List.set_cons_succ]
  refine wpAnyH_take (i := 13) (v := .int .i64 (brs l).length) rfl (by kernel_rfl) (by kernel_rfl) (by kernel_rfl) (fun _ _ _ h => h) (Or.inl ⟨by kernel_rfl, ?_⟩) hHeld ?_
  · intro w' hSw
    obtain ⟨-, z0, z1, z2⟩ := hSw
    go_simp
  simp only [Act.put, List.getElem_toArray, List.getElem_cons_zero, List.getElem_cons_succ, List.setIfInBounds_toArray, List.set_cons_zero, List.set_cons_succ]
  refine wpAnyH_take (i := 14) (v := .bool true) rfl (by kernel_rfl) (by kernel_rfl) (by kernel_rfl) (fun _ _ _ h => h) (Or.inl ⟨by kernel_rfl, ?_⟩) hHeld ?_
  · intro w' hSw
    obtain ⟨-, z0, z1, z2⟩ := hSw
    go_simp
  simp only [Act.put, List.getElem_toArray, List.getElem_cons_zero, List.getElem_cons_succ, List.setIfInBounds_toArray, List.set_cons_zero, List.set_cons_succ]
  refine wpAnyH_take (i := 15) (v := .bool true) rfl (by kernel_rfl) (by kernel_rfl) (by kernel_rfl) (fun _ _ _ h => h) (Or.inl ⟨by kernel_rfl, ?_⟩) hHeld ?_
  · intro w' hSw
    obtain ⟨-, z0, z1, z2⟩ := hSw
    go_simp
  simp only [Act.put, List.getElem_toArray, List.getElem_cons_zero, List.getElem_cons_succ, List.setIfInBounds_toArray, List.set_cons_zero, List.set_cons_succ]
  refine wpAnyH_done (by kernel_rfl) ?_ _
  clear hHeld
  have HB2 := hid (below_next HBW.out hb4)
  have HV2 := hid (HV.out.below hb4 (Nat.le_refl _))
  have HA2 := hid (HA.out.below hb4 (Nat.le_refl _))
  have HS2 := hid (heap_later2 hb4 HS.out)
  clear hb2 hb4 s0 s1 s2
  (try simp only [Exit.inBlock, Exit.then])
  go_wp2_with fail
  (try rw [Exit.noGoto_ret])
  go_ret
  exact ⟨by rw [chk_4 rfl (fun h => HLA.out h.2)]; rfl, HB2.out⟩
set_option maxRecDepth 100000 in
set_option maxHeartbeats 2000000 in
theorem wrong_e (g : Nat) (l : List El) (o : Nat) (v1 v2 : Value) (V A : List Cx) (w : World) (hp : RN w (.pointer (some ⟨g, 0, none⟩)) l) (hl : l.length ≤ 100000)
    (h1 : IsSl w 1 v1 V.length (V.map mkC)) (h2 : IsSl w 1 v2 A.length (A.map mkC)) (hlv : V.length * 16 ≤ 140737488351232) (hla : A.length * 16 ≤ 140737488351232) (hv : V.length = (nds l).length) (ha : A.length = (brs l).length) :
    Calls Try.prog 35 #[.pointer (some ⟨g, 0, none⟩), .agg #[.float .f64 o, v1, v2]] w (RetI (chkS false l V A) w) := by
  replace hlv : V.length * 16 ≤ 70368744175616 := by have := nds_len l; omega
  replace hla : A.length * 16 ≤ 70368744175616 := by have := brs_len l; omega
  obtain ⟨a1, c1, rfl⟩ := h1.form
  obtain ⟨a2, c2, rfl⟩ := h2.form
  obtain ⟨i0, hi, hz0, hz1, hz2⟩ := info_parts infoC
  have hbw := (Below.refl w.heap.size w).alloc (Nat.le_refl _) (.cells #[.float .f64 o, .slice a1 V.length c1, .slice a2 A.length c2] 41)
  have hs0 := heap_alloc_new w (.cells #[.float .f64 o, .slice a1 V.length c1, .slice a2 A.length c2] 41)
  have HP := hid (hp.below' hbw)
  have HV := hid (h1.below hbw (Nat.le_refl _))
  have HA := hid (h2.below hbw (Nat.le_refl _))
  have HBW := hid hbw
  have HS := hid hs0
  have HL := hid hl
  clear h1 h2 hbw hs0 hl
  obtain ⟨q1, q2, q3⟩ := beq_of hv
  obtain ⟨r1, r2, r3⟩ := beq_of ha
  have HLA := hid ha
  have HLV := hid hv
  clear hv ha
  go_enter Try.func35, Try.ntmps35
  go_upto_region 1 with fail
  generalize w.alloc (.cells #[.float .f64 o, .slice a1 V.length c1, .slice a2 A.length c2] 41) = w1 at *
  have hsc := (block_cells HS.out).1
  have s0 := hsc 0 _ rfl
  have s1 := hsc 1 _ rfl
  have s2 := hsc 2 _ rfl
  clear hsc
  obtain ⟨vg, g0, g1⟩ := rn_cells HP.out
  go_upto_region 3 with fail
  refine wp_region_held_drew (S := fun w' => Below w1.heap.size w1 w' ∧ w'.cell? ⟨w.heap.size, 0, none⟩ = some (.float .f64 o) ∧ w'.cell? ⟨w.heap.size, 1, none⟩ = some (.slice a1 V.length c1) ∧ w'.cell? ⟨w.heap.size, 2, none⟩ = some (.slice a2 A.length c2)) (by kernel_rfl) ⟨(Below.refl _ _).drew, s0, s1, s2⟩ (fun hHeld => ?_)
  refine wpAnyH_take (i := 0) (v := .pointer (some ⟨w.heap.size, 1, none⟩)) rfl (by kernel_rfl) (by kernel_rfl) (by kernel_rfl) (fun _ _ _ h => h) (Or.inl ⟨by kernel_rfl, ?_⟩) hHeld ?_
  · intro w' hSw
    obtain ⟨-, z0, z1, z2⟩ := hSw
    go_simp
  simp only [Act.put, List.getElem_toArray, List.getElem_cons_zero, List.getElem_cons_succ, List.setIfInBounds_toArray, List.set_cons_zero, List.set_cons_succ]
  refine wpAnyH_take (i := 1) (v := .slice a1 V.length c1) rfl (by kernel_rfl) (by kernel_rfl) (by kernel_rfl) (fun _ _ _ h => h) (Or.inl ⟨by kernel_rfl, ?_⟩) hHeld ?_
  · intro w' hSw
    obtain ⟨-, z0, z1, z2⟩ := hSw
    go_simp
  simp only [Act.put, List.getElem_toArray, List.getElem_cons_zero, List.getElem_cons_succ, List.setIfInBounds_toArray, List.set_cons_zero, List.set_cons_succ]
  refine wpAnyH_take (i := 2) (v := .int .i64 V.length) rfl (by kernel_rfl) (by kernel_rfl) (by kernel_rfl) (fun _ _ _ h => h) (Or.inl ⟨by kernel_rfl, ?_⟩) hHeld ?_
  · intro w' hSw
    obtain ⟨-, z0, z1, z2⟩ := hSw
    go_simp
  simp only [Act.put, List.getElem_toArray, List.getElem_cons_zero, List.getElem_cons_succ, List.setIfInBounds_toArray, List.set_cons_zero, List.set_cons_succ]
  refine wpAnyH_take (i := 3) (v := .pointer (some ⟨g, 0, none⟩)) rfl (by kernel_rfl) (by kernel_rfl) (by kernel_rfl) (fun _ _ _ h => h) (Or.inl ⟨by kernel_rfl, ?_⟩) hHeld ?_
  · intro w' hSw
    obtain ⟨-, z0, z1, z2⟩ := hSw
    go_simp
  simp only [Act.put, List.getElem_toArray, List.getElem_cons_zero, List.getElem_cons_succ, List.setIfInBounds_toArray, List.set_cons_zero, List.set_cons_succ]
  refine wpAnyH_ready (rs := [4]) (by kernel_rfl) (by simp) (AllReadyH.cons rfl (fun K hK => ?_) AllReadyH.nil)
  go_simp
  go_at_call 23
  refine (rnodes_any _ l _ (HP.out.below (Below.refl _ _).drew (Nat.le_refl _)) HL.out).mono ?_
  rintro e wa ⟨vn, xs, rfl, hown, rfl, hb⟩
  obtain ⟨an, cn, rfl⟩ := (IsSl.of_own hown).form
  have hb2 : Below w1.heap.size w1 wa := below_drew_left hb
  have hq := block_cells (heap_later2 hb2 HS.out)
  refine hK.out _ _ ⟨hb2, hq.1 0 _ rfl, hq.1 1 _ rfl, hq.1 2 _ rfl⟩ (fun hHeld => ?_)
  clear hK K hown hb hq
  try simp only [Act.put, List.getElem_toArray, List.getElem_cons_zero, List.getElem_cons_succ, List.setIfInBounds_toArray, List.set_cons_zero, List.set_cons_succ]
  refine wpAnyH_take (i := 5) (v := .int .i64 (nds l).length) rfl (by kernel_rfl) (by kernel_rfl) (by kernel_rfl) (fun _ _ _ h => h) (Or.inl ⟨by kernel_rfl, ?_⟩) hHeld ?_
  · intro w' hSw
    obtain ⟨-, z0, z1, z2⟩ := hSw
    go_simp
  simp only [Act.put, List.getElem_toArray, List.getElem_cons_zero, List.getElem_cons_succ, List.setIfInBounds_toArray, List.set_cons_zero, List.set_cons_succ]
  refine wpAnyH_take (i := 6) (v := .bool false) rfl (by kernel_rfl) (by kernel_rfl) (by kernel_rfl) (fun _ _ _ h => h) (Or.inl ⟨by kernel_rfl, ?_⟩) hHeld ?_
  · intro w' hSw
    obtain ⟨-, z0, z1, z2⟩ := hSw
    go_simp
  simp only [Act.put, List.getElem_toArray, List.getElem_cons_zero, List.getElem_cons_succ, List.setIfInBounds_toArray, List.set_cons_zero, List.set_cons_succ]
  refine wpAnyH_take (i := 7) (v := .bool false) rfl (by kernel_rfl) (by kernel_rfl) (by kernel_rfl) (fun _ _ _ h => h) (Or.inl ⟨by kernel_rfl, ?_⟩) hHeld ?_
  · intro w' hSw
    obtain ⟨-, z0, z1, z2⟩ := hSw
    go_simp
  simp only [Act.put, List.getElem_toArray, List.getElem_cons_zero, List.getElem_cons_succ, List.setIfInBounds_toArray, List.set_cons_zero, List.set_cons_succ]
  refine wpAnyH_take (i := 8) (v := .pointer (some ⟨w.heap.size, 2, none⟩)) rfl (by kernel_rfl) (by kernel_rfl) (by kernel_rfl) (fun _ _ _ h => h) (Or.inl ⟨by kernel_rfl, ?_⟩) hHeld ?_
  · intro w' hSw
    obtain ⟨-, z0, z1, z2⟩ := hSw
    go_simp
  simp only [Act.put, List.getElem_toArray, List.getElem_cons_zero, List.getElem_cons_succ, List.setIfInBounds_toArray, List.set_cons_zero, List.set_cons_succ]
  refine wpAnyH_take (i := 9) (v := .slice a2 A.length c2) rfl (by kernel_rfl) (by kernel_rfl) (by kernel_rfl) (fun _ _ _ h => h) (Or.inl ⟨by kernel_rfl, ?_⟩) hHeld ?_
  · intro w' hSw
    obtain ⟨-, z0, z1, z2⟩ := hSw
    go_simp
  simp only [Act.put, List.getElem_toArray, List.getElem_cons_zero, List.getElem_cons_succ, List.setIfInBounds_toArray, List.set_cons_zero, List.set_cons_succ]
  refine wpAnyH_take (i := 10) (v := .int .i64 A.length) rfl (by kernel_rfl) (by kernel_rfl) (by kernel_rfl) (fun _ _ _ h => h) (Or.inl ⟨by kernel_rfl, ?_⟩) hHeld ?_
  · intro w' hSw
    obtain ⟨-, z0, z1, z2⟩ := hSw
    go_simp
  simp only [Act.put, List.getElem_toArray, List.getElem_cons_zero, List.getElem_cons_succ, List.setIfInBounds_toArray, List.set_cons_zero, List.set_cons_succ]
  refine wpAnyH_take (i := 11) (v := .pointer (some ⟨g, 0, none⟩)) rfl (by kernel_rfl) (by kernel_rfl) (by kernel_rfl) (fun _ _ _ h => h) (Or.inl ⟨by kernel_rfl, ?_⟩) hHeld ?_
  · intro w' hSw
    obtain ⟨-, z0, z1, z2⟩ := hSw
    go_simp
  simp only [Act.put, List.getElem_toArray, List.getElem_cons_zero, List.getElem_cons_succ, List.setIfInBounds_toArray, List.set_cons_zero, List.set_cons_succ]
  refine wpAnyH_ready (rs := [12]) (by kernel_rfl) (by simp) (AllReadyH.cons rfl (fun K hK => ?_) AllReadyH.nil)
  go_simp
  go_at_call 51
  refine (rbranches_any _ l _ (HP.out.below hb2 (Nat.le_refl _)) HL.out).mono ?_
  rintro e w2 ⟨vb, xs, rfl, hown, rfl, hb⟩
  obtain ⟨an4, cn4, rfl⟩ := (IsSl.of_own hown).form
  have hb4 : Below w1.heap.size w1 w2 := below_next hb2 hb
  have hq := block_cells (heap_later2 hb4 HS.out)
  refine hK.out _ _ ⟨hb4, hq.1 0 _ rfl, hq.1 1 _ rfl, hq.1 2 _ rfl⟩ (fun hHeld => ?_)
  clear hK K hown hb hq
  try simp only [Act.put, List.getElem_toArray, List.getElem_cons_zero, List.getElem_cons_succ, List.setIfInBounds_toArray, List.set_cons_zero, List.set_cons_succ]
  refine wpAnyH_take (i := 13) (v := .int .i64 (brs l).length) rfl (by kernel_rfl) (by kernel_rfl) (by kernel_rfl) (fun _ _ _ h => h) (Or.inl ⟨by kernel_rfl, ?_⟩) hHeld ?_
  · intro w' hSw
    obtain ⟨-, z0, z1, z2⟩ := hSw
    go_simp
  simp only [Act.put, List.getElem_toArray, List.getElem_cons_zero, List.getElem_cons_succ, List.setIfInBounds_toArray, List.set_cons_zero, List.set_cons_succ]
  refine wpAnyH_take (i := 14) (v := .bool false) rfl (by kernel_rfl) (by kernel_rfl) (by kernel_rfl) (fun _ _ _ h => h) (Or.inl ⟨by kernel_rfl, ?_⟩) hHeld ?_
  · intro w' hSw
    obtain ⟨-, z0, z1, z2⟩ := hSw
    go_simp
  simp only [Act.put, List.getElem_toArray, List.getElem_cons_zero, List.getElem_cons_succ, List.setIfInBounds_toArray, List.set_cons_zero, List.set_cons_succ]
  refine wpAnyH_take (i := 15) (v := .bool false) rfl (by kernel_rfl) (by kernel_rfl) (by kernel_rfl) (fun _ _ _ h => h) (Or.inl ⟨by kernel_rfl, ?_⟩) hHeld ?_
  · intro w' hSw
    obtain ⟨-, z0, z1, z2⟩ := hSw
    go_simp
  simp only [Act.put, List.getElem_toArray, List.getElem_cons_zero, List.getElem_cons_succ, List.setIfInBounds_toArray, List.set_cons_zero, List.set_cons_succ]
  refine wpAnyH_done (by kernel_rfl) ?_ _
  clear hHeld
  have HB2 := hid (below_next HBW.out hb4)
  have HV2 := hid (HV.out.below hb4 (Nat.le_refl _))
  have HA2 := hid (HA.out.below hb4 (Nat.le_refl _))
  have HS2 := hid (heap_later2 hb4 HS.out)
  clear hb2 hb4 s0 s1 s2
  (try simp only [Exit.inBlock, Exit.then])
  clear q1 q2 q3 r1 r2 r3
  have hsc := (block_cells HS2.out).1
  have s0 := hsc 0 _ rfl
  have s1 := hsc 1 _ rfl
  have s2 := hsc 2 _ rfl
  clear hsc
  obtain ⟨U, hU⟩ : ∃ U, U = V ++ A := ⟨_, rfl⟩
  have HUE := hid hU
  clear hU
  go_upto_region 7 with (refine wpList_appendAll rfl _ _ _ rfl w2.heap.size 48 1 16 i0 (.complex .f64 0 0) Try.underlying39 hi hz0 hz1 hz2 rfl (by decide) _ 0 [] (World.ownsRow_nil _ _ _ _) (Nat.le_refl _) _ _ _ HV2.out rfl rfl (by intro u hu; obtain ⟨z, _, rfl⟩ := List.mem_map.1 hu; rfl) (by simp [maxLen]; omega) (by omega) ?_; intro v5 w5 hown5 hgr5 hat5; rw [Nat.zero_add, List.nil_append] at hown5; have hb5 : Below w2.heap.size w2 w5 := below_grown (Below.refl _ _) hgr5 (by intro k e; cases e); have HB5 := hid hb5; have HO5 := hid hown5; have HA5 := hid (HA2.out.below hb5 (Nat.le_refl _)); have t2 := (block_cells (heap_later2 hb5 HS2.out)).1 2 _ rfl; clear hown5 hgr5 hat5 hb5)
  go_upto_region 9 with (refine wpList_appendAll rfl _ _ _ rfl w2.heap.size 48 1 16 i0 (.complex .f64 0 0) Try.underlying39 hi hz0 hz1 hz2 rfl (by decide) _ V.length _ HO5.out HB5.out.size _ _ _ HA5.out rfl rfl (by intro u hu; obtain ⟨z, _, rfl⟩ := List.mem_map.1 hu; rfl) (by simp [maxLen]; omega) (by omega) ?_; intro v6 w6 hown6 hgr6 hat6; rw [← List.length_append, ← List.map_append, ← HUE.out] at hown6; have HB6 := hid (below_grown HB5.out hgr6 (fun k e => (HO5.out.lt _ e).1)); obtain ⟨a6, c6, rfl⟩ := (IsSl.of_own hown6).form; have HI := hid (IsSl.of_own hown6); clear hown6 hgr6 hat6)
  have HBZ := hid (below_next HB2.out HB6.out)
  clear s0 s1 s2 t2
  have hul : U.length ≤ 140737488355328 := by rw [HUE.out, List.length_append]; omega
  go_loopw [6] (fun j wj => ∃ (k m : Nat), k ≤ U.length ∧ j = .int .i64 k ∧ wj = w6.drewN m ∧ finAll (U.take k) = true) (fun j _ => U.length - (intOf j).toNat)
  case atStart => exact ⟨0, 0, Nat.zero_le _, rfl, rfl, rfl⟩
  case round =>
    obtain ⟨k, m, hk, rfl, rfl, hfk⟩ := hrel
    have HFK := hid hfk
    clear hfk
    by_cases hlt : k < U.length
    · obtain ⟨g4, o4, y, hidx, hg, hcell, hy⟩ := IsSl.at1 Try.underlying39 hi hz1 HI.out (k := k) hlt
      obtain ⟨z, hzz, rfl⟩ := map_getElem? hy
      unfold mkC at hcell
      have HZ := hid hzz
      clear hzz hy hg
      have hd : decide ((k : Int) < (U.length : Int)) = true := by simp; omega
      cases hf : cfin (ck z)
      · have HF := hid hf
        clear hf
        go_wp2_with (go_at_call 62; refine (rfin_any _ _ _).mono ?_; rintro e w' ⟨v, n2, rfl, rfl, rfl⟩; rw [show cfin (fc z.1, fc z.2) = false from HF.out])
        (try rw [Exit.noGoto_ret])
        go_ret
        exact ⟨by rw [chk_5 rfl HLV.out HLA.out (by rw [← fin_app, ← HUE.out]; exact fin_bad HZ.out HF.out)]; rfl, below_n HBZ.out _⟩
      · have HF := hid hf
        clear hf
        go_wp2_with (go_at_call 62; refine (rfin_any _ _ _).mono ?_; rintro e w' ⟨v, n2, rfl, rfl, rfl⟩; rw [show cfin (fc z.1, fc z.2) = true from HF.out])
        go_roundw
        case rel => exact ⟨k + 1, m + n2, by omega, by go_num, by simp [World.drewN_drewN], fin_upto HFK.out HZ.out HF.out⟩
        case measure => simp [intOf]; omega
    · obtain rfl : k = U.length := by omega
      rw [List.take_length] at HFK
      go_wp2_with fail
      (try rw [Exit.noGoto_ret])
      go_ret
      exact ⟨by rw [chk_0 rfl HLV.out HLA.out (by rw [← fin_app, ← HUE.out]; exact HFK.out)]; rfl, below_n HBZ.out _⟩
theorem wrong_any (p : Value) (l : List El) (o : Nat) (v1 v2 : Value) (V A : List Cx) (w : World) (hp : RN w p l) (hl : l.length ≤ 100000)
    (h1 : IsSl w 1 v1 V.length (V.map mkC)) (h2 : IsSl w 1 v2 A.length (A.map mkC)) (hlv : V.length * 16 ≤ 140737488351232) (hla : A.length * 16 ≤ 140737488351232) :
    Calls Try.prog 35 #[p, .agg #[.float .f64 o, v1, v2]] w (RetI (chkS (noNet p) l V A) w) := by
  cases hnn : noNet p
  · obtain ⟨g, rfl⟩ := rn_ptr hp hnn
    by_cases hv : V.length = (nds l).length
    · by_cases ha : A.length = (brs l).length
      · exact wrong_e g l o v1 v2 V A w hp hl h1 h2 hlv hla hv ha
      · exact wrong_a g l o v1 v2 V A w hp hl h1 h2 hlv hla hv ha
    · exact wrong_v g l o v1 v2 V A w hp hl h1 h2 hlv hla hv
  · obtain rfl : p = .pointer none := by
      rcases hp with ⟨rfl, _⟩ | ⟨g, v, rfl, _⟩
      · rfl
      · cases hnn
    exact wrong_n v1 v2 l o V A w
end Go.Proofs.Ytaobncojdonhlaa
