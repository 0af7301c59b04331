/- Walk of current.check where the lists fit. -/
import Derived.Test.YtlaibmeokghdmaaGreatDoorCur4
namespace Go.Proofs.YtlaibmeokghdmaaGreatDoor
open Go.RowKit
set_option maxRecDepth 100000 in
set_option maxHeartbeats 2000000 in
theorem check_e (g : Nat) (l : List El) (o : Nat) (v1 v2 : Value) (V A : List Cx) (w : World) (hp : NN w (.pointer (some ⟨g, 0, none⟩)) l) (hl : l.length ≤ 100000) (hn : has (l.map El.name) ⟨#[]⟩ = false)
    (h1 : IsSl w 1 v1 V.length (V.map mkC)) (h2 : IsSl w 1 v2 A.length (A.map mkC)) (hlv : V.length * 16 ≤ 140737488351232) (hla : A.length * 16 ≤ 140737488351232) (hv : V.length = (nds l).length) (ha : A.length = (brs l).length) :
    Calls Tryz.prog 45 #[.pointer (some ⟨g, 0, none⟩), .agg #[.float .f64 o, v1, v2]] w (RetI (chkS false l V A) w) := by
  obtain ⟨a1, c1, rfl⟩ := h1.form
  obtain ⟨a2, c2, rfl⟩ := h2.form
  obtain ⟨i0, hi, hz0, hz1, hz2⟩ := info_parts infoC
  have hbw := (Below.refl w.heap.size w).alloc (Nat.le_refl _) (.cells #[.float .f64 o, .slice a1 V.length c1, .slice a2 A.length c2] 63)
  have hs0 := heap_alloc_new w (.cells #[.float .f64 o, .slice a1 V.length c1, .slice a2 A.length c2] 63)
  have HP := hid (hp.below' hbw)
  have HV := hid (h1.below hbw (Nat.le_refl _))
  have HA := hid (h2.below hbw (Nat.le_refl _))
  have HBW := hid hbw
  have HS := hid hs0
  have HL := hid hl
  clear h1 h2 hbw hs0 hl
  obtain ⟨q1, q2, q3⟩ := beq_of hv
  obtain ⟨r1, r2, r3⟩ := beq_of ha
  have HLA := hid ha
  have HLV := hid hv
  clear hv ha
  go_enter Tryz.func45, Tryz.ntmps45
  go_upto_region 1 with fail
  generalize w.alloc (.cells #[.float .f64 o, .slice a1 V.length c1, .slice a2 A.length c2] 63) = w1 at *
  have hsc := (block_cells HS.out).1
  have s0 := hsc 0 _ rfl
  have s1 := hsc 1 _ rfl
  have s2 := hsc 2 _ rfl
  clear hsc
  go_upto_region 4 with (go_at_call 53; refine (nwithout_none _ l _ HP.out hn).mono ?_; rintro e w2 ⟨rfl, rfl⟩; rw [show (if noNet (.pointer (some ⟨g, 0, none⟩)) = true then (1 : Int) else 10) = 10 from rfl])
  refine wp_region_held_drew (S := fun w' => Below w1.heap.size w1 w' ∧ w'.cell? ⟨w.heap.size, 0, none⟩ = some (.float .f64 o) ∧ w'.cell? ⟨w.heap.size, 1, none⟩ = some (.slice a1 V.length c1) ∧ w'.cell? ⟨w.heap.size, 2, none⟩ = some (.slice a2 A.length c2)) (by kernel_rfl) ⟨(Below.refl _ _).drew, s0, s1, s2⟩ (fun hHeld => ?_)
  refine wpAnyH_take (i := 0) (v := .pointer (some ⟨w.heap.size, 1, none⟩)) rfl (by kernel_rfl) (by kernel_rfl) (by kernel_rfl) (fun _ _ _ h => h) (Or.inl ⟨by kernel_rfl, ?_⟩) hHeld ?_
  · intro w' hSw
    obtain ⟨-, z0, z1, z2⟩ := hSw
    go_simp
  simp only [Act.put, List.getElem_toArray, List.getElem_cons_zero, List.getElem_cons_succ, List.setIfInBounds_toArray, List.set_cons_zero, List.set_cons_succ]
  refine wpAnyH_take (i := 1) (v := .slice a1 V.length c1) rfl (by kernel_rfl) (by kernel_rfl) (by kernel_rfl) (fun _ _ _ h => h) (Or.inl ⟨by kernel_rfl, ?_⟩) hHeld ?_
  · intro w' hSw
    obtain ⟨-, z0, z1, z2⟩ := hSw
    go_simp
  simp only [Act.put, List.getElem_toArray, List.getElem_cons_zero, List.getElem_cons_succ, List.setIfInBounds_toArray, List.set_cons_zero, List.set_cons_succ]
  refine wpAnyH_take (i := 2) (v := .int .i64 V.length) rfl (by kernel_rfl) (by kernel_rfl) (by kernel_rfl) (fun _ _ _ h => h) (Or.inl ⟨by kernel_rfl, ?_⟩) hHeld ?_
  · intro w' hSw
    obtain ⟨-, z0, z1, z2⟩ := hSw
    go_simp
  simp only [Act.put, List.getElem_toArray, List.getElem_cons_zero, List.getElem_cons_succ, List.setIfInBounds_toArray, List.set_cons_zero, List.set_cons_succ]
  refine wpAnyH_take (i := 3) (v := .pointer (some ⟨g, 0, none⟩)) rfl (by kernel_rfl) (by kernel_rfl) (by kernel_rfl) (fun _ _ _ h => h) (Or.inl ⟨by kernel_rfl, ?_⟩) hHeld ?_
  · intro w' hSw
    obtain ⟨-, z0, z1, z2⟩ := hSw
    go_simp
  simp only [Act.put, List.getElem_toArray, List.getElem_cons_zero, List.getElem_cons_succ, List.setIfInBounds_toArray, List.set_cons_zero, List.set_cons_succ]
  refine wpAnyH_ready (rs := [4]) (by kernel_rfl) (by simp) (AllReadyH.cons rfl (fun K hK => ?_) AllReadyH.nil)
  go_simp
  go_at_call 31
  refine (nnodes_any _ l _ (HP.out.below (Below.refl _ _).drew (Nat.le_refl _)) HL.out).mono ?_
  rintro e wa ⟨vn, xs, rfl, hown, rfl, hb⟩
  obtain ⟨an, cn, rfl⟩ := (IsSl.of_own hown).form
  have hb2 : Below w1.heap.size w1 wa := below_drew_left hb
  have hq := block_cells (heap_later2 hb2 HS.out)
  refine hK.out _ _ ⟨hb2, hq.1 0 _ rfl, hq.1 1 _ rfl, hq.1 2 _ rfl⟩ (fun hHeld => ?_)
  clear hK K hown hb hq
  try simp only [Act.put, List.getElem_toArray, List.getElem_cons_zero, List.getElem_cons_succ, List.setIfInBounds_toArray, List.set_cons_zero, List.set_cons_succ]
  refine wpAnyH_take (i := 5) (v := .int .i64 (nds l).length) rfl (by kernel_rfl) (by kernel_rfl) (by kernel_rfl) (fun _ _ _ h => h) (Or.inl ⟨by kernel_rfl, ?_⟩) hHeld ?_
  · intro w' hSw
    obtain ⟨-, z0, z1, z2⟩ := hSw
    go_simp
  simp only [Act.put, List.getElem_toArray, List.getElem_cons_zero, List.getElem_cons_succ, List.setIfInBounds_toArray, List.set_cons_zero, List.set_cons_succ]
  refine wpAnyH_take (i := 6) (v := .bool false) rfl (by kernel_rfl) (by kernel_rfl) (by kernel_rfl) (fun _ _ _ h => h) (Or.inl ⟨by kernel_rfl, ?_⟩) hHeld ?_
  · intro w' hSw
    obtain ⟨-, z0, z1, z2⟩ := hSw
    go_simp
  simp only [Act.put, List.getElem_toArray, List.getElem_cons_zero, List.getElem_cons_succ, List.setIfInBounds_toArray, List.set_cons_zero, List.set_cons_succ]
  refine wpAnyH_take (i := 7) (v := .bool false) rfl (by kernel_rfl) (by kernel_rfl) (by kernel_rfl) (fun _ _ _ h => h) (Or.inl ⟨by kernel_rfl, ?_⟩) hHeld ?_
  · intro w' hSw
    obtain ⟨-, z0, z1, z2⟩ := hSw
    go_simp
  simp only [Act.put, List.getElem_toArray, List.getElem_cons_zero, List.getElem_cons_succ, List.setIfInBounds_toArray, List.set_cons_zero, List.set_cons_succ]
  refine wpAnyH_take (i := 8) (v := .pointer (some ⟨w.heap.size, 2, none⟩)) rfl (by kernel_rfl) (by kernel_rfl) (by kernel_rfl) (fun _ _ _ h => h) (Or.inl ⟨by kernel_rfl, ?_⟩) hHeld ?_
  · intro w' hSw
    obtain ⟨-, z0, z1, z2⟩ := hSw
    go_simp
  simp only [Act.put, List.getElem_toArray, List.getElem_cons_zero, List.getElem_cons_succ, List.setIfInBounds_toArray, List.set_cons_zero, List.set_cons_succ]
  refine wpAnyH_take (i := 9) (v := .slice a2 A.length c2) rfl (by kernel_rfl) (by kernel_rfl) (by kernel_rfl) (fun _ _ _ h => h) (Or.inl ⟨by kernel_rfl, ?_⟩) hHeld ?_
  · intro w' hSw
    obtain ⟨-, z0, z1, z2⟩ := hSw
    go_simp
  simp only [Act.put, List.getElem_toArray, List.getElem_cons_zero, List.getElem_cons_succ, List.setIfInBounds_toArray, List.set_cons_zero, List.set_cons_succ]
  refine wpAnyH_take (i := 10) (v := .int .i64 A.length) rfl (by kernel_rfl) (by kernel_rfl) (by kernel_rfl) (fun _ _ _ h => h) (Or.inl ⟨by kernel_rfl, ?_⟩) hHeld ?_
  · intro w' hSw
    obtain ⟨-, z0, z1, z2⟩ := hSw
    go_simp
  simp only [Act.put, List.getElem_toArray, List.getElem_cons_zero, List.getElem_cons_succ, List.setIfInBounds_toArray, List.set_cons_zero, List.set_cons_succ]
  refine wpAnyH_take (i := 11) (v := .pointer (some ⟨g, 0, none⟩)) rfl (by kernel_rfl) (by kernel_rfl) (by kernel_rfl) (fun _ _ _ h => h) (Or.inl ⟨by kernel_rfl, ?_⟩) hHeld ?_
  · intro w' hSw
    obtain ⟨-, z0, z1, z2⟩ := hSw
    go_simp
  simp only [Act.put, List.getElem_toArray, List.getElem_cons_zero, List.getElem_cons_succ, List.setIfInBounds_toArray, List.set_cons_zero, List.set_cons_succ]
  refine wpAnyH_ready (rs := [12]) (by kernel_rfl) (by simp) (AllReadyH.cons rfl (fun K hK => ?_) AllReadyH.nil)
  go_simp
  go_at_call 44
  refine (nbranches_any _ l _ (HP.out.below hb2 (Nat.le_refl _)) HL.out).mono ?_
  rintro e w2 ⟨vb, xs, rfl, hown, rfl, hb⟩
  obtain ⟨an4, cn4, rfl⟩ := (IsSl.of_own hown).form
  have hb4 : Below w1.heap.size w1 w2 := below_next hb2 hb
  have hq := block_cells (heap_later2 hb4 HS.out)
  refine hK.out _ _ ⟨hb4, hq.1 0 _ rfl, hq.1 1 _ rfl, hq.1 2 _ rfl⟩ (fun hHeld => ?_)
  clear hK K hown hb hq
  try simp only [Act.put, List.getElem_toArray, List.getElem_cons_zero, List.getElem_cons_succ, List.setIfInBounds_toArray, List.set_cons_zero, List.set_cons_succ]
  refine wpAnyH_take (i := 13) (v := .int .i64 (brs l).length) rfl (by kernel_rfl) (by kernel_rfl) (by kernel_rfl) (fun _ _ _ h => h) (Or.inl ⟨by kernel_rfl, ?_⟩) hHeld ?_
  · intro w' hSw
    obtain ⟨-, z0, z1, z2⟩ := hSw
    go_simp
  simp only [Act.put, List.getElem_toArray, List.getElem_cons_zero, List.getElem_cons_succ, List.setIfInBounds_toArray, List.set_cons_zero, List.set_cons_succ]
  refine wpAnyH_take (i := 14) (v := .bool false) rfl (by kernel_rfl) (by kernel_rfl) (by kernel_rfl) (fun _ _ _ h => h) (Or.inl ⟨by kernel_rfl, ?_⟩) hHeld ?_
  · intro w' hSw
    obtain ⟨-, z0, z1, z2⟩ := hSw
    go_simp
  simp only [Act.put, List.getElem_toArray, List.getElem_cons_zero, List.getElem_cons_succ, List.setIfInBounds_toArray, List.set_cons_zero, List.set_cons_succ]
  refine wpAnyH_take (i := 15) (v := .bool false) rfl (by kernel_rfl) (by kernel_rfl) (by kernel_rfl) (fun _ _ _ h => h) (Or.inl ⟨by kernel_rfl, ?_⟩) hHeld ?_
  · intro w' hSw
    obtain ⟨-, z0, z1, z2⟩ := hSw
    go_simp
  simp only [Act.put, List.getElem_toArray, List.getElem_cons_zero, List.getElem_cons_succ, List.setIfInBounds_toArray, List.set_cons_zero, List.set_cons_succ]
  refine wpAnyH_done (by kernel_rfl) ?_ _
  clear hHeld
  have HB2 := hid (below_next HBW.out hb4)
  have HV2 := hid (HV.out.below hb4 (Nat.le_refl _))
  have HA2 := hid (HA.out.below hb4 (Nat.le_refl _))
  have HS2 := hid (heap_later2 hb4 HS.out)
  clear hb2 hb4 s0 s1 s2
  (try simp only [Exit.inBlock, Exit.then])
  clear q1 q2 q3 r1 r2 r3
  have hsc := (block_cells HS2.out).1
  have s0 := hsc 0 _ rfl
  have s1 := hsc 1 _ rfl
  have s2 := hsc 2 _ rfl
  clear hsc
  go_upto_region 7 with fail
  have l0 := heap_alloc_new w2 (.cells #[.slice a1 V.length c1, .slice a2 A.length c2] 36)
  have hb3 := (Below.refl w2.heap.size w2).alloc (Nat.le_refl _) (.cells #[.slice a1 V.length c1, .slice a2 A.length c2] 36)
  have HB3 := hid (below_next HB2.out hb3)
  have HV3 := hid (HV2.out.below hb3 (Nat.le_refl _))
  have HA3 := hid (HA2.out.below hb3 (Nat.le_refl _))
  generalize w2.alloc (.cells #[.slice a1 V.length c1, .slice a2 A.length c2] 36) = w3 at *
  generalize w2.heap.size = gl at *
  obtain ⟨hlc, -⟩ := block_cells l0
  have m0 := hlc 0 _ rfl
  have m1 := hlc 1 _ rfl
  clear hlc l0 hb3 s0 s1 s2
  go_loopw [41] (fun i wr => ∃ n : Nat, wr = w3.drewN n ∧ (i = .int .i64 0 ∨ (i = .int .i64 1 ∧ finAll V = true) ∨ (i = .int .i64 2 ∧ finAll V = true ∧ finAll A = true))) (fun i _ => 2 - (intOf i).toNat)
  case atStart => exact ⟨0, rfl, .inl rfl⟩
  case round =>
    obtain ⟨n, rfl, hq3⟩ := hrel
    rcases hq3 with rfl | ⟨rfl, hf0⟩ | ⟨rfl, hf0, hf1⟩
    · have hsl := HV3.out
      go_upto_region 10 with fail
      go_loopw [47] (fun j wj => ∃ (k m : Nat), k ≤ V.length ∧ j = .int .i64 k ∧ wj = w3.drewN m ∧ finAll (V.take k) = true) (fun j _ => V.length - (intOf j).toNat)
      case atStart => exact ⟨0, n, Nat.zero_le _, rfl, rfl, rfl⟩
      case round =>
        obtain ⟨k, m, hk, rfl, rfl, hfk⟩ := hrel
        have HFK := hid hfk
        clear hfk
        by_cases hlt : k < V.length
        · obtain ⟨g4, o4, y, hidx, hg, hcell, hy⟩ := IsSl.at1 Tryz.underlying36 hi hz1 hsl (k := k) hlt
          obtain ⟨z, hzz, rfl⟩ := map_getElem? hy
          unfold mkC at hcell
          have HZ := hid hzz
          clear hzz hy hg
          have hd : decide ((k : Int) < (V.length : Int)) = true := by simp; omega
          cases hf : cfin (ck z)
          · have HF := hid hf
            clear hf
            go_wp2_with (go_at_call 38; refine (pfin_any _ _ _).mono ?_; rintro e w' ⟨v, n2, rfl, rfl, rfl⟩; rw [show cfin (fc z.1, fc z.2) = false from HF.out])
            (try rw [Exit.noGoto_ret])
            go_ret
            exact ⟨by rw [chk_5 rfl HLV.out HLA.out (by rw [fin_bad HZ.out HF.out]; rfl)]; rfl, below_n HB3.out _⟩
          · have HF := hid hf
            clear hf
            go_wp2_with (go_at_call 38; refine (pfin_any _ _ _).mono ?_; rintro e w' ⟨v, n2, rfl, rfl, rfl⟩; rw [show cfin (fc z.1, fc z.2) = true from HF.out])
            go_roundw
            case rel => exact ⟨k + 1, m + n2, by omega, by go_num, by simp [World.drewN_drewN], fin_upto HFK.out HZ.out HF.out⟩
            case measure => simp [intOf]; omega
        · obtain rfl : k = V.length := by omega
          rw [List.take_length] at HFK
          go_wp2_with fail
          go_roundw
          case rel => exact ⟨m, rfl, .inr (.inl ⟨rfl, HFK.out⟩)⟩
          case measure => simp [intOf]
    · have hsl := HA3.out
      have HF0 := hid hf0
      clear hf0
      go_upto_region 10 with fail
      go_loopw [47] (fun j wj => ∃ (k m : Nat), k ≤ A.length ∧ j = .int .i64 k ∧ wj = w3.drewN m ∧ finAll (A.take k) = true) (fun j _ => A.length - (intOf j).toNat)
      case atStart => exact ⟨0, n, Nat.zero_le _, rfl, rfl, rfl⟩
      case round =>
        obtain ⟨k, m, hk, rfl, rfl, hfk⟩ := hrel
        have HFK := hid hfk
        clear hfk
        by_cases hlt : k < A.length
        · obtain ⟨g4, o4, y, hidx, hg, hcell, hy⟩ := IsSl.at1 Tryz.underlying36 hi hz1 hsl (k := k) hlt
          obtain ⟨z, hzz, rfl⟩ := map_getElem? hy
          unfold mkC at hcell
          have HZ := hid hzz
          clear hzz hy hg
          have hd : decide ((k : Int) < (A.length : Int)) = true := by simp; omega
          cases hf : cfin (ck z)
          · have HF := hid hf
            clear hf
            go_wp2_with (go_at_call 38; refine (pfin_any _ _ _).mono ?_; rintro e w' ⟨v, n2, rfl, rfl, rfl⟩; rw [show cfin (fc z.1, fc z.2) = false from HF.out])
            (try rw [Exit.noGoto_ret])
            go_ret
            exact ⟨by rw [chk_5 rfl HLV.out HLA.out (by rw [fin_bad HZ.out HF.out, Bool.and_false])]; rfl, below_n HB3.out _⟩
          · have HF := hid hf
            clear hf
            go_wp2_with (go_at_call 38; refine (pfin_any _ _ _).mono ?_; rintro e w' ⟨v, n2, rfl, rfl, rfl⟩; rw [show cfin (fc z.1, fc z.2) = true from HF.out])
            go_roundw
            case rel => exact ⟨k + 1, m + n2, by omega, by go_num, by simp [World.drewN_drewN], fin_upto HFK.out HZ.out HF.out⟩
            case measure => simp [intOf]; omega
        · obtain rfl : k = A.length := by omega
          rw [List.take_length] at HFK
          go_wp2_with fail
          go_roundw
          case rel => exact ⟨m, rfl, .inr (.inr ⟨rfl, HF0.out, HFK.out⟩)⟩
          case measure => simp [intOf]
    · have HF0 := hid hf0
      have HF1 := hid hf1
      clear hf0 hf1
      go_wp2_with fail
      (try rw [Exit.noGoto_ret])
      go_ret
      exact ⟨by rw [chk_0 rfl HLV.out HLA.out (by rw [HF0.out, HF1.out]; rfl)]; rfl, below_n HB3.out _⟩
theorem check_any (p : Value) (l : List El) (o : Nat) (v1 v2 : Value) (V A : List Cx) (w : World) (hp : NN w p l) (hl : l.length ≤ 100000) (hn : has (l.map El.name) ⟨#[]⟩ = false)
    (h1 : IsSl w 1 v1 V.length (V.map mkC)) (h2 : IsSl w 1 v2 A.length (A.map mkC)) (hlv : V.length * 16 ≤ 140737488351232) (hla : A.length * 16 ≤ 140737488351232) :
    Calls Tryz.prog 45 #[p, .agg #[.float .f64 o, v1, v2]] w (RetI (chkS (noNet p) l V A) w) := by
  cases hnn : noNet p
  · obtain ⟨g, rfl⟩ := nn_ptr hp hnn
    by_cases hv : V.length = (nds l).length
    · by_cases ha : A.length = (brs l).length
      · exact check_e g l o v1 v2 V A w hp hl hn h1 h2 hlv hla hv ha
      · exact check_a g l o v1 v2 V A w hp hl hn h1 h2 hlv hla hv ha
    · exact check_v g l o v1 v2 V A w hp hl hn h1 h2 hlv hla hv
  · obtain rfl : p = .pointer none := by
      rcases hp with ⟨rfl, _⟩ | ⟨B, g, vl, vn, vb, bn, bp, bb, rfl, _⟩
      · rfl
      · cases hnn
    exact check_n v1 v2 l o V A w hp hn
end Go.Proofs.YtlaibmeokghdmaaGreatDoor
