/- Walks of what is looked at first: current.check, gridworkref21.wrong. -/
import Derived.Test.YtlaibmeokghdmaaGreatDoorCur3
import Derived.Deep.RegionHeld3
namespace Go.Proofs.YtlaibmeokghdmaaGreatDoor
open Go.RowKit

/-- What is wrong with a net and a solution. -/
def finAll (V : List Cx) : Bool := V.all fun z => cfin (ck z)
def chkS (b : Bool) (l : List El) (V A : List Cx) : Int :=
  if b = true then 1 else if V.length = (nds l).length ∧ A.length = (brs l).length then (if (finAll V && finAll A) = true then 0 else 5) else 4
theorem chk_1 {l : List El} {V A : List Cx} {b : Bool} (h : b = true) : chkS b l V A = 1 := by unfold chkS; rw [if_pos h]
theorem chk_4 {l : List El} {V A : List Cx} {b : Bool} (h : b = false) (h2 : ¬ (V.length = (nds l).length ∧ A.length = (brs l).length)) : chkS b l V A = 4 := by unfold chkS; rw [if_neg (by rw [h]; decide), if_neg h2]
theorem chk_5 {l : List El} {V A : List Cx} {b : Bool} (h : b = false) (h1 : V.length = (nds l).length) (h2 : A.length = (brs l).length) (h3 : (finAll V && finAll A) = false) : chkS b l V A = 5 := by unfold chkS; rw [if_neg (by rw [h]; decide), if_pos ⟨h1, h2⟩, if_neg (by rw [h3]; decide)]
theorem chk_0 {l : List El} {V A : List Cx} {b : Bool} (h : b = false) (h1 : V.length = (nds l).length) (h2 : A.length = (brs l).length) (h3 : (finAll V && finAll A) = true) : chkS b l V A = 0 := by unfold chkS; rw [if_neg (by rw [h]; decide), if_pos ⟨h1, h2⟩, if_pos h3]
theorem fin_upto {V : List Cx} {k : Nat} {z : Cx} (h : finAll (V.take k) = true) (hz : V[k]? = some z) (hf : cfin (ck z) = true) : finAll (V.take (k + 1)) = true := by
  obtain ⟨hk, e⟩ := List.getElem?_eq_some_iff.1 hz
  subst e
  unfold finAll at h ⊢
  rw [List.take_succ_eq_append_getElem hk, List.all_append, h]
  simp [hf]
theorem fin_bad {V : List Cx} {k : Nat} {z : Cx} (hz : V[k]? = some z) (hf : cfin (ck z) = false) : finAll V = false := by
  unfold finAll
  rw [List.all_eq_false]
  exact ⟨z, List.mem_of_getElem? hz, by rw [hf]; decide⟩
theorem nn_ptr {w : World} {p : Value} {l : List El} (h : NN w p l) (hn : noNet p = false) : ∃ g : Nat, p = .pointer (some ⟨g, 0, none⟩) := by
  rcases h with ⟨rfl, _⟩ | ⟨B, g, vl, vn, vb, bn, bp, bb, rfl, _⟩
  · cases hn
  · exact ⟨g, rfl⟩
theorem rn_ptr {w : World} {p : Value} {l : List El} (h : RN w p l) (hn : noNet p = false) : ∃ g : Nat, p = .pointer (some ⟨g, 0, none⟩) := by
  rcases h with ⟨rfl, _⟩ | ⟨g, v, rfl, _⟩
  · cases hn
  · exact ⟨g, rfl⟩
theorem bne_of {a b : Nat} (h : ¬ a = b) : ((a : Int) != (b : Int)) = true ∧ ((a : Int) == (b : Int)) = false ∧ decide ((a : Int) = (b : Int)) = false := by
  have : ¬ (a : Int) = (b : Int) := by omega
  simp [this]
theorem beq_of {a b : Nat} (h : a = b) : ((a : Int) != (b : Int)) = false ∧ ((a : Int) == (b : Int)) = true ∧ decide ((a : Int) = (b : Int)) = true := by
  subst h
  simp
theorem check_n (v1 v2 : Value) (l : List El) (o : Nat) (V A : List Cx) (w : World) (hp : NN w (.pointer none) l) (hn : has (l.map El.name) ⟨#[]⟩ = false) :
    Calls Tryz.prog 45 #[.pointer none, .agg #[.float .f64 o, v1, v2]] w (RetI (chkS true l V A) w) := by
  have hbw := (Below.refl w.heap.size w).alloc (Nat.le_refl _) (.cells #[.float .f64 o, v1, v2] 63)
  have HP := hid (hp.below' hbw)
  have HBW := hid hbw
  clear hbw hp
  go_enter Tryz.func45, Tryz.ntmps45
  go_upto_region 1 with fail
  generalize w.alloc (.cells #[.float .f64 o, v1, v2] 63) = w1 at *
  go_wp2_with (go_at_call 53; refine (nwithout_none _ l _ HP.out hn).mono ?_; rintro e w2 ⟨rfl, rfl⟩; rw [show (if noNet (.pointer none) = true then (1 : Int) else 10) = 1 from rfl])
  (try rw [Exit.noGoto_ret])
  go_ret
  exact ⟨by rw [chk_1 rfl]; rfl, HBW.out⟩
set_option maxRecDepth 100000 in
set_option maxHeartbeats 2000000 in
theorem check_v (g : Nat) (l : List El) (o : Nat) (v1 v2 : Value) (V A : List Cx) (w : World) (hp : NN w (.pointer (some ⟨g, 0, none⟩)) l) (hl : l.length ≤ 100000) (hn : has (l.map El.name) ⟨#[]⟩ = false)
    (h1 : IsSl w 1 v1 V.length (V.map mkC)) (h2 : IsSl w 1 v2 A.length (A.map mkC)) (hlv : V.length * 16 ≤ 140737488351232) (hla : A.length * 16 ≤ 140737488351232) (hv : ¬ V.length = (nds l).length) :
    Calls Tryz.prog 45 #[.pointer (some ⟨g, 0, none⟩), .agg #[.float .f64 o, v1, v2]] w (RetI (chkS false l V A) w) := by
  obtain ⟨a1, c1, rfl⟩ := h1.form
  obtain ⟨a2, c2, rfl⟩ := h2.form
  obtain ⟨i0, hi, hz0, hz1, hz2⟩ := info_parts infoC
  have hbw := (Below.refl w.heap.size w).alloc (Nat.le_refl _) (.cells #[.float .f64 o, .slice a1 V.length c1, .slice a2 A.length c2] 63)
  have hs0 := heap_alloc_new w (.cells #[.float .f64 o, .slice a1 V.length c1, .slice a2 A.length c2] 63)
  have HP := hid (hp.below' hbw)
  have HV := hid (h1.below hbw (Nat.le_refl _))
  have HA := hid (h2.below hbw (Nat.le_refl _))
  have HBW := hid hbw
  have HS := hid hs0
  have HL := hid hl
  clear h1 h2 hbw hs0 hl
  obtain ⟨q1, q2, q3⟩ := bne_of hv
  have HLV := hid hv
  clear hv
  go_enter Tryz.func45, Tryz.ntmps45
  go_upto_region 1 with fail
  generalize w.alloc (.cells #[.float .f64 o, .slice a1 V.length c1, .slice a2 A.length c2] 63) = w1 at *
  have hsc := (block_cells HS.out).1
  have s0 := hsc 0 _ rfl
  have s1 := hsc 1 _ rfl
  have s2 := hsc 2 _ rfl
  clear hsc
  go_upto_region 4 with (go_at_call 53; refine (nwithout_none _ l _ HP.out hn).mono ?_; rintro e w2 ⟨rfl, rfl⟩; rw [show (if noNet (.pointer (some ⟨g, 0, none⟩)) = true then (1 : Int) else 10) = 10 from rfl])
  refine wp_region_held_drew (S := fun w' => Below w1.heap.size w1 w' ∧ w'.cell? ⟨w.heap.size, 0, none⟩ = some (.float .f64 o) ∧ w'.cell? ⟨w.heap.size, 1, none⟩ = some (.slice a1 V.length c1) ∧ w'.cell? ⟨w.heap.size, 2, none⟩ = some (.slice a2 A.length c2)) (by kernel_rfl) ⟨(Below.refl _ _).drew, s0, s1, s2⟩ (fun hHeld => ?_)
  refine wpAnyH_take (i := 0) (v := .pointer (some ⟨w.heap.size, 1, none⟩)) rfl (by kernel_rfl) (by kernel_rfl) (by kernel_rfl) (fun _ _ _ h => h) (Or.inl ⟨by kernel_rfl, ?_⟩) hHeld ?_
  · intro w' hSw
    obtain ⟨-, z0, z1, z2⟩ := hSw
    go_simp
  simp only [Act.put, List.getElem_toArray, List.getElem_cons_zero, List.getElem_cons_succ, List.setIfInBounds_toArray, List.set_cons_zero, List.set_cons_succ]
  refine wpAnyH_take (i := 1) (v := .slice a1 V.length c1) rfl (by kernel_rfl) (by kernel_rfl) (by kernel_rfl) (fun _ _ _ h => h) (Or.inl ⟨by kernel_rfl, ?_⟩) hHeld ?_
  · intro w' hSw
    obtain ⟨-, z0, z1, z2⟩ := hSw
    go_simp
  simp only [Act.put, List.getElem_toArray, List.getElem_cons_zero, List.getElem_cons_succ, List.setIfInBounds_toArray, List.set_cons_zero, List.set_cons_succ]
  refine wpAnyH_take (i := 2) (v := .int .i64 V.length) rfl (by kernel_rfl) (by kernel_rfl) (by kernel_rfl) (fun _ _ _ h => h) (Or.inl ⟨by kernel_rfl, ?_⟩) hHeld ?_
  · intro w' hSw
    obtain ⟨-, z0, z1, z2⟩ := hSw
    go_simp
  simp only [Act.put, List.getElem_toArray, List.getElem_cons_zero, List.getElem_cons_succ, List.setIfInBounds_toArray, List.set_cons_zero, List.set_cons_succ]
  refine wpAnyH_take (i := 3) (v := .pointer (some ⟨g, 0, none⟩)) rfl (by kernel_rfl) (by kernel_rfl) (by kernel_rfl) (fun _ _ _ h => h) (Or.inl ⟨by kernel_rfl, ?_⟩) hHeld ?_
  · intro w' hSw
    obtain ⟨-, z0, z1, z2⟩ := hSw
    go_simp
  simp only [Act.put, List.getElem_toArray, List.getElem_cons_zero, List.getElem_cons_succ, List.setIfInBounds_toArray, List.set_cons_zero, List.set_cons_succ]
  refine wpAnyH_ready (rs := [4]) (by kernel_rfl) (by simp) (AllReadyH.cons rfl (fun K hK => ?_) AllReadyH.nil)
  go_simp
  go_at_call 31
  refine (nnodes_any _ l _ (HP.out.below (Below.refl _ _).drew (Nat.le_refl _)) HL.out).mono ?_
  rintro e wa ⟨vn, xs, rfl, hown, rfl, hb⟩
  obtain ⟨an, cn, rfl⟩ := (IsSl.of_own hown).form
  have hb2 : Below w1.heap.size w1 wa := below_drew_left hb
  have hq := block_cells (heap_later2 hb2 HS.out)
  refine hK.out _ _ ⟨hb2, hq.1 0 _ rfl, hq.1 1 _ rfl, hq.1 2 _ rfl⟩ (fun hHeld => ?_)
  clear hK K hown hb hq
  try simp only [Act.put, List.getElem_toArray, List.getElem_cons_zero, List.getElem_cons_succ, List.setIfInBounds_toArray, List.set_cons_zero, List.set_cons_succ]
  refine wpAnyH_take (i := 5) (v := .int .i64 (nds l).length) rfl (by kernel_rfl) (by kernel_rfl) (by kernel_rfl) (fun _ _ _ h => h) (Or.inl ⟨by kernel_rfl, ?_⟩) hHeld ?_
  · intro w' hSw
    obtain ⟨-, z0, z1, z2⟩ := hSw
    go_simp
  simp only [Act.put, List.getElem_toArray, List.getElem_cons_zero, List.getElem_cons_succ, List.setIfInBounds_toArray, List.set_cons_zero, List.set_cons_succ]
  refine wpAnyH_take (i := 6) (v := .bool true) rfl (by kernel_rfl) (by kernel_rfl) (by kernel_rfl) (fun _ _ _ h => h) (Or.inl ⟨by kernel_rfl, ?_⟩) hHeld ?_
  · intro w' hSw
    obtain ⟨-, z0, z1, z2⟩ := hSw
    go_simp
  simp only [Act.put, List.getElem_toArray, List.getElem_cons_zero, List.getElem_cons_succ, List.setIfInBounds_toArray, List.set_cons_zero, List.set_cons_succ]
  refine wpAnyH_take (i := 7) (v := .bool true) rfl (by kernel_rfl) (by kernel_rfl) (by kernel_rfl) (fun _ _ _ h => h) (Or.inl ⟨by kernel_rfl, ?_⟩) hHeld ?_
  · intro w' hSw
    obtain ⟨-, z0, z1, z2⟩ := hSw
    go_simp
  simp only [Act.put, List.getElem_toArray, List.getElem_cons_zero, List.getElem_cons_succ, List.setIfInBounds_toArray, List.set_cons_zero, List.set_cons_succ]
  refine wpAnyH_take (i := 8) (v := undef) rfl (by kernel_rfl) (by kernel_rfl) (by kernel_rfl) (fun _ _ _ h => h) (Or.inr ⟨by kernel_rfl, rfl⟩) hHeld ?_
  simp only [Act.put, List.getElem_toArray, List.getElem_cons_zero, List.getElem_cons_succ, List.setIfInBounds_toArray, List.set_cons_zero, List.set_cons_succ]
  refine wpAnyH_take (i := 9) (v := undef) rfl (by kernel_rfl) (by kernel_rfl) (by kernel_rfl) (fun _ _ _ h => h) (Or.inr ⟨by kernel_rfl, rfl⟩) hHeld ?_
  simp only [Act.put, List.getElem_toArray, List.getElem_cons_zero, List.getElem_cons_succ, List.setIfInBounds_toArray, List.set_cons_zero, List.set_cons_succ]
  refine wpAnyH_take (i := 10) (v := undef) rfl (by kernel_rfl) (by kernel_rfl) (by kernel_rfl) (fun _ _ _ h => h) (Or.inr ⟨by kernel_rfl, rfl⟩) hHeld ?_
  simp only [Act.put, List.getElem_toArray, List.getElem_cons_zero, List.getElem_cons_succ, List.setIfInBounds_toArray, List.set_cons_zero, List.set_cons_succ]
  refine wpAnyH_take (i := 11) (v := undef) rfl (by kernel_rfl) (by kernel_rfl) (by kernel_rfl) (fun _ _ _ h => h) (Or.inr ⟨by kernel_rfl, rfl⟩) hHeld ?_
  simp only [Act.put, List.getElem_toArray, List.getElem_cons_zero, List.getElem_cons_succ, List.setIfInBounds_toArray, List.set_cons_zero, List.set_cons_succ]
  refine wpAnyH_take (i := 12) (v := undef) rfl (by kernel_rfl) (by kernel_rfl) (by kernel_rfl) (fun _ _ _ h => h) (Or.inr ⟨by kernel_rfl, rfl⟩) hHeld ?_
  simp only [Act.put, List.getElem_toArray, List.getElem_cons_zero, List.getElem_cons_succ, List.setIfInBounds_toArray, List.set_cons_zero, List.set_cons_succ]
  refine wpAnyH_take (i := 13) (v := undef) rfl (by kernel_rfl) (by kernel_rfl) (by kernel_rfl) (fun _ _ _ h => h) (Or.inr ⟨by kernel_rfl, rfl⟩) hHeld ?_
  simp only [Act.put, List.getElem_toArray, List.getElem_cons_zero, List.getElem_cons_succ, List.setIfInBounds_toArray, List.set_cons_zero, List.set_cons_succ]
  refine wpAnyH_take (i := 14) (v := undef) rfl (by kernel_rfl) (by kernel_rfl) (by kernel_rfl) (fun _ _ _ h => h) (Or.inr ⟨by kernel_rfl, rfl⟩) hHeld ?_
  simp only [Act.put, List.getElem_toArray, List.getElem_cons_zero, List.getElem_cons_succ, List.setIfInBounds_toArray, List.set_cons_zero, List.set_cons_succ]
  refine wpAnyH_take (i := 15) (v := .bool true) rfl (by kernel_rfl) (by kernel_rfl) (by kernel_rfl) (fun _ _ _ h => h) (Or.inl ⟨by kernel_rfl, ?_⟩) hHeld ?_
  · intro w' hSw
    obtain ⟨-, z0, z1, z2⟩ := hSw
    go_simp
  simp only [Act.put, List.getElem_toArray, List.getElem_cons_zero, List.getElem_cons_succ, List.setIfInBounds_toArray, List.set_cons_zero, List.set_cons_succ]
  refine wpAnyH_done (by kernel_rfl) ?_ _
  have HB2 := hid (below_next HBW.out hb2)
  (try simp only [Exit.inBlock, Exit.then])
  go_wp2_with fail
  (try rw [Exit.noGoto_ret])
  go_ret
  exact ⟨by rw [chk_4 rfl (fun h => HLV.out h.1)]; rfl, HB2.out⟩
set_option maxRecDepth 100000 in
set_option maxHeartbeats 2000000 in
theorem check_a (g : Nat) (l : List El) (o : Nat) (v1 v2 : Value) (V A : List Cx) (w : World) (hp : NN w (.pointer (some ⟨g, 0, none⟩)) l) (hl : l.length ≤ 100000) (hn : has (l.map El.name) ⟨#[]⟩ = false)
    (h1 : IsSl w 1 v1 V.length (V.map mkC)) (h2 : IsSl w 1 v2 A.length (A.map mkC)) (hlv : V.length * 16 ≤ 140737488351232) (hla : A.length * 16 ≤ 140737488351232) (hv : V.length = (nds l).length) (ha : ¬ A.length = (brs l).length) :
    Calls Tryz.prog 45 #[.pointer (some ⟨g, 0, none⟩), .agg #[.float .f64 o, v1, v2]] w (RetI (chkS false l V A) w) := by
  obtain ⟨a1, c1, rfl⟩ := h1.form
  obtain ⟨a2, c2, rfl⟩ := h2.form
  obtain ⟨i0, hi, hz0, hz1, hz2⟩ := info_parts infoC
  have hbw := (Below.refl w.heap.size w).alloc (Nat.le_refl _) (.cells #[.float .f64 o, .slice a1 V.length c1, .slice a2 A.length c2] 63)
  have hs0 := heap_alloc_new w (.cells #[.float .f64 o, .slice a1 V.length c1, .slice a2 A.length c2] 63)
  have HP := hid (hp.below' hbw)
  have HV := hid (h1.below hbw (Nat.le_refl _))
  have HA := hid (h2.below hbw (Nat.le_refl _))
  have HBW := hid hbw
  have HS := hid hs0
  have HL := hid hl
  clear h1 h2 hbw hs0 hl
  obtain ⟨q1, q2, q3⟩ := beq_of hv
  obtain ⟨r1, r2, r3⟩ := bne_of ha
  have HLA := hid ha
  clear hv ha
  go_enter Tryz.func45, Tryz.ntmps45
  go_upto_region 1 with fail
  generalize w.alloc (.cells #[.float .f64 o, .slice a1 V.length c1, .slice a2 A.length c2] 63) = w1 at *
  have hsc := (block_cells HS.out).1
  have s0 := hsc 0 _ rfl
  have s1 := hsc 1 _ rfl
  have s2 := hsc 2 _ rfl
  clear hsc
  go_upto_region 4 with (go_at_call 53; refine (nwithout_none _ l _ HP.out hn).mono ?_; rintro e w2 ⟨rfl, rfl⟩; rw [show (if noNet (.pointer (some ⟨g, 0, none⟩)) = true then (1 : Int) else 10) = 10 from rfl])
  refine wp_region_held_drew (S := fun w' => Below w1.heap.size w1 w' ∧ w'.cell? ⟨w.heap.size, 0, none⟩ = some (.float .f64 o) ∧ w'.cell? ⟨w.heap.size, 1, none⟩ = some (.slice a1 V.length c1) ∧ w'.cell? ⟨w.heap.size, 2, none⟩ = some (.slice a2 A.length c2)) (by kernel_rfl) ⟨(Below.refl _ _).drew, s0, s1, s2⟩ (fun hHeld => ?_)
  refine wpAnyH_take (i := 0) (v := .pointer (some ⟨w.heap.size, 1, none⟩)) rfl (by kernel_rfl) (by kernel_rfl) (by kernel_rfl) (fun _ _ _ h => h) (Or.inl ⟨by kernel_rfl, ?_⟩) hHeld ?_
  · intro w' hSw
    obtain ⟨-, z0, z1, z2⟩ := hSw
    go_simp
  simp only [Act.put, List.getElem_toArray, List.getElem_cons_zero, List.getElem_cons_succ, List.setIfInBounds_toArray, List.set_cons_zero, List.set_cons_succ]
  refine wpAnyH_take (i := 1) (v := .slice a1 V.length c1) rfl (by kernel_rfl) (by kernel_rfl) (by kernel_rfl) (fun _ _ _ h => h) (Or.inl ⟨by kernel_rfl, ?_⟩) hHeld ?_
  · intro w' hSw
    obtain ⟨-, z0, z1, z2⟩ := hSw
    go_simp
  simp only [Act.put, List.getElem_toArray, List.getElem_cons_zero, List.getElem_cons_succ, List.setIfInBounds_toArray, List.set_cons_zero, List.set_cons_succ]
  refine wpAnyH_take (i := 2) (v := .int .i64 V.length) rfl (by kernel_rfl) (by kernel_rfl) (by kernel_rfl) (fun _ _ _ h => h) (Or.inl ⟨by kernel_rfl, ?_⟩) hHeld ?_
  · intro w' hSw
    obtain ⟨-, z0, z1, z2⟩ := hSw
    go_simp
  simp only [Act.put, List.getElem_toArray, List.getElem_cons_zero, List.getElem_cons_succ, List.setIfInBounds_toArray, List.set_cons_zero, List.set_cons_succ]
  refine wpAnyH_take (i := 3) (v := .pointer (some ⟨g, 0, none⟩)) rfl (by kernel_rfl) (by kernel_rfl) (by kernel_rfl) (fun _ _ _ h => h) (Or.inl ⟨by kernel_rfl, ?_⟩) hHeld ?_
  · intro w' hSw
    obtain ⟨-, z0, z1, z2⟩ := hSw
    go_simp
  simp only [Act.put, List.getElem_toArray, List.getElem_cons_zero, List.getElem_cons_succ, List.setIfInBounds_toArray, List.set_cons_zero, List.set_cons_succ]
  refine wpAnyH_ready (rs := [4]) (by kernel_rfl) (by simp) (AllReadyH.cons rfl (fun K hK => ?_) AllReadyH.nil)
  go_simp
  go_at_call 31
  refine (nnodes_any _ l _ (HP.out.below (Below.refl _ _).drew (Nat.le_refl _)) HL.out).mono ?_
  rintro e wa ⟨vn, xs, rfl, hown, rfl, hb⟩
  obtain ⟨an, cn, rfl⟩ := (IsSl.of_own hown).form
  have hb2 : Below w1.heap.size w1 wa := below_drew_left hb
  have hq := block_cells (heap_later2 hb2 HS.out)
  refine hK.out _ _ ⟨hb2, hq.1 0 _ rfl, hq.1 1 _ rfl, hq.1 2 _ rfl⟩ (fun hHeld => ?_)
  clear hK K hown hb hq
  try simp only [Act.put, List.getElem_toArray, List.getElem_cons_zero, List.getElem_cons_succ, List.setIfInBounds_toArray, List.set_cons_zero, List.set_cons_succ]
  refine wpAnyH_take (i := 5) (v := .int .i64 (nds l).length) rfl (by kernel_rfl) (by kernel_rfl) (by kernel_rfl) (fun _ _ _ h => h) (Or.inl ⟨by kernel_rfl, ?_⟩) hHeld ?_
  · intro w' hSw
    obtain ⟨-, z0, z1, z2⟩ := hSw
    go_simp
  simp only [Act.put, List.getElem_toArray, List.getElem_cons_zero, List.getElem_cons_succ, List.setIfInBounds_toArray, List.set_cons_zero, List.set_cons_succ]
  refine wpAnyH_take (i := 6) (v := .bool false) rfl (by kernel_rfl) (by kernel_rfl) (by kernel_rfl) (fun _ _ _ h => h) (Or.inl ⟨by kernel_rfl, ?_⟩) hHeld ?_
  · intro w' hSw
    obtain ⟨-, z0, z1, z2⟩ := hSw
    go_simp
  simp only [Act.put, List.getElem_toArray, List.getElem_cons_zero, List.getElem_cons_succ, List.setIfInBounds_toArray, List.set_cons_zero, List.set_cons_succ]
  refine wpAnyH_take (i := 7) (v := .bool false) rfl (by kernel_rfl) (by kernel_rfl) (by kernel_rfl) (fun _ _ _ h => h) (Or.inl ⟨by kernel_rfl, ?_⟩) hHeld ?_
  · intro w' hSw
    obtain ⟨-, z0, z1, z2⟩ := hSw
    go_simp
  simp only [Act.put, List.getElem_toArray, List.getElem_cons_zero, List.getElem_cons_succ, List.setIfInBounds_toArray, List.set_cons_zero, List.set_cons_succ]
  refine wpAnyH_take (i := 8) (v := .pointer (some ⟨w.heap.size, 2, none⟩)) rfl (by kernel_rfl) (by kernel_rfl) (by kernel_rfl) (fun _ _ _ h => h) (Or.inl ⟨by kernel_rfl, ?_⟩) hHeld ?_
  · intro w' hSw
    obtain ⟨-, z0, z1, z2⟩ := hSw
    go_simp
  simp only [Act.put, List.getElem_toArray, List.getElem_cons_zero, List.getElem_cons_succ, List.setIfInBounds_toArray, List.set_cons_zero, List.set_cons_succ]
  refine wpAnyH_take (i := 9) (v := .slice a2 A.length c2) rfl (by kernel_rfl) (by kernel_rfl) (by kernel_rfl) (fun _ _ _ h => h) (Or.inl ⟨by kernel_rfl, ?_⟩) hHeld ?_
  · intro w' hSw
    obtain ⟨-, z0, z1, z2⟩ := hSw
    go_simp
  simp only [Act.put, List.getElem_toArray, List.getElem_cons_zero, List.getElem_cons_succ, List.setIfInBounds_toArray, List.set_cons_zero, List.set_cons_succ]
  refine wpAnyH_take (i := 10) (v := .int .i64 A.length) rfl (by kernel_rfl) (by kernel_rfl) (by kernel_rfl) (fun _ _ _ h => h) (Or.inl ⟨by kernel_rfl, ?_⟩) hHeld ?_
  · intro w' hSw
    obtain ⟨-, z0, z1, z2⟩ := hSw
    go_simp
  simp only [Act.put, List.getElem_toArray, List.getElem_cons_zero, List.getElem_cons_succ, List.setIfInBounds_toArray, List.set_cons_zero, List.set_cons_succ]
  refine wpAnyH_take (i := 11) (v := .pointer (some ⟨g, 0, none⟩)) rfl (by kernel_rfl) (by kernel_rfl) (by kernel_rfl) (fun _ _ _ h => h) (Or.inl ⟨by kernel_rfl, ?_⟩) hHeld ?_
  · intro w' hSw
    obtain ⟨-, z0, z1, z2⟩ := hSw
    go_simp
  simp only [Act.put, List.getElem_toArray, List.getElem_cons_zero, List.getElem_cons_succ, List.setIfInBounds_toArray, List.set_cons_zero, List.set_cons_succ]
  refine wpAnyH_ready (rs := [12]) (by kernel_rfl) (by simp) (AllReadyH.cons rfl (fun K hK => ?_) AllReadyH.nil)
  go_simp
  go_at_call 44
  refine (nbranches_any _ l _ (HP.out.below hb2 (Nat.le_refl _)) HL.out).mono ?_
  rintro e w2 ⟨vb, xs, rfl, hown, rfl, hb⟩
  obtain ⟨an4, cn4, rfl⟩ := (IsSl.of_own hown).form
  have hb4 : Below w1.heap.size w1 w2 := below_next hb2 hb
  have hq := block_cells (heap_later2 hb4 HS.out)
  refine hK.out _ _ ⟨hb4, hq.1 0 _ rfl, hq.1 1 _ rfl, hq.1 2 _ rfl⟩ (fun hHeld => ?_)
  clear hK K hown hb hq
  try simp only [Act.put, List.getElem_toArray, List.getElem_cons_zero, List.getElem_cons_succ, List.setIfInBounds_toArray, List.set_cons_zero, List.set_cons_succ]
  refine wpAnyH_take (i := 13) (v := .int .i64 (brs l).length) rfl (by kernel_rfl) (by kernel_rfl) (by kernel_rfl) (fun _ _ _ h => h) (Or.inl ⟨by kernel_rfl, ?_⟩) hHeld ?_
  · intro w' hSw
    obtain ⟨-, z0, z1, z2⟩ := hSw
    go_simp
  simp only [Act.put, List.getElem_toArray, List.getElem_cons_zero, List.getElem_cons_succ, List.setIfInBounds_toArray, List.set_cons_zero, List.set_cons_succ]
  refine wpAnyH_take (i := 14) (v := .bool true) rfl (by kernel_rfl) (by kernel_rfl) (by kernel_rfl) (fun _ _ _ h => h) (Or.inl ⟨by kernel_rfl, ?_⟩) hHeld ?_
  · intro w' hSw
    obtain ⟨-, z0, z1, z2⟩ := hSw
    go_simp
  simp only [Act.put, List.getElem_toArray, List.getElem_cons_zero, List.getElem_cons_succ, List.setIfInBounds_toArray, List.set_cons_zero, List.set_cons_succ]
  refine wpAnyH_take (i := 15) (v := .bool true) rfl (by kernel_rfl) (by kernel_rfl) (by kernel_rfl) (fun _ _ _ h => h) (Or.inl ⟨by kernel_rfl, ?_⟩) hHeld ?_
  · intro w' hSw
    obtain ⟨-, z0, z1, z2⟩ := hSw
    go_simp
  simp only [Act.put, List.getElem_toArray, List.getElem_cons_zero, List.getElem_cons_succ, List.setIfInBounds_toArray, List.set_cons_zero, List.set_cons_succ]
  refine wpAnyH_done (by kernel_rfl) ?_ _
  clear hHeld
  have HB2 := hid (below_next HBW.out hb4)
  have HV2 := hid (HV.out.below hb4 (Nat.le_refl _))
  have HA2 := hid (HA.out.below hb4 (Nat.le_refl _))
  have HS2 := hid (heap_later2 hb4 HS.out)
  clear hb2 hb4 s0 s1 s2
  (try simp only [Exit.inBlock, Exit.then])
  go_wp2_with fail
  (try rw [Exit.noGoto_ret])
  go_ret
  exact ⟨by rw [chk_4 rfl (fun h => HLA.out h.2)]; rfl, HB2.out⟩
end Go.Proofs.YtlaibmeokghdmaaGreatDoor
