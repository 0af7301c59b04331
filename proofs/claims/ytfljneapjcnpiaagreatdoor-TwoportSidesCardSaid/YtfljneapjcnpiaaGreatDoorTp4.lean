/- TwoportSides walked: any numbers, any ref: a two-port that is the same from both sides sends waves back alike; one that carries alike both ways carries waves alike. -/
import Derived.Test.YtfljneapjcnpiaaGreatDoorTp3
import Derived.Test.YtfljneapjcnpiaaGreatDoorNegR
import Derived.Test.YtfljneapjcnpiaaGreatDoorNums
namespace Go.Proofs.YtfljneapjcnpiaaGreatDoor
open Go.RowKit

theorem prod_comm (d e : Ieee.Datum) : d.product e = e.product d := by
  cases d <;> cases e <;> simp only [Ieee.Datum.product, Bool.xor_comm, Nat.mul_comm, Int.add_comm]
theorem fmul_comm (x y : Nat) : fmul x y = fmul y x := by
  show ((Ieee.Datum.product (Ieee.double.read x) (Ieee.double.read y)).map Ieee.double.write).getD qnan = ((Ieee.Datum.product (Ieee.double.read y) (Ieee.double.read x)).map Ieee.double.write).getD qnan
  rw [prod_comm]
theorem fadd_comm (x y : Nat) : fadd x y = fadd y x := by
  show ((Ieee.Datum.sum (Ieee.double.read x) (Ieee.double.read y)).map Ieee.double.write).getD qnan = ((Ieee.Datum.sum (Ieee.double.read y) (Ieee.double.read x)).map Ieee.double.write).getD qnan
  rw [sum_comm]
theorem cmul_comm (a b : Cx) : cmul a b = cmul b a := by
  unfold cmul
  rw [fmul_comm a.1 b.1, fmul_comm a.2 b.2, fmul_comm a.1 b.2, fmul_comm a.2 b.1, fadd_comm]
theorem ck_ck (z : Cx) : ck (ck z) = ck z := Prod.ext (fc_fc _) (fc_fc _)
theorem told_zero {k : Int} {a b c d : Cx} (h : (toldS k a b c d).2 = 0) : (toldS k a b c d).1 = (2, [ck a, ck b, ck c, ck d]) ∧ cfin (ck a) = true ∧ cfin (ck b) = true ∧ cfin (ck c) = true ∧ cfin (ck d) = true := by
  unfold toldS at *
  by_cases hk : k = 0
  · rw [if_neg (by simpa using hk)] at h ⊢
    by_cases hf : fin4 a b c d = true
    · rw [if_pos hf]
      unfold fin4 at hf
      simp only [Bool.and_eq_true] at hf
      exact ⟨rfl, hf.1.1.1, hf.1.1.2, hf.1.2, hf.2⟩
    · rw [if_neg hf] at h; cases h
  · rw [if_pos hk] at h; exact absurd h hk
theorem sQ_zero {a b c d : Cx} {ref : Nat} (h : (sQ a b c d ref).2 = 0) : ∃ x y z u : Cx, (sQ a b c d ref).1 = (2, [x, y, z, u]) ∧ cfin x = true ∧ cfin y = true ∧ cfin z = true ∧ cfin u = true ∧ (a = d → x = u) ∧ (b = c → y = z) := by
  unfold sQ at *
  by_cases hf : fin4 a b c d = true
  · rw [if_pos hf] at h ⊢
    unfold sS at *
    by_cases ha : angE ref = 0
    · rw [if_neg (by simpa using ha)] at h ⊢
      obtain ⟨h1, h2, h3, h4, h5⟩ := told_zero h
      refine ⟨_, _, _, _, h1, h2, h3, h4, h5, ?_, ?_⟩
      · rintro rfl; unfold o1 o4; rw [cmul_comm (sM (ck a) (fc ref))]
      · rintro rfl; rfl
    · rw [if_pos (by simpa using ha)] at h; exact absurd h ha
  · rw [if_neg hf] at h; cases h
theorem eq_of_ck {x y z : Cx} (h1 : ck x = z) (h2 : ck y = z) (hcf : cfin z = true) : FloatKind.f64.format.order x.1 y.1 = some .eq ∧ FloatKind.f64.format.order x.2 y.2 = some .eq := by
  obtain ⟨x1, x2⟩ := x
  obtain ⟨y1, y2⟩ := y
  obtain ⟨r1, r2⟩ := cx_bits (r := x1) (i := x2) h1 hcf
  obtain ⟨r3, r4⟩ := cx_bits (r := y1) (i := y2) h2 hcf
  obtain ⟨q1, q2⟩ := cx_self hcf
  exact ⟨by dsimp only; rw [r1, r3]; exact q1, by dsimp only; rw [r2, r4]; exact q2⟩
/-- The numbers that S told, laid one by one. -/
theorem sides_laid {a b c d : Cx} {ref : Nat} {xs : List Cx} (h : (sQ a b c d ref).2 = 0) (hx : xs.map ck = (sQ a b c d ref).1.2) : ∃ x y z u : Cx, xs = [x, y, z, u] ∧ (a = d → FloatKind.f64.format.order x.1 u.1 = some .eq ∧ FloatKind.f64.format.order x.2 u.2 = some .eq) ∧ (b = c → FloatKind.f64.format.order y.1 z.1 = some .eq ∧ FloatKind.f64.format.order y.2 z.2 = some .eq) := by
  obtain ⟨p, q, r, s, h1, f1, f2, f3, f4, e1, e2⟩ := sQ_zero h
  rw [h1] at hx
  match xs, hx with
  | [x, y, z, u], hx =>
    simp only [List.map_cons, List.map_nil, List.cons.injEq, and_true] at hx
    obtain ⟨x1, x2, x3, x4⟩ := hx
    exact ⟨x, y, z, u, rfl, fun e => eq_of_ck x1 (x4.trans (e1 e).symm) f1, fun e => eq_of_ck x2 (x3.trans (e2 e).symm) f2⟩
set_option maxRecDepth 100000 in
set_option maxHeartbeats 1000000 in
theorem pair_any (a b c d : Cx) (w : World) :
    Calls Tryz.prog 10 #[mkC a, mkC b, mkC c, mkC d] w (fun e w' => ∃ q, e = .returned (.agg #[.int .i64 2, .int .i64 2, .slice (some ⟨q, 0, none⟩) 4 4]) ∧ w.heap.size ≤ q ∧ w'.heap[q]? = some (.cells #[mkC a, mkC b, mkC c, mkC d] 26 (0, 0)) ∧ Below w.heap.size w w') := by
  have hb1 := (Below.refl w.heap.size w).alloc (Nat.le_refl _) (.cells #[.int .i64 0, .int .i64 0, .slice none 0 0] 32)
  have HT := hid (heap_alloc_new w (.cells #[.int .i64 0, .int .i64 0, .slice none 0 0] 32))
  have HB := hid hb1
  clear hb1
  go_enter Tryz.func10, Tryz.ntmps10
  go_upto_region 1 with fail
  generalize w.alloc (.cells #[.int .i64 0, .int .i64 0, .slice none 0 0] 32) = w1 at *
  obtain ⟨gt, hgt⟩ : ∃ gt, w.heap.size = gt := ⟨_, rfl⟩
  have HLE := hid (show w.heap.size ≤ gt by omega)
  rw [hgt] at HT ⊢
  clear hgt
  have hsc := block_cells HT.out
  have t0 := hsc.1 0 _ rfl
  have t1 := hsc.1 1 _ rfl
  have t2 := hsc.1 2 _ rfl
  have f0 := hsc.2 0
  have f1 := hsc.2 1
  have f2 := hsc.2 2
  clear hsc
  have hsc := block_cells (heap_past_of (o' := (.cells #[mkC a, mkC b, mkC c, mkC d] 26)) HT.out)
  have n0 := hsc.1 0 _ rfl
  have n1 := hsc.1 1 _ rfl
  have n2 := hsc.1 2 _ rfl
  have m0 := hsc.2 0
  have m1 := hsc.2 1
  have m2 := hsc.2 2
  clear hsc t0 t1 t2 f0 f1 f2
  have HNE := hid (show w1.heap.size ≠ gt from fun e => by have := (Array.getElem?_eq_some_iff.1 HT.out).1; omega)
  have HLQ := hid (show w.heap.size ≤ w1.heap.size from HB.out.size)
  have HQ := hid (heap_alloc_new w1 (.cells #[mkC a, mkC b, mkC c, mkC d] 26))
  have HBA := hid (HB.out.alloc HB.out.size (.cells #[mkC a, mkC b, mkC c, mkC d] 26))
  go_wp2
  (try simp only [Exit.inBlock, Exit.then])
  (try rw [Exit.noGoto_ret])
  refine bodyPost_ret (v := .agg #[.int .i64 2, .int .i64 2, .slice (some ⟨w1.heap.size, 0, none⟩) 4 4]) ?_ rfl ⟨_, rfl, HLQ.out, heap_nextG (grown_m3 _ gt _ _ _) HNE.out HQ.out, below_m3 HBA.out HLE.out⟩
  rw [results_cell1Q rfl]
  go_simp
set_option maxRecDepth 100000 in
set_option maxHeartbeats 4000000 in
theorem sides_walk (a b c : Cx) (ref : Nat) (w : World) (hlv : ∀ w' : World, Below w.heap.size w w' → Calls Tryz.prog 6 #[] w' fun e w'' => e = .returned (.bool true) ∧ Below w'.heap.size w' w'') :
    Calls Tryz.prog 3 #[.agg #[.int .u64 a.1, .int .u64 a.2], .agg #[.int .u64 b.1, .int .u64 b.2], .agg #[.int .u64 c.1, .int .u64 c.2], .int .u64 ref] w fun e w' => e = .returned (.bool true) ∧ Below w.heap.size w w' := by
  have b2 := frombits_law
  have h0 := heap_alloc_new w (.cells #[.int .u64 a.1, .int .u64 a.2] 24)
  have h1 := heap_alloc_new (w.alloc (.cells #[.int .u64 a.1, .int .u64 a.2] 24)) (.cells #[.int .u64 b.1, .int .u64 b.2] 24)
  have h2 := heap_alloc_new ((w.alloc (.cells #[.int .u64 a.1, .int .u64 a.2] 24)).alloc (.cells #[.int .u64 b.1, .int .u64 b.2] 24)) (.cells #[.int .u64 c.1, .int .u64 c.2] 24)
  have hb : Below w.heap.size w (((w.alloc (.cells #[.int .u64 a.1, .int .u64 a.2] 24)).alloc (.cells #[.int .u64 b.1, .int .u64 b.2] 24)).alloc (.cells #[.int .u64 c.1, .int .u64 c.2] 24)) := (((Below.refl _ w).alloc (Nat.le_refl _) _).alloc (by simp) _).alloc (by simp; omega) _
  have HX := hid ((heap_alloc_old _ _ (by simp; omega)).trans ((heap_alloc_old _ _ (by simp)).trans h0) : (((w.alloc (.cells #[.int .u64 a.1, .int .u64 a.2] 24)).alloc (.cells #[.int .u64 b.1, .int .u64 b.2] 24)).alloc (.cells #[.int .u64 c.1, .int .u64 c.2] 24)).heap[w.heap.size]? = _)
  have HY := hid ((heap_alloc_old _ _ (by simp)).trans h1 : (((w.alloc (.cells #[.int .u64 a.1, .int .u64 a.2] 24)).alloc (.cells #[.int .u64 b.1, .int .u64 b.2] 24)).alloc (.cells #[.int .u64 c.1, .int .u64 c.2] 24)).heap[(w.alloc (.cells #[.int .u64 a.1, .int .u64 a.2] 24)).heap.size]? = _)
  have HZ := hid h2
  have HBW := hid hb
  have HLV := hid hlv
  clear h0 h1 h2 hb hlv
  rw [show ((w.alloc (.cells #[.int .u64 a.1, .int .u64 a.2] 24)).alloc (.cells #[.int .u64 b.1, .int .u64 b.2] 24)).heap.size = w.heap.size + 1 + 1 by simp] at HZ
  rw [show (w.alloc (.cells #[.int .u64 a.1, .int .u64 a.2] 24)).heap.size = w.heap.size + 1 by simp] at HY
  go_enter Tryz.func3, Tryz.ntmps3
  go_upto_region 1 with fail
  generalize ((w.alloc (.cells #[.int .u64 a.1, .int .u64 a.2] 24)).alloc (.cells #[.int .u64 b.1, .int .u64 b.2] 24)).alloc (.cells #[.int .u64 c.1, .int .u64 c.2] 24) = w1 at *
  obtain ⟨gx, hgx⟩ : ∃ gx, w.heap.size = gx := ⟨_, rfl⟩
  obtain ⟨gy, hgy⟩ : ∃ gy, gx + 1 = gy := ⟨_, rfl⟩
  obtain ⟨gz, hgz⟩ : ∃ gz, gy + 1 = gz := ⟨_, rfl⟩
  rw [hgx] at HX HY HZ ⊢
  rw [hgy] at HY HZ ⊢
  rw [hgz] at HZ ⊢
  clear hgx hgy hgz
  go_upto_region 3 with (go_at_call 6; refine (HLV.out _ HBW.out).mono ?_; rintro e w2 ⟨rfl, hb⟩; have HX1 := hid (heap_later2 hb HX.out); have HY1 := hid (heap_later2 hb HY.out); have HZ1 := hid (heap_later2 hb HZ.out); have HB1 := hid (below_next HBW.out hb); clear hb )
  clear HX HY HZ HBW
  refine wp_region_any (by kernel_rfl) ?_
  change wpAny _ _ _ _ _ _ _ (World.drew _)
  refine wpAny_makersD [⟨some 19, 0, []⟩, ⟨some 20, 1, []⟩, ⟨some 21, 2, []⟩, ⟨some 22, 3, []⟩, ⟨some 23, 4, []⟩, ⟨some 24, 5, []⟩]
    (fun w' => w'.heap[gx]? = some (.cells #[.int .u64 a.1, .int .u64 a.2] 24 (0, 0)) ∧ w'.heap[gy]? = some (.cells #[.int .u64 b.1, .int .u64 b.2] 24 (0, 0)) ∧ w'.heap[gz]? = some (.cells #[.int .u64 c.1, .int .u64 c.2] 24 (0, 0)))
    (fun oq v _ _ _ _ => match oq with | 0 => v = .agg #[.int .u64 a.1, .int .u64 a.2] | 1 => v = mkC a | 2 => v = .agg #[.int .u64 b.1, .int .u64 b.2] | 3 => v = mkC b | 4 => v = .agg #[.int .u64 c.1, .int .u64 c.2] | 5 => v = mkC c | _ => True) (by kernel_rfl) ?hSz (fun _ _ hb h => ⟨heap_next hb h.1, heap_next hb h.2.1, heap_next hb h.2.2⟩) (fun _ _ _ _ _ _ _ _ _ h => h) ?hopz ?hendz
  case hSz => exact ⟨heap_next (Below.refl _ _).drew HX1.out, heap_next (Below.refl _ _).drew HY1.out, heap_next (Below.refl _ _).drew HZ1.out⟩
  case hopz =>
    delta Owed
    simp only [fillD, Act.put, List.setIfInBounds_toArray, List.set_cons_zero, List.set_cons_succ]
    refine Each.cons rfl ?_ (Each.cons rfl ?_ (Each.cons rfl ?_ (Each.cons rfl ?_ (Each.cons rfl ?_ (Each.cons rfl ?_ Each.nil)))))
    · intro vs w2 hb2 hS2 hR2 K hK
      simp only [List.set_cons_zero, List.set_cons_succ] at hK ⊢
      obtain ⟨k0, k1, k2, k3, k4, k5⟩ : w2.cell? ⟨gx, 0, none⟩ = some (.int .u64 a.1) ∧ w2.cell? ⟨gx, 1, none⟩ = some (.int .u64 a.2) ∧ w2.cell? ⟨gy, 0, none⟩ = some (.int .u64 b.1) ∧ w2.cell? ⟨gy, 1, none⟩ = some (.int .u64 b.2) ∧ w2.cell? ⟨gz, 0, none⟩ = some (.int .u64 c.1) ∧ w2.cell? ⟨gz, 1, none⟩ = some (.int .u64 c.2) := ⟨(cells_ofS hS2.1).1 0 _ rfl, (cells_ofS hS2.1).1 1 _ rfl, (cells_ofS hS2.2.1).1 0 _ rfl, (cells_ofS hS2.2.1).1 1 _ rfl, (cells_ofS hS2.2.2).1 0 _ rfl, (cells_ofS hS2.2.2).1 1 _ rfl⟩
      go_simp
      exact hK.out _ _ (Below.refl _ _) rfl
    · intro vs w2 hb2 hS2 hR2 K hK
      have h0 : vs 0 = .agg #[.int .u64 a.1, .int .u64 a.2] := by obtain ⟨_, _, _, h⟩ := hR2 0 (by kernel_rfl); exact h
      simp only [List.set_cons_zero, List.set_cons_succ] at hK ⊢
      simp only [h0] at hK ⊢
      rw [if_pos (by rfl)]
      go_wp2_with (go_at_call 7; refine (number_c a.1 a.2 _).mono ?_; rintro e w5 ⟨rfl, hb⟩)
      exact hK.out _ _ hb rfl
    · intro vs w2 hb2 hS2 hR2 K hK
      simp only [List.set_cons_zero, List.set_cons_succ] at hK ⊢
      obtain ⟨k0, k1, k2, k3, k4, k5⟩ : w2.cell? ⟨gx, 0, none⟩ = some (.int .u64 a.1) ∧ w2.cell? ⟨gx, 1, none⟩ = some (.int .u64 a.2) ∧ w2.cell? ⟨gy, 0, none⟩ = some (.int .u64 b.1) ∧ w2.cell? ⟨gy, 1, none⟩ = some (.int .u64 b.2) ∧ w2.cell? ⟨gz, 0, none⟩ = some (.int .u64 c.1) ∧ w2.cell? ⟨gz, 1, none⟩ = some (.int .u64 c.2) := ⟨(cells_ofS hS2.1).1 0 _ rfl, (cells_ofS hS2.1).1 1 _ rfl, (cells_ofS hS2.2.1).1 0 _ rfl, (cells_ofS hS2.2.1).1 1 _ rfl, (cells_ofS hS2.2.2).1 0 _ rfl, (cells_ofS hS2.2.2).1 1 _ rfl⟩
      go_simp
      exact hK.out _ _ (Below.refl _ _) rfl
    · intro vs w2 hb2 hS2 hR2 K hK
      have h2 : vs 2 = .agg #[.int .u64 b.1, .int .u64 b.2] := by obtain ⟨_, _, _, h⟩ := hR2 2 (by kernel_rfl); exact h
      simp only [List.set_cons_zero, List.set_cons_succ] at hK ⊢
      simp only [h2] at hK ⊢
      rw [if_pos (by rfl)]
      go_wp2_with (go_at_call 7; refine (number_c b.1 b.2 _).mono ?_; rintro e w5 ⟨rfl, hb⟩)
      exact hK.out _ _ hb rfl
    · intro vs w2 hb2 hS2 hR2 K hK
      simp only [List.set_cons_zero, List.set_cons_succ] at hK ⊢
      obtain ⟨k0, k1, k2, k3, k4, k5⟩ : w2.cell? ⟨gx, 0, none⟩ = some (.int .u64 a.1) ∧ w2.cell? ⟨gx, 1, none⟩ = some (.int .u64 a.2) ∧ w2.cell? ⟨gy, 0, none⟩ = some (.int .u64 b.1) ∧ w2.cell? ⟨gy, 1, none⟩ = some (.int .u64 b.2) ∧ w2.cell? ⟨gz, 0, none⟩ = some (.int .u64 c.1) ∧ w2.cell? ⟨gz, 1, none⟩ = some (.int .u64 c.2) := ⟨(cells_ofS hS2.1).1 0 _ rfl, (cells_ofS hS2.1).1 1 _ rfl, (cells_ofS hS2.2.1).1 0 _ rfl, (cells_ofS hS2.2.1).1 1 _ rfl, (cells_ofS hS2.2.2).1 0 _ rfl, (cells_ofS hS2.2.2).1 1 _ rfl⟩
      go_simp
      exact hK.out _ _ (Below.refl _ _) rfl
    · intro vs w2 hb2 hS2 hR2 K hK
      have h4 : vs 4 = .agg #[.int .u64 c.1, .int .u64 c.2] := by obtain ⟨_, _, _, h⟩ := hR2 4 (by kernel_rfl); exact h
      simp only [List.set_cons_zero, List.set_cons_succ] at hK ⊢
      simp only [h4] at hK ⊢
      rw [if_pos (by rfl)]
      go_wp2_with (go_at_call 7; refine (number_c c.1 c.2 _).mono ?_; rintro e w5 ⟨rfl, hb⟩)
      exact hK.out _ _ hb rfl
  case hendz =>
    intro vs wx lo hiv hbx hSx hRx hdx
    have h0 : vs 0 = .agg #[.int .u64 a.1, .int .u64 a.2] := (hRx 0 (by kernel_rfl)).1
    have H1 := (hRx 1 (by kernel_rfl)).1
    have h1 : vs 1 = mkC a := H1
    have h2 : vs 2 = .agg #[.int .u64 b.1, .int .u64 b.2] := (hRx 2 (by kernel_rfl)).1
    have H3 := (hRx 3 (by kernel_rfl)).1
    have h3 : vs 3 = mkC b := H3
    have h4 : vs 4 = .agg #[.int .u64 c.1, .int .u64 c.2] := (hRx 4 (by kernel_rfl)).1
    have H5 := (hRx 5 (by kernel_rfl)).1
    have h5 : vs 5 = mkC c := H5
    simp only [fillD, Act.put, List.setIfInBounds_toArray, List.set_cons_zero, List.set_cons_succ, h0, h1, h2, h3, h4, h5]
    have hb := below_drew_left hbx
    have HB2 := hid (below_next HB1.out hb)
    clear hbx hSx hRx hdx hb HB1 HX1 HY1 HZ1 h0 h1 h2 h3 h4 h5
    refine wpAny_one (i := 6) (by kernel_rfl) rfl (fun K hK => ?_)
    go_simp
    refine hK.out _ _ ?_
    clear hK
    refine wpAny_one (i := 7) (by kernel_rfl) rfl (fun K hK => ?_)
    go_simp
    refine hK.out _ _ ?_
    clear hK
    refine wpAny_one (i := 8) (by kernel_rfl) rfl (fun K hK => ?_)
    go_simp
    refine hK.out _ _ ?_
    clear hK
    refine wpAny_done (by kernel_rfl) ?_ _
    generalize wx = w3 at *
    go_upto_region 5 with fail
    obtain ⟨r1, L1, e1, hS1⟩ : ∃ r L e, sQ a b c a ref = ((r, L), e) := ⟨_, _, _, rfl⟩
    obtain ⟨r2, L2, e2, hS2⟩ : ∃ r L e, sQ a b b c ref = ((r, L), e) := ⟨_, _, _, rfl⟩
    have HS1 := hid hS1
    have HS2 := hid hS2
    clear hS1 hS2
    go_upto_region 6 with (first | (go_at_call 10; refine (pair_any a b c a _).mono ?_; rintro e w4 ⟨q1, rfl, hq, hqr, hb⟩; have HB3 := hid (below_next HB2.out hb); have HQ1 := hid (show IsSl w4 1 (.slice (some ⟨q1, 0, none⟩) 4 4) 4 [mkC a, mkC b, mkC c, mkC a] from IsSl.of_own (cells4_own hq hqr)); clear hq hqr; clear hb ) | (go_at_call 9; refine ((show Calls _ _ _ _ (RetM2 (sQ a b c a ref) _) from s4_any q1 0 4 a b c a ref _ HQ1.out)).mono ?_; rintro e w5 ⟨v1, x1, rfl, hx, hown, hb⟩; have HB4 := hid (below_next HB3.out hb); rw [HS1.out] at hx ⊢; (try dsimp only); have HX1 := hid hx; have HV1 := hid (IsSl.of_own hown); obtain ⟨c1, d1, rfl⟩ := HV1.out.form; clear hx hown; clear hb ))
    clear HB2 HB3 HQ1
    have HV15 := hid (HV1.out.below ((Below.refl w5.heap.size w5).alloc (Nat.le_refl _) (.cells #[.int .i64 r1, .int .i64 r1, .slice c1 x1.length d1] 32)) (Nat.le_refl _))
    have HB5 := hid (below_next HB4.out ((Below.refl w5.heap.size w5).alloc (Nat.le_refl _) (.cells #[.int .i64 r1, .int .i64 r1, .slice c1 x1.length d1] 32)))
    have HM1 := hid (heap_alloc_new w5 (.cells #[.int .i64 r1, .int .i64 r1, .slice c1 x1.length d1] 32))
    clear HV1 HB4
    generalize w5.alloc (.cells #[.int .i64 r1, .int .i64 r1, .slice c1 x1.length d1] 32) = w5a at *
    obtain ⟨m1, hm⟩ : ∃ m, w5.heap.size = m := ⟨_, rfl⟩
    rw [hm] at HM1 ⊢
    clear hm
    go_upto_region 7 with (first | (go_at_call 10; refine (pair_any a b b c _).mono ?_; rintro e w6 ⟨q2, rfl, hq, hqr, hb⟩; have HV16 := hid (HV15.out.below hb (Nat.le_refl _)); have HM16 := hid (heap_later2 hb HM1.out); have HB6 := hid (below_next HB5.out hb); have HQ2 := hid (show IsSl w6 1 (.slice (some ⟨q2, 0, none⟩) 4 4) 4 [mkC a, mkC b, mkC b, mkC c] from IsSl.of_own (cells4_own hq hqr)); clear hq hqr; clear hb ) | (go_at_call 9; refine ((show Calls _ _ _ _ (RetM2 (sQ a b b c ref) _) from s4_any q2 0 4 a b b c ref _ HQ2.out)).mono ?_; rintro e w7 ⟨v2, x2, rfl, hx, hown, hb⟩; have HV17 := hid (HV16.out.below hb (Nat.le_refl _)); have HM17 := hid (heap_later2 hb HM16.out); have HB7 := hid (below_next HB6.out hb); rw [HS2.out] at hx ⊢; (try dsimp only); have HX2 := hid hx; have HV2 := hid (IsSl.of_own hown); obtain ⟨c2, d2, rfl⟩ := HV2.out.form; clear hx hown; clear hb ))
    clear HV15 HM1 HB5 HV16 HM16 HB6 HQ2
    have HV18 := hid (HV17.out.below ((Below.refl w7.heap.size w7).alloc (Nat.le_refl _) (.cells #[.int .i64 r2, .int .i64 r2, .slice c2 x2.length d2] 32)) (Nat.le_refl _))
    have HM18 := hid (heap_later2 ((Below.refl w7.heap.size w7).alloc (Nat.le_refl _) (.cells #[.int .i64 r2, .int .i64 r2, .slice c2 x2.length d2] 32)) HM17.out)
    have HV28 := hid (HV2.out.below ((Below.refl w7.heap.size w7).alloc (Nat.le_refl _) (.cells #[.int .i64 r2, .int .i64 r2, .slice c2 x2.length d2] 32)) (Nat.le_refl _))
    have HB8 := hid (below_next HB7.out ((Below.refl w7.heap.size w7).alloc (Nat.le_refl _) (.cells #[.int .i64 r2, .int .i64 r2, .slice c2 x2.length d2] 32)))
    have HM2 := hid (heap_alloc_new w7 (.cells #[.int .i64 r2, .int .i64 r2, .slice c2 x2.length d2] 32))
    clear HV17 HM17 HV2 HB7
    generalize w7.alloc (.cells #[.int .i64 r2, .int .i64 r2, .slice c2 x2.length d2] 32) = w7a at *
    obtain ⟨m2, hm⟩ : ∃ m, w7.heap.size = m := ⟨_, rfl⟩
    rw [hm] at HM2 ⊢
    clear hm
    clear HLV
    by_cases h1 : e1 = 0
    · subst h1
      by_cases h2 : e2 = 0
      · subst h2
        obtain ⟨p1, q1, u1, s1, rfl, ha1, hb1⟩ := sides_laid (a := a) (b := b) (c := c) (d := a) (ref := ref) (xs := x1) (by rw [HS1.out]) (by rw [HX1.out, HS1.out])
        obtain ⟨w11, w12⟩ := ha1 rfl
        clear ha1 hb1
        have HL1 := hid (show IsSl _ 1 (.slice c1 4 d1) 4 [mkC p1, mkC q1, mkC u1, mkC s1] from HV18.out)
        obtain ⟨g1, o1, d', hsl, _, _⟩ := slice4 HL1.out
        cases hsl
        have HN1 := hid (show (_ : Option Obj) = some (.cells #[.int .i64 r1, .int .i64 r1, .slice (some ⟨g1, o1, none⟩) 4 d1] 32 (0, 0)) from HM18.out)
        obtain ⟨p2, q2, u2, s2, rfl, ha2, hb2⟩ := sides_laid (a := a) (b := b) (c := b) (d := c) (ref := ref) (xs := x2) (by rw [HS2.out]) (by rw [HX2.out, HS2.out])
        obtain ⟨w21, w22⟩ := hb2 rfl
        clear ha2 hb2
        have HL2 := hid (show IsSl _ 1 (.slice c2 4 d2) 4 [mkC p2, mkC q2, mkC u2, mkC s2] from HV28.out)
        obtain ⟨g2, o2, d', hsl, _, _⟩ := slice4 HL2.out
        cases hsl
        have HN2 := hid (show (_ : Option Obj) = some (.cells #[.int .i64 r2, .int .i64 r2, .slice (some ⟨g2, o2, none⟩) 4 d2] 32 (0, 0)) from HM2.out)
        refine wp_region_any (by kernel_rfl) ?_
        change wpAny _ _ _ _ _ _ _ (World.drew _)
        refine wpAny_makersD [⟨some 47, 0, []⟩, ⟨some 48, 1, []⟩, ⟨some 49, 2, []⟩, ⟨some 50, 3, []⟩, ⟨some 51, 4, []⟩, ⟨some 52, 5, []⟩, ⟨some 53, 6, []⟩, ⟨some 54, 7, []⟩, ⟨some 55, 8, []⟩, ⟨some 56, 9, []⟩, ⟨some 57, 10, []⟩, ⟨some 58, 11, []⟩, ⟨some 59, 12, []⟩, ⟨some 60, 13, []⟩, ⟨some 61, 14, []⟩, ⟨some 62, 15, []⟩, ⟨some 63, 16, []⟩, ⟨some 64, 17, []⟩, ⟨some 65, 18, []⟩, ⟨some 66, 19, []⟩, ⟨some 67, 20, []⟩, ⟨some 68, 21, []⟩, ⟨some 69, 22, []⟩, ⟨some 70, 23, []⟩, ⟨some 71, 24, []⟩, ⟨some 72, 25, []⟩, ⟨some 73, 26, []⟩, ⟨some 74, 27, []⟩, ⟨some 75, 28, []⟩, ⟨some 76, 29, []⟩, ⟨some 77, 30, []⟩, ⟨some 78, 31, []⟩, ⟨some 79, 32, []⟩, ⟨some 80, 33, []⟩, ⟨some 81, 34, []⟩, ⟨some 82, 35, []⟩, ⟨some 83, 36, []⟩, ⟨some 84, 37, []⟩, ⟨some 85, 38, []⟩, ⟨some 86, 39, []⟩]
          (fun w' => w'.heap[m1]? = some (.cells #[.int .i64 r1, .int .i64 r1, .slice (some ⟨g1, o1, none⟩) 4 d1] 32 (0, 0)) ∧ w'.heap[m2]? = some (.cells #[.int .i64 r2, .int .i64 r2, .slice (some ⟨g2, o2, none⟩) 4 d2] 32 (0, 0)) ∧ (IsSl w' 1 (.slice (some ⟨g1, o1, none⟩) 4 d1) 4 [mkC p1, mkC q1, mkC u1, mkC s1]) ∧ (IsSl w' 1 (.slice (some ⟨g2, o2, none⟩) 4 d2) 4 [mkC p2, mkC q2, mkC u2, mkC s2]))
          (fun oq v _ _ _ _ => match oq with | 0 => v = .int .i64 0 | 1 => v = .bool true | 2 => v = .bool true | 3 => v = .pointer (some ⟨m1, 2, none⟩) | 4 => v = .slice (some ⟨g1, o1, none⟩) 4 d1 | 5 => v = .int .i64 4 | 6 => v = .bool false | 7 => v = .bool false | 8 => v = .pointer (some ⟨m1, 2, none⟩) | 9 => v = .slice (some ⟨g1, o1, none⟩) 4 d1 | 10 => v = .pointer (some ⟨g1, o1, none⟩) | 11 => v = mkC p1 | 12 => v = .pointer (some ⟨m1, 2, none⟩) | 13 => v = .slice (some ⟨g1, o1, none⟩) 4 d1 | 14 => v = .pointer (some ⟨g1, o1 + 3, none⟩) | 15 => v = mkC s1 | 16 => v = .bool false | 17 => v = .bool false | 18 => v = .bool false | 19 => v = .bool false | 20 => v = .int .i64 0 | 21 => v = .bool true | 22 => v = .bool true | 23 => v = .pointer (some ⟨m2, 2, none⟩) | 24 => v = .slice (some ⟨g2, o2, none⟩) 4 d2 | 25 => v = .int .i64 4 | 26 => v = .bool false | 27 => v = .bool false | 28 => v = .pointer (some ⟨m2, 2, none⟩) | 29 => v = .slice (some ⟨g2, o2, none⟩) 4 d2 | 30 => v = .pointer (some ⟨g2, o2 + 1, none⟩) | 31 => v = mkC q2 | 32 => v = .pointer (some ⟨m2, 2, none⟩) | 33 => v = .slice (some ⟨g2, o2, none⟩) 4 d2 | 34 => v = .pointer (some ⟨g2, o2 + 2, none⟩) | 35 => v = mkC u2 | 36 => v = .bool false | 37 => v = .bool false | 38 => v = .bool false | 39 => v = .bool false | _ => True) (by kernel_rfl) ?hSe (fun _ _ hb h => ⟨heap_next hb h.1, heap_next hb h.2.1, h.2.2.1.below hb (Nat.le_refl _), h.2.2.2.below hb (Nat.le_refl _)⟩) (fun _ _ _ _ _ _ _ _ _ h => h) ?hope ?hende
        case hSe => exact ⟨heap_next (Below.refl _ _).drew HN1.out, heap_next (Below.refl _ _).drew HN2.out, HL1.out.below (Below.refl _ _).drew (Nat.le_refl _), HL2.out.below (Below.refl _ _).drew (Nat.le_refl _)⟩
        case hope =>
          delta Owed
          simp only [fillD, Act.put, List.setIfInBounds_toArray, List.set_cons_zero, List.set_cons_succ]
          refine Each.cons rfl ?_ (Each.cons rfl ?_ (Each.cons rfl ?_ (Each.cons rfl ?_ (Each.cons rfl ?_ (Each.cons rfl ?_ (Each.cons rfl ?_ (Each.cons rfl ?_ (Each.cons rfl ?_ (Each.cons rfl ?_ (Each.cons rfl ?_ (Each.cons rfl ?_ (Each.cons rfl ?_ (Each.cons rfl ?_ (Each.cons rfl ?_ (Each.cons rfl ?_ (Each.cons rfl ?_ (Each.cons rfl ?_ (Each.cons rfl ?_ (Each.cons rfl ?_ (Each.cons rfl ?_ (Each.cons rfl ?_ (Each.cons rfl ?_ (Each.cons rfl ?_ (Each.cons rfl ?_ (Each.cons rfl ?_ (Each.cons rfl ?_ (Each.cons rfl ?_ (Each.cons rfl ?_ (Each.cons rfl ?_ (Each.cons rfl ?_ (Each.cons rfl ?_ (Each.cons rfl ?_ (Each.cons rfl ?_ (Each.cons rfl ?_ (Each.cons rfl ?_ (Each.cons rfl ?_ (Each.cons rfl ?_ (Each.cons rfl ?_ (Each.cons rfl ?_ Each.nil)))))))))))))))))))))))))))))))))))))))
          · intro vs w2 hb2 hS2 hR2 K hK
            simp only [List.set_cons_zero, List.set_cons_succ] at hK ⊢
            go_simp
            exact hK.out _ _ (Below.refl _ _) rfl
          · intro vs w2 hb2 hS2 hR2 K hK
            have h0 : vs 0 = .int .i64 0 := by obtain ⟨_, _, _, h⟩ := hR2 0 (by kernel_rfl); exact h
            simp only [List.set_cons_zero, List.set_cons_succ] at hK ⊢
            simp only [h0] at hK ⊢
            go_simp
            exact hK.out _ _ (Below.refl _ _) rfl
          · intro vs w2 hb2 hS2 hR2 K hK
            have h1 : vs 1 = .bool true := by obtain ⟨_, _, _, h⟩ := hR2 1 (by kernel_rfl); exact h
            simp only [List.set_cons_zero, List.set_cons_succ] at hK ⊢
            simp only [h1] at hK ⊢
            go_simp
            exact hK.out _ _ (Below.refl _ _) rfl
          · intro vs w2 hb2 hS2 hR2 K hK
            have h2 : vs 2 = .bool true := by obtain ⟨_, _, _, h⟩ := hR2 2 (by kernel_rfl); exact h
            simp only [List.set_cons_zero, List.set_cons_succ] at hK ⊢
            simp only [h2] at hK ⊢
            rw [if_pos (by rfl)]
            go_simp
            exact hK.out _ _ (Below.refl _ _) rfl
          · intro vs w2 hb2 hS2 hR2 K hK
            have h2 : vs 2 = .bool true := by obtain ⟨_, _, _, h⟩ := hR2 2 (by kernel_rfl); exact h
            have h3 : vs 3 = .pointer (some ⟨m1, 2, none⟩) := by obtain ⟨_, _, _, h⟩ := hR2 3 (by kernel_rfl); exact h
            simp only [List.set_cons_zero, List.set_cons_succ] at hK ⊢
            have k0 := (cells_ofS hS2.1).1 2 _ rfl
            obtain ⟨k1, k2, k3, k4⟩ := slice4c hS2.2.2.1
            have k5 := (cells_ofS hS2.2.1).1 2 _ rfl
            obtain ⟨k6, k7, k8, k9⟩ := slice4c hS2.2.2.2
            simp only [h2, h3] at hK ⊢
            rw [if_pos (by rfl)]
            go_simp
            exact hK.out _ _ (Below.refl _ _) rfl
          · intro vs w2 hb2 hS2 hR2 K hK
            have h2 : vs 2 = .bool true := by obtain ⟨_, _, _, h⟩ := hR2 2 (by kernel_rfl); exact h
            have h4 : vs 4 = .slice (some ⟨g1, o1, none⟩) 4 d1 := by obtain ⟨_, _, _, h⟩ := hR2 4 (by kernel_rfl); exact h
            simp only [List.set_cons_zero, List.set_cons_succ] at hK ⊢
            simp only [h2, h4] at hK ⊢
            rw [if_pos (by rfl)]
            go_simp
            exact hK.out _ _ (Below.refl _ _) rfl
          · intro vs w2 hb2 hS2 hR2 K hK
            have h2 : vs 2 = .bool true := by obtain ⟨_, _, _, h⟩ := hR2 2 (by kernel_rfl); exact h
            have h5 : vs 5 = .int .i64 4 := by obtain ⟨_, _, _, h⟩ := hR2 5 (by kernel_rfl); exact h
            simp only [List.set_cons_zero, List.set_cons_succ] at hK ⊢
            simp only [h2, h5] at hK ⊢
            rw [if_pos (by rfl)]
            go_simp
            exact hK.out _ _ (Below.refl _ _) rfl
          · intro vs w2 hb2 hS2 hR2 K hK
            have h2 : vs 2 = .bool true := by obtain ⟨_, _, _, h⟩ := hR2 2 (by kernel_rfl); exact h
            have h6 : vs 6 = .bool false := by obtain ⟨_, _, _, h⟩ := hR2 6 (by kernel_rfl); exact h
            simp only [List.set_cons_zero, List.set_cons_succ] at hK ⊢
            simp only [h2, h6] at hK ⊢
            rw [if_pos (by rfl)]
            go_simp
            exact hK.out _ _ (Below.refl _ _) rfl
          · intro vs w2 hb2 hS2 hR2 K hK
            have h7 : vs 7 = .bool false := by obtain ⟨_, _, _, h⟩ := hR2 7 (by kernel_rfl); exact h
            simp only [List.set_cons_zero, List.set_cons_succ] at hK ⊢
            simp only [h7] at hK ⊢
            rw [if_pos (by rfl)]
            go_simp
            exact hK.out _ _ (Below.refl _ _) rfl
          · intro vs w2 hb2 hS2 hR2 K hK
            have h7 : vs 7 = .bool false := by obtain ⟨_, _, _, h⟩ := hR2 7 (by kernel_rfl); exact h
            have h8 : vs 8 = .pointer (some ⟨m1, 2, none⟩) := by obtain ⟨_, _, _, h⟩ := hR2 8 (by kernel_rfl); exact h
            simp only [List.set_cons_zero, List.set_cons_succ] at hK ⊢
            have k0 := (cells_ofS hS2.1).1 2 _ rfl
            obtain ⟨k1, k2, k3, k4⟩ := slice4c hS2.2.2.1
            have k5 := (cells_ofS hS2.2.1).1 2 _ rfl
            obtain ⟨k6, k7, k8, k9⟩ := slice4c hS2.2.2.2
            simp only [h7, h8] at hK ⊢
            rw [if_pos (by rfl)]
            go_simp
            exact hK.out _ _ (Below.refl _ _) rfl
          · intro vs w2 hb2 hS2 hR2 K hK
            have h7 : vs 7 = .bool false := by obtain ⟨_, _, _, h⟩ := hR2 7 (by kernel_rfl); exact h
            have h9 : vs 9 = .slice (some ⟨g1, o1, none⟩) 4 d1 := by obtain ⟨_, _, _, h⟩ := hR2 9 (by kernel_rfl); exact h
            simp only [List.set_cons_zero, List.set_cons_succ] at hK ⊢
            have k0 := (cells_ofS hS2.1).1 2 _ rfl
            obtain ⟨k1, k2, k3, k4⟩ := slice4c hS2.2.2.1
            have k5 := (cells_ofS hS2.2.1).1 2 _ rfl
            obtain ⟨k6, k7, k8, k9⟩ := slice4c hS2.2.2.2
            simp only [h7, h9] at hK ⊢
            rw [if_pos (by rfl)]
            go_simp
            exact hK.out _ _ (Below.refl _ _) rfl
          · intro vs w2 hb2 hS2 hR2 K hK
            have h7 : vs 7 = .bool false := by obtain ⟨_, _, _, h⟩ := hR2 7 (by kernel_rfl); exact h
            have h10 : vs 10 = .pointer (some ⟨g1, o1, none⟩) := by obtain ⟨_, _, _, h⟩ := hR2 10 (by kernel_rfl); exact h
            simp only [List.set_cons_zero, List.set_cons_succ] at hK ⊢
            have k0 := (cells_ofS hS2.1).1 2 _ rfl
            obtain ⟨k1, k2, k3, k4⟩ := slice4c hS2.2.2.1
            have k5 := (cells_ofS hS2.2.1).1 2 _ rfl
            obtain ⟨k6, k7, k8, k9⟩ := slice4c hS2.2.2.2
            simp only [h7, h10] at hK ⊢
            rw [if_pos (by rfl)]
            go_simp
            exact hK.out _ _ (Below.refl _ _) rfl
          · intro vs w2 hb2 hS2 hR2 K hK
            have h7 : vs 7 = .bool false := by obtain ⟨_, _, _, h⟩ := hR2 7 (by kernel_rfl); exact h
            simp only [List.set_cons_zero, List.set_cons_succ] at hK ⊢
            simp only [h7] at hK ⊢
            rw [if_pos (by rfl)]
            go_simp
            exact hK.out _ _ (Below.refl _ _) rfl
          · intro vs w2 hb2 hS2 hR2 K hK
            have h7 : vs 7 = .bool false := by obtain ⟨_, _, _, h⟩ := hR2 7 (by kernel_rfl); exact h
            have h12 : vs 12 = .pointer (some ⟨m1, 2, none⟩) := by obtain ⟨_, _, _, h⟩ := hR2 12 (by kernel_rfl); exact h
            simp only [List.set_cons_zero, List.set_cons_succ] at hK ⊢
            have k0 := (cells_ofS hS2.1).1 2 _ rfl
            obtain ⟨k1, k2, k3, k4⟩ := slice4c hS2.2.2.1
            have k5 := (cells_ofS hS2.2.1).1 2 _ rfl
            obtain ⟨k6, k7, k8, k9⟩ := slice4c hS2.2.2.2
            simp only [h7, h12] at hK ⊢
            rw [if_pos (by rfl)]
            go_simp
            exact hK.out _ _ (Below.refl _ _) rfl
          · intro vs w2 hb2 hS2 hR2 K hK
            have h7 : vs 7 = .bool false := by obtain ⟨_, _, _, h⟩ := hR2 7 (by kernel_rfl); exact h
            have h13 : vs 13 = .slice (some ⟨g1, o1, none⟩) 4 d1 := by obtain ⟨_, _, _, h⟩ := hR2 13 (by kernel_rfl); exact h
            simp only [List.set_cons_zero, List.set_cons_succ] at hK ⊢
            have k0 := (cells_ofS hS2.1).1 2 _ rfl
            obtain ⟨k1, k2, k3, k4⟩ := slice4c hS2.2.2.1
            have k5 := (cells_ofS hS2.2.1).1 2 _ rfl
            obtain ⟨k6, k7, k8, k9⟩ := slice4c hS2.2.2.2
            simp only [h7, h13] at hK ⊢
            rw [if_pos (by rfl)]
            go_simp
            exact hK.out _ _ (Below.refl _ _) rfl
          · intro vs w2 hb2 hS2 hR2 K hK
            have h7 : vs 7 = .bool false := by obtain ⟨_, _, _, h⟩ := hR2 7 (by kernel_rfl); exact h
            have h14 : vs 14 = .pointer (some ⟨g1, o1 + 3, none⟩) := by obtain ⟨_, _, _, h⟩ := hR2 14 (by kernel_rfl); exact h
            simp only [List.set_cons_zero, List.set_cons_succ] at hK ⊢
            have k0 := (cells_ofS hS2.1).1 2 _ rfl
            obtain ⟨k1, k2, k3, k4⟩ := slice4c hS2.2.2.1
            have k5 := (cells_ofS hS2.2.1).1 2 _ rfl
            obtain ⟨k6, k7, k8, k9⟩ := slice4c hS2.2.2.2
            simp only [h7, h14] at hK ⊢
            rw [if_pos (by rfl)]
            go_simp
            exact hK.out _ _ (Below.refl _ _) rfl
          · intro vs w2 hb2 hS2 hR2 K hK
            have h7 : vs 7 = .bool false := by obtain ⟨_, _, _, h⟩ := hR2 7 (by kernel_rfl); exact h
            have h11 : vs 11 = mkC p1 := by obtain ⟨_, _, _, h⟩ := hR2 11 (by kernel_rfl); exact h
            have h15 : vs 15 = mkC s1 := by obtain ⟨_, _, _, h⟩ := hR2 15 (by kernel_rfl); exact h
            simp only [List.set_cons_zero, List.set_cons_succ] at hK ⊢
            simp only [h7, h11, h15] at hK ⊢
            rw [if_pos (by rfl)]
            go_simp
            exact hK.out _ _ (Below.refl _ _) rfl
          · intro vs w2 hb2 hS2 hR2 K hK
            have h2 : vs 2 = .bool true := by obtain ⟨_, _, _, h⟩ := hR2 2 (by kernel_rfl); exact h
            have h7 : vs 7 = .bool false := by obtain ⟨_, _, _, h⟩ := hR2 7 (by kernel_rfl); exact h
            have h16 : vs 16 = .bool false := by obtain ⟨_, _, _, h⟩ := hR2 16 (by kernel_rfl); exact h
            simp only [List.set_cons_zero, List.set_cons_succ] at hK ⊢
            simp only [h2, h7, h16] at hK ⊢
            rw [if_pos (by rfl)]
            go_simp
            exact hK.out _ _ (Below.refl _ _) rfl
          · intro vs w2 hb2 hS2 hR2 K hK
            have h2 : vs 2 = .bool true := by obtain ⟨_, _, _, h⟩ := hR2 2 (by kernel_rfl); exact h
            have h17 : vs 17 = .bool false := by obtain ⟨_, _, _, h⟩ := hR2 17 (by kernel_rfl); exact h
            simp only [List.set_cons_zero, List.set_cons_succ] at hK ⊢
            simp only [h2, h17] at hK ⊢
            go_simp
            exact hK.out _ _ (Below.refl _ _) rfl
          · intro vs w2 hb2 hS2 hR2 K hK
            have h18 : vs 18 = .bool false := by obtain ⟨_, _, _, h⟩ := hR2 18 (by kernel_rfl); exact h
            simp only [List.set_cons_zero, List.set_cons_succ] at hK ⊢
            simp only [h18] at hK ⊢
            go_simp
            exact hK.out _ _ (Below.refl _ _) rfl
          · intro vs w2 hb2 hS2 hR2 K hK
            have h19 : vs 19 = .bool false := by obtain ⟨_, _, _, h⟩ := hR2 19 (by kernel_rfl); exact h
            simp only [List.set_cons_zero, List.set_cons_succ] at hK ⊢
            simp only [h19] at hK ⊢
            rw [if_pos (by rfl)]
            go_simp
            exact hK.out _ _ (Below.refl _ _) rfl
          · intro vs w2 hb2 hS2 hR2 K hK
            have h19 : vs 19 = .bool false := by obtain ⟨_, _, _, h⟩ := hR2 19 (by kernel_rfl); exact h
            have h20 : vs 20 = .int .i64 0 := by obtain ⟨_, _, _, h⟩ := hR2 20 (by kernel_rfl); exact h
            simp only [List.set_cons_zero, List.set_cons_succ] at hK ⊢
            simp only [h19, h20] at hK ⊢
            rw [if_pos (by rfl)]
            go_simp
            exact hK.out _ _ (Below.refl _ _) rfl
          · intro vs w2 hb2 hS2 hR2 K hK
            have h19 : vs 19 = .bool false := by obtain ⟨_, _, _, h⟩ := hR2 19 (by kernel_rfl); exact h
            have h21 : vs 21 = .bool true := by obtain ⟨_, _, _, h⟩ := hR2 21 (by kernel_rfl); exact h
            simp only [List.set_cons_zero, List.set_cons_succ] at hK ⊢
            simp only [h19, h21] at hK ⊢
            rw [if_pos (by rfl)]
            go_simp
            exact hK.out _ _ (Below.refl _ _) rfl
          · intro vs w2 hb2 hS2 hR2 K hK
            have h22 : vs 22 = .bool true := by obtain ⟨_, _, _, h⟩ := hR2 22 (by kernel_rfl); exact h
            simp only [List.set_cons_zero, List.set_cons_succ] at hK ⊢
            simp only [h22] at hK ⊢
            rw [if_pos (by rfl)]
            go_simp
            exact hK.out _ _ (Below.refl _ _) rfl
          · intro vs w2 hb2 hS2 hR2 K hK
            have h22 : vs 22 = .bool true := by obtain ⟨_, _, _, h⟩ := hR2 22 (by kernel_rfl); exact h
            have h23 : vs 23 = .pointer (some ⟨m2, 2, none⟩) := by obtain ⟨_, _, _, h⟩ := hR2 23 (by kernel_rfl); exact h
            simp only [List.set_cons_zero, List.set_cons_succ] at hK ⊢
            have k0 := (cells_ofS hS2.1).1 2 _ rfl
            obtain ⟨k1, k2, k3, k4⟩ := slice4c hS2.2.2.1
            have k5 := (cells_ofS hS2.2.1).1 2 _ rfl
            obtain ⟨k6, k7, k8, k9⟩ := slice4c hS2.2.2.2
            simp only [h22, h23] at hK ⊢
            rw [if_pos (by rfl)]
            go_simp
            exact hK.out _ _ (Below.refl _ _) rfl
          · intro vs w2 hb2 hS2 hR2 K hK
            have h22 : vs 22 = .bool true := by obtain ⟨_, _, _, h⟩ := hR2 22 (by kernel_rfl); exact h
            have h24 : vs 24 = .slice (some ⟨g2, o2, none⟩) 4 d2 := by obtain ⟨_, _, _, h⟩ := hR2 24 (by kernel_rfl); exact h
            simp only [List.set_cons_zero, List.set_cons_succ] at hK ⊢
            simp only [h22, h24] at hK ⊢
            rw [if_pos (by rfl)]
            go_simp
            exact hK.out _ _ (Below.refl _ _) rfl
          · intro vs w2 hb2 hS2 hR2 K hK
            have h22 : vs 22 = .bool true := by obtain ⟨_, _, _, h⟩ := hR2 22 (by kernel_rfl); exact h
            have h25 : vs 25 = .int .i64 4 := by obtain ⟨_, _, _, h⟩ := hR2 25 (by kernel_rfl); exact h
            simp only [List.set_cons_zero, List.set_cons_succ] at hK ⊢
            simp only [h22, h25] at hK ⊢
            rw [if_pos (by rfl)]
            go_simp
            exact hK.out _ _ (Below.refl _ _) rfl
          · intro vs w2 hb2 hS2 hR2 K hK
            have h22 : vs 22 = .bool true := by obtain ⟨_, _, _, h⟩ := hR2 22 (by kernel_rfl); exact h
            have h26 : vs 26 = .bool false := by obtain ⟨_, _, _, h⟩ := hR2 26 (by kernel_rfl); exact h
            simp only [List.set_cons_zero, List.set_cons_succ] at hK ⊢
            simp only [h22, h26] at hK ⊢
            rw [if_pos (by rfl)]
            go_simp
            exact hK.out _ _ (Below.refl _ _) rfl
          · intro vs w2 hb2 hS2 hR2 K hK
            have h27 : vs 27 = .bool false := by obtain ⟨_, _, _, h⟩ := hR2 27 (by kernel_rfl); exact h
            simp only [List.set_cons_zero, List.set_cons_succ] at hK ⊢
            simp only [h27] at hK ⊢
            rw [if_pos (by rfl)]
            go_simp
            exact hK.out _ _ (Below.refl _ _) rfl
          · intro vs w2 hb2 hS2 hR2 K hK
            have h27 : vs 27 = .bool false := by obtain ⟨_, _, _, h⟩ := hR2 27 (by kernel_rfl); exact h
            have h28 : vs 28 = .pointer (some ⟨m2, 2, none⟩) := by obtain ⟨_, _, _, h⟩ := hR2 28 (by kernel_rfl); exact h
            simp only [List.set_cons_zero, List.set_cons_succ] at hK ⊢
            have k0 := (cells_ofS hS2.1).1 2 _ rfl
            obtain ⟨k1, k2, k3, k4⟩ := slice4c hS2.2.2.1
            have k5 := (cells_ofS hS2.2.1).1 2 _ rfl
            obtain ⟨k6, k7, k8, k9⟩ := slice4c hS2.2.2.2
            simp only [h27, h28] at hK ⊢
            rw [if_pos (by rfl)]
            go_simp
            exact hK.out _ _ (Below.refl _ _) rfl
          · intro vs w2 hb2 hS2 hR2 K hK
            have h27 : vs 27 = .bool false := by obtain ⟨_, _, _, h⟩ := hR2 27 (by kernel_rfl); exact h
            have h29 : vs 29 = .slice (some ⟨g2, o2, none⟩) 4 d2 := by obtain ⟨_, _, _, h⟩ := hR2 29 (by kernel_rfl); exact h
            simp only [List.set_cons_zero, List.set_cons_succ] at hK ⊢
            have k0 := (cells_ofS hS2.1).1 2 _ rfl
            obtain ⟨k1, k2, k3, k4⟩ := slice4c hS2.2.2.1
            have k5 := (cells_ofS hS2.2.1).1 2 _ rfl
            obtain ⟨k6, k7, k8, k9⟩ := slice4c hS2.2.2.2
            simp only [h27, h29] at hK ⊢
            rw [if_pos (by rfl)]
            go_simp
            exact hK.out _ _ (Below.refl _ _) rfl
          · intro vs w2 hb2 hS2 hR2 K hK
            have h27 : vs 27 = .bool false := by obtain ⟨_, _, _, h⟩ := hR2 27 (by kernel_rfl); exact h
            have h30 : vs 30 = .pointer (some ⟨g2, o2 + 1, none⟩) := by obtain ⟨_, _, _, h⟩ := hR2 30 (by kernel_rfl); exact h
            simp only [List.set_cons_zero, List.set_cons_succ] at hK ⊢
            have k0 := (cells_ofS hS2.1).1 2 _ rfl
            obtain ⟨k1, k2, k3, k4⟩ := slice4c hS2.2.2.1
            have k5 := (cells_ofS hS2.2.1).1 2 _ rfl
            obtain ⟨k6, k7, k8, k9⟩ := slice4c hS2.2.2.2
            simp only [h27, h30] at hK ⊢
            rw [if_pos (by rfl)]
            go_simp
            exact hK.out _ _ (Below.refl _ _) rfl
          · intro vs w2 hb2 hS2 hR2 K hK
            have h27 : vs 27 = .bool false := by obtain ⟨_, _, _, h⟩ := hR2 27 (by kernel_rfl); exact h
            simp only [List.set_cons_zero, List.set_cons_succ] at hK ⊢
            simp only [h27] at hK ⊢
            rw [if_pos (by rfl)]
            go_simp
            exact hK.out _ _ (Below.refl _ _) rfl
          · intro vs w2 hb2 hS2 hR2 K hK
            have h27 : vs 27 = .bool false := by obtain ⟨_, _, _, h⟩ := hR2 27 (by kernel_rfl); exact h
            have h32 : vs 32 = .pointer (some ⟨m2, 2, none⟩) := by obtain ⟨_, _, _, h⟩ := hR2 32 (by kernel_rfl); exact h
            simp only [List.set_cons_zero, List.set_cons_succ] at hK ⊢
            have k0 := (cells_ofS hS2.1).1 2 _ rfl
            obtain ⟨k1, k2, k3, k4⟩ := slice4c hS2.2.2.1
            have k5 := (cells_ofS hS2.2.1).1 2 _ rfl
            obtain ⟨k6, k7, k8, k9⟩ := slice4c hS2.2.2.2
            simp only [h27, h32] at hK ⊢
            rw [if_pos (by rfl)]
            go_simp
            exact hK.out _ _ (Below.refl _ _) rfl
          · intro vs w2 hb2 hS2 hR2 K hK
            have h27 : vs 27 = .bool false := by obtain ⟨_, _, _, h⟩ := hR2 27 (by kernel_rfl); exact h
            have h33 : vs 33 = .slice (some ⟨g2, o2, none⟩) 4 d2 := by obtain ⟨_, _, _, h⟩ := hR2 33 (by kernel_rfl); exact h
            simp only [List.set_cons_zero, List.set_cons_succ] at hK ⊢
            have k0 := (cells_ofS hS2.1).1 2 _ rfl
            obtain ⟨k1, k2, k3, k4⟩ := slice4c hS2.2.2.1
            have k5 := (cells_ofS hS2.2.1).1 2 _ rfl
            obtain ⟨k6, k7, k8, k9⟩ := slice4c hS2.2.2.2
            simp only [h27, h33] at hK ⊢
            rw [if_pos (by rfl)]
            go_simp
            exact hK.out _ _ (Below.refl _ _) rfl
          · intro vs w2 hb2 hS2 hR2 K hK
            have h27 : vs 27 = .bool false := by obtain ⟨_, _, _, h⟩ := hR2 27 (by kernel_rfl); exact h
            have h34 : vs 34 = .pointer (some ⟨g2, o2 + 2, none⟩) := by obtain ⟨_, _, _, h⟩ := hR2 34 (by kernel_rfl); exact h
            simp only [List.set_cons_zero, List.set_cons_succ] at hK ⊢
            have k0 := (cells_ofS hS2.1).1 2 _ rfl
            obtain ⟨k1, k2, k3, k4⟩ := slice4c hS2.2.2.1
            have k5 := (cells_ofS hS2.2.1).1 2 _ rfl
            obtain ⟨k6, k7, k8, k9⟩ := slice4c hS2.2.2.2
            simp only [h27, h34] at hK ⊢
            rw [if_pos (by rfl)]
            go_simp
            exact hK.out _ _ (Below.refl _ _) rfl
          · intro vs w2 hb2 hS2 hR2 K hK
            have h27 : vs 27 = .bool false := by obtain ⟨_, _, _, h⟩ := hR2 27 (by kernel_rfl); exact h
            have h31 : vs 31 = mkC q2 := by obtain ⟨_, _, _, h⟩ := hR2 31 (by kernel_rfl); exact h
            have h35 : vs 35 = mkC u2 := by obtain ⟨_, _, _, h⟩ := hR2 35 (by kernel_rfl); exact h
            simp only [List.set_cons_zero, List.set_cons_succ] at hK ⊢
            simp only [h27, h31, h35] at hK ⊢
            rw [if_pos (by rfl)]
            go_simp
            exact hK.out _ _ (Below.refl _ _) rfl
          · intro vs w2 hb2 hS2 hR2 K hK
            have h22 : vs 22 = .bool true := by obtain ⟨_, _, _, h⟩ := hR2 22 (by kernel_rfl); exact h
            have h27 : vs 27 = .bool false := by obtain ⟨_, _, _, h⟩ := hR2 27 (by kernel_rfl); exact h
            have h36 : vs 36 = .bool false := by obtain ⟨_, _, _, h⟩ := hR2 36 (by kernel_rfl); exact h
            simp only [List.set_cons_zero, List.set_cons_succ] at hK ⊢
            simp only [h22, h27, h36] at hK ⊢
            rw [if_pos (by rfl)]
            go_simp
            exact hK.out _ _ (Below.refl _ _) rfl
          · intro vs w2 hb2 hS2 hR2 K hK
            have h19 : vs 19 = .bool false := by obtain ⟨_, _, _, h⟩ := hR2 19 (by kernel_rfl); exact h
            have h22 : vs 22 = .bool true := by obtain ⟨_, _, _, h⟩ := hR2 22 (by kernel_rfl); exact h
            have h37 : vs 37 = .bool false := by obtain ⟨_, _, _, h⟩ := hR2 37 (by kernel_rfl); exact h
            simp only [List.set_cons_zero, List.set_cons_succ] at hK ⊢
            simp only [h19, h22, h37] at hK ⊢
            rw [if_pos (by rfl)]
            go_simp
            exact hK.out _ _ (Below.refl _ _) rfl
          · intro vs w2 hb2 hS2 hR2 K hK
            have h19 : vs 19 = .bool false := by obtain ⟨_, _, _, h⟩ := hR2 19 (by kernel_rfl); exact h
            have h38 : vs 38 = .bool false := by obtain ⟨_, _, _, h⟩ := hR2 38 (by kernel_rfl); exact h
            simp only [List.set_cons_zero, List.set_cons_succ] at hK ⊢
            simp only [h19, h38] at hK ⊢
            go_simp
            exact hK.out _ _ (Below.refl _ _) rfl
        case hende =>
          intro vs wx lo hiv hbx hSx hRx hdx
          have h0 : vs 0 = .int .i64 0 := (hRx 0 (by kernel_rfl)).1
          have h1 : vs 1 = .bool true := (hRx 1 (by kernel_rfl)).1
          have h2 : vs 2 = .bool true := (hRx 2 (by kernel_rfl)).1
          have h3 : vs 3 = .pointer (some ⟨m1, 2, none⟩) := (hRx 3 (by kernel_rfl)).1
          have h4 : vs 4 = .slice (some ⟨g1, o1, none⟩) 4 d1 := (hRx 4 (by kernel_rfl)).1
          have h5 : vs 5 = .int .i64 4 := (hRx 5 (by kernel_rfl)).1
          have h6 : vs 6 = .bool false := (hRx 6 (by kernel_rfl)).1
          have h7 : vs 7 = .bool false := (hRx 7 (by kernel_rfl)).1
          have h8 : vs 8 = .pointer (some ⟨m1, 2, none⟩) := (hRx 8 (by kernel_rfl)).1
          have h9 : vs 9 = .slice (some ⟨g1, o1, none⟩) 4 d1 := (hRx 9 (by kernel_rfl)).1
          have h10 : vs 10 = .pointer (some ⟨g1, o1, none⟩) := (hRx 10 (by kernel_rfl)).1
          have h11 : vs 11 = mkC p1 := (hRx 11 (by kernel_rfl)).1
          have h12 : vs 12 = .pointer (some ⟨m1, 2, none⟩) := (hRx 12 (by kernel_rfl)).1
          have h13 : vs 13 = .slice (some ⟨g1, o1, none⟩) 4 d1 := (hRx 13 (by kernel_rfl)).1
          have h14 : vs 14 = .pointer (some ⟨g1, o1 + 3, none⟩) := (hRx 14 (by kernel_rfl)).1
          have h15 : vs 15 = mkC s1 := (hRx 15 (by kernel_rfl)).1
          have h16 : vs 16 = .bool false := (hRx 16 (by kernel_rfl)).1
          have h17 : vs 17 = .bool false := (hRx 17 (by kernel_rfl)).1
          have h18 : vs 18 = .bool false := (hRx 18 (by kernel_rfl)).1
          have h19 : vs 19 = .bool false := (hRx 19 (by kernel_rfl)).1
          have h20 : vs 20 = .int .i64 0 := (hRx 20 (by kernel_rfl)).1
          have h21 : vs 21 = .bool true := (hRx 21 (by kernel_rfl)).1
          have h22 : vs 22 = .bool true := (hRx 22 (by kernel_rfl)).1
          have h23 : vs 23 = .pointer (some ⟨m2, 2, none⟩) := (hRx 23 (by kernel_rfl)).1
          have h24 : vs 24 = .slice (some ⟨g2, o2, none⟩) 4 d2 := (hRx 24 (by kernel_rfl)).1
          have h25 : vs 25 = .int .i64 4 := (hRx 25 (by kernel_rfl)).1
          have h26 : vs 26 = .bool false := (hRx 26 (by kernel_rfl)).1
          have h27 : vs 27 = .bool false := (hRx 27 (by kernel_rfl)).1
          have h28 : vs 28 = .pointer (some ⟨m2, 2, none⟩) := (hRx 28 (by kernel_rfl)).1
          have h29 : vs 29 = .slice (some ⟨g2, o2, none⟩) 4 d2 := (hRx 29 (by kernel_rfl)).1
          have h30 : vs 30 = .pointer (some ⟨g2, o2 + 1, none⟩) := (hRx 30 (by kernel_rfl)).1
          have h31 : vs 31 = mkC q2 := (hRx 31 (by kernel_rfl)).1
          have h32 : vs 32 = .pointer (some ⟨m2, 2, none⟩) := (hRx 32 (by kernel_rfl)).1
          have h33 : vs 33 = .slice (some ⟨g2, o2, none⟩) 4 d2 := (hRx 33 (by kernel_rfl)).1
          have h34 : vs 34 = .pointer (some ⟨g2, o2 + 2, none⟩) := (hRx 34 (by kernel_rfl)).1
          have h35 : vs 35 = mkC u2 := (hRx 35 (by kernel_rfl)).1
          have h36 : vs 36 = .bool false := (hRx 36 (by kernel_rfl)).1
          have h37 : vs 37 = .bool false := (hRx 37 (by kernel_rfl)).1
          have h38 : vs 38 = .bool false := (hRx 38 (by kernel_rfl)).1
          have h39 : vs 39 = .bool false := (hRx 39 (by kernel_rfl)).1
          simp only [fillD, Act.put, List.setIfInBounds_toArray, List.set_cons_zero, List.set_cons_succ, h0, h1, h2, h3, h4, h5, h6, h7, h8, h9, h10, h11, h12, h13, h14, h15, h16, h17, h18, h19, h20, h21, h22, h23, h24, h25, h26, h27, h28, h29, h30, h31, h32, h33, h34, h35, h36, h37, h38, h39]
          have hb := below_drew_left hbx
          have HBE := hid (below_next HB8.out hb)
          clear hbx hSx hRx hdx hb h0 h3 h4 h5 h6 h7 h8 h9 h10 h11 h12 h13 h14 h15 h16 h17 h18 h19 h20 h21 h22 h23 h24 h25 h26 h27 h28 h29 h30 h31 h32 h33 h34 h35 h36 h37 h38 h39
          refine wpAny_done (by kernel_rfl) ?_ _
          go_wp2
          (try simp only [Exit.inBlock, Exit.then])
          (try rw [Exit.noGoto_ret])
          go_ret
          exact ⟨rfl, HBE.out⟩
      · skip
        obtain ⟨p1, q1, u1, s1, rfl, ha1, hb1⟩ := sides_laid (a := a) (b := b) (c := c) (d := a) (ref := ref) (xs := x1) (by rw [HS1.out]) (by rw [HX1.out, HS1.out])
        obtain ⟨w11, w12⟩ := ha1 rfl
        clear ha1 hb1
        have HL1 := hid (show IsSl _ 1 (.slice c1 4 d1) 4 [mkC p1, mkC q1, mkC u1, mkC s1] from HV18.out)
        obtain ⟨g1, o1, d', hsl, _, _⟩ := slice4 HL1.out
        cases hsl
        have HN1 := hid (show (_ : Option Obj) = some (.cells #[.int .i64 r1, .int .i64 r1, .slice (some ⟨g1, o1, none⟩) 4 d1] 32 (0, 0)) from HM18.out)
        have HL2 := HV28
        have HN2 := HM2
        have n2 : (e2 == 0) = false := by simpa using h2
        refine wp_region_any (by kernel_rfl) ?_
        change wpAny _ _ _ _ _ _ _ (World.drew _)
        refine wpAny_makersD [⟨some 47, 0, []⟩, ⟨some 48, 1, []⟩, ⟨some 49, 2, []⟩, ⟨some 50, 3, []⟩, ⟨some 51, 4, []⟩, ⟨some 52, 5, []⟩, ⟨some 53, 6, []⟩, ⟨some 54, 7, []⟩, ⟨some 55, 8, []⟩, ⟨some 56, 9, []⟩, ⟨some 57, 10, []⟩, ⟨some 58, 11, []⟩, ⟨some 59, 12, []⟩, ⟨some 60, 13, []⟩, ⟨some 61, 14, []⟩, ⟨some 62, 15, []⟩, ⟨some 63, 16, []⟩, ⟨some 64, 17, []⟩, ⟨some 65, 18, []⟩, ⟨some 66, 19, []⟩, ⟨some 67, 20, []⟩, ⟨some 68, 21, []⟩, ⟨some 69, 22, []⟩, ⟨some 70, 23, []⟩, ⟨some 71, 24, []⟩, ⟨some 72, 25, []⟩, ⟨some 73, 26, []⟩, ⟨some 74, 27, []⟩, ⟨some 75, 28, []⟩, ⟨some 76, 29, []⟩, ⟨some 77, 30, []⟩, ⟨some 78, 31, []⟩, ⟨some 79, 32, []⟩, ⟨some 80, 33, []⟩, ⟨some 81, 34, []⟩, ⟨some 82, 35, []⟩, ⟨some 83, 36, []⟩, ⟨some 84, 37, []⟩, ⟨some 85, 38, []⟩, ⟨some 86, 39, []⟩]
          (fun w' => w'.heap[m1]? = some (.cells #[.int .i64 r1, .int .i64 r1, .slice (some ⟨g1, o1, none⟩) 4 d1] 32 (0, 0)) ∧ w'.heap[m2]? = some (.cells #[.int .i64 r2, .int .i64 r2, .slice c2 x2.length d2] 32 (0, 0)) ∧ (IsSl w' 1 (.slice (some ⟨g1, o1, none⟩) 4 d1) 4 [mkC p1, mkC q1, mkC u1, mkC s1]) ∧ (IsSl w' 1 (.slice c2 x2.length d2) x2.length (x2.map mkC)))
          (fun oq v _ _ _ _ => match oq with | 0 => v = .int .i64 0 | 1 => v = .bool true | 2 => v = .bool true | 3 => v = .pointer (some ⟨m1, 2, none⟩) | 4 => v = .slice (some ⟨g1, o1, none⟩) 4 d1 | 5 => v = .int .i64 4 | 6 => v = .bool false | 7 => v = .bool false | 8 => v = .pointer (some ⟨m1, 2, none⟩) | 9 => v = .slice (some ⟨g1, o1, none⟩) 4 d1 | 10 => v = .pointer (some ⟨g1, o1, none⟩) | 11 => v = mkC p1 | 12 => v = .pointer (some ⟨m1, 2, none⟩) | 13 => v = .slice (some ⟨g1, o1, none⟩) 4 d1 | 14 => v = .pointer (some ⟨g1, o1 + 3, none⟩) | 15 => v = mkC s1 | 16 => v = .bool false | 17 => v = .bool false | 18 => v = .bool false | 19 => v = .bool false | 20 => v = .int .i64 e2 | 21 => v = .bool false | 22 => v = .bool false | 23 => v = undef | 24 => v = undef | 25 => v = undef | 26 => v = undef | 27 => v = undef | 28 => v = undef | 29 => v = undef | 30 => v = undef | 31 => v = undef | 32 => v = undef | 33 => v = undef | 34 => v = undef | 35 => v = undef | 36 => v = undef | 37 => v = undef | 38 => v = .bool false | 39 => v = .bool false | _ => True) (by kernel_rfl) ?hSe (fun _ _ hb h => ⟨heap_next hb h.1, heap_next hb h.2.1, h.2.2.1.below hb (Nat.le_refl _), h.2.2.2.below hb (Nat.le_refl _)⟩) (fun _ _ _ _ _ _ _ _ _ h => h) ?hope ?hende
        case hSe => exact ⟨heap_next (Below.refl _ _).drew HN1.out, heap_next (Below.refl _ _).drew HN2.out, HL1.out.below (Below.refl _ _).drew (Nat.le_refl _), HL2.out.below (Below.refl _ _).drew (Nat.le_refl _)⟩
        case hope =>
          delta Owed
          simp only [fillD, Act.put, List.setIfInBounds_toArray, List.set_cons_zero, List.set_cons_succ]
          refine Each.cons rfl ?_ (Each.cons rfl ?_ (Each.cons rfl ?_ (Each.cons rfl ?_ (Each.cons rfl ?_ (Each.cons rfl ?_ (Each.cons rfl ?_ (Each.cons rfl ?_ (Each.cons rfl ?_ (Each.cons rfl ?_ (Each.cons rfl ?_ (Each.cons rfl ?_ (Each.cons rfl ?_ (Each.cons rfl ?_ (Each.cons rfl ?_ (Each.cons rfl ?_ (Each.cons rfl ?_ (Each.cons rfl ?_ (Each.cons rfl ?_ (Each.cons rfl ?_ (Each.cons rfl ?_ (Each.cons rfl ?_ (Each.cons rfl ?_ (Each.cons rfl ?_ (Each.cons rfl ?_ (Each.cons rfl ?_ (Each.cons rfl ?_ (Each.cons rfl ?_ (Each.cons rfl ?_ (Each.cons rfl ?_ (Each.cons rfl ?_ (Each.cons rfl ?_ (Each.cons rfl ?_ (Each.cons rfl ?_ (Each.cons rfl ?_ (Each.cons rfl ?_ (Each.cons rfl ?_ (Each.cons rfl ?_ (Each.cons rfl ?_ (Each.cons rfl ?_ Each.nil)))))))))))))))))))))))))))))))))))))))
          · intro vs w2 hb2 hS2 hR2 K hK
            simp only [List.set_cons_zero, List.set_cons_succ] at hK ⊢
            go_simp
            exact hK.out _ _ (Below.refl _ _) rfl
          · intro vs w2 hb2 hS2 hR2 K hK
            have h0 : vs 0 = .int .i64 0 := by obtain ⟨_, _, _, h⟩ := hR2 0 (by kernel_rfl); exact h
            simp only [List.set_cons_zero, List.set_cons_succ] at hK ⊢
            simp only [h0] at hK ⊢
            go_simp
            exact hK.out _ _ (Below.refl _ _) rfl
          · intro vs w2 hb2 hS2 hR2 K hK
            have h1 : vs 1 = .bool true := by obtain ⟨_, _, _, h⟩ := hR2 1 (by kernel_rfl); exact h
            simp only [List.set_cons_zero, List.set_cons_succ] at hK ⊢
            simp only [h1] at hK ⊢
            go_simp
            exact hK.out _ _ (Below.refl _ _) rfl
          · intro vs w2 hb2 hS2 hR2 K hK
            have h2 : vs 2 = .bool true := by obtain ⟨_, _, _, h⟩ := hR2 2 (by kernel_rfl); exact h
            simp only [List.set_cons_zero, List.set_cons_succ] at hK ⊢
            simp only [h2] at hK ⊢
            rw [if_pos (by rfl)]
            go_simp
            exact hK.out _ _ (Below.refl _ _) rfl
          · intro vs w2 hb2 hS2 hR2 K hK
            have h2 : vs 2 = .bool true := by obtain ⟨_, _, _, h⟩ := hR2 2 (by kernel_rfl); exact h
            have h3 : vs 3 = .pointer (some ⟨m1, 2, none⟩) := by obtain ⟨_, _, _, h⟩ := hR2 3 (by kernel_rfl); exact h
            simp only [List.set_cons_zero, List.set_cons_succ] at hK ⊢
            have k0 := (cells_ofS hS2.1).1 2 _ rfl
            obtain ⟨k1, k2, k3, k4⟩ := slice4c hS2.2.2.1
            simp only [h2, h3] at hK ⊢
            rw [if_pos (by rfl)]
            go_simp
            exact hK.out _ _ (Below.refl _ _) rfl
          · intro vs w2 hb2 hS2 hR2 K hK
            have h2 : vs 2 = .bool true := by obtain ⟨_, _, _, h⟩ := hR2 2 (by kernel_rfl); exact h
            have h4 : vs 4 = .slice (some ⟨g1, o1, none⟩) 4 d1 := by obtain ⟨_, _, _, h⟩ := hR2 4 (by kernel_rfl); exact h
            simp only [List.set_cons_zero, List.set_cons_succ] at hK ⊢
            simp only [h2, h4] at hK ⊢
            rw [if_pos (by rfl)]
            go_simp
            exact hK.out _ _ (Below.refl _ _) rfl
          · intro vs w2 hb2 hS2 hR2 K hK
            have h2 : vs 2 = .bool true := by obtain ⟨_, _, _, h⟩ := hR2 2 (by kernel_rfl); exact h
            have h5 : vs 5 = .int .i64 4 := by obtain ⟨_, _, _, h⟩ := hR2 5 (by kernel_rfl); exact h
            simp only [List.set_cons_zero, List.set_cons_succ] at hK ⊢
            simp only [h2, h5] at hK ⊢
            rw [if_pos (by rfl)]
            go_simp
            exact hK.out _ _ (Below.refl _ _) rfl
          · intro vs w2 hb2 hS2 hR2 K hK
            have h2 : vs 2 = .bool true := by obtain ⟨_, _, _, h⟩ := hR2 2 (by kernel_rfl); exact h
            have h6 : vs 6 = .bool false := by obtain ⟨_, _, _, h⟩ := hR2 6 (by kernel_rfl); exact h
            simp only [List.set_cons_zero, List.set_cons_succ] at hK ⊢
            simp only [h2, h6] at hK ⊢
            rw [if_pos (by rfl)]
            go_simp
            exact hK.out _ _ (Below.refl _ _) rfl
          · intro vs w2 hb2 hS2 hR2 K hK
            have h7 : vs 7 = .bool false := by obtain ⟨_, _, _, h⟩ := hR2 7 (by kernel_rfl); exact h
            simp only [List.set_cons_zero, List.set_cons_succ] at hK ⊢
            simp only [h7] at hK ⊢
            rw [if_pos (by rfl)]
            go_simp
            exact hK.out _ _ (Below.refl _ _) rfl
          · intro vs w2 hb2 hS2 hR2 K hK
            have h7 : vs 7 = .bool false := by obtain ⟨_, _, _, h⟩ := hR2 7 (by kernel_rfl); exact h
            have h8 : vs 8 = .pointer (some ⟨m1, 2, none⟩) := by obtain ⟨_, _, _, h⟩ := hR2 8 (by kernel_rfl); exact h
            simp only [List.set_cons_zero, List.set_cons_succ] at hK ⊢
            have k0 := (cells_ofS hS2.1).1 2 _ rfl
            obtain ⟨k1, k2, k3, k4⟩ := slice4c hS2.2.2.1
            simp only [h7, h8] at hK ⊢
            rw [if_pos (by rfl)]
            go_simp
            exact hK.out _ _ (Below.refl _ _) rfl
          · intro vs w2 hb2 hS2 hR2 K hK
            have h7 : vs 7 = .bool false := by obtain ⟨_, _, _, h⟩ := hR2 7 (by kernel_rfl); exact h
            have h9 : vs 9 = .slice (some ⟨g1, o1, none⟩) 4 d1 := by obtain ⟨_, _, _, h⟩ := hR2 9 (by kernel_rfl); exact h
            simp only [List.set_cons_zero, List.set_cons_succ] at hK ⊢
            have k0 := (cells_ofS hS2.1).1 2 _ rfl
            obtain ⟨k1, k2, k3, k4⟩ := slice4c hS2.2.2.1
            simp only [h7, h9] at hK ⊢
            rw [if_pos (by rfl)]
            go_simp
            exact hK.out _ _ (Below.refl _ _) rfl
          · intro vs w2 hb2 hS2 hR2 K hK
            have h7 : vs 7 = .bool false := by obtain ⟨_, _, _, h⟩ := hR2 7 (by kernel_rfl); exact h
            have h10 : vs 10 = .pointer (some ⟨g1, o1, none⟩) := by obtain ⟨_, _, _, h⟩ := hR2 10 (by kernel_rfl); exact h
            simp only [List.set_cons_zero, List.set_cons_succ] at hK ⊢
            have k0 := (cells_ofS hS2.1).1 2 _ rfl
            obtain ⟨k1, k2, k3, k4⟩ := slice4c hS2.2.2.1
            simp only [h7, h10] at hK ⊢
            rw [if_pos (by rfl)]
            go_simp
            exact hK.out _ _ (Below.refl _ _) rfl
          · intro vs w2 hb2 hS2 hR2 K hK
            have h7 : vs 7 = .bool false := by obtain ⟨_, _, _, h⟩ := hR2 7 (by kernel_rfl); exact h
            simp only [List.set_cons_zero, List.set_cons_succ] at hK ⊢
            simp only [h7] at hK ⊢
            rw [if_pos (by rfl)]
            go_simp
            exact hK.out _ _ (Below.refl _ _) rfl
          · intro vs w2 hb2 hS2 hR2 K hK
            have h7 : vs 7 = .bool false := by obtain ⟨_, _, _, h⟩ := hR2 7 (by kernel_rfl); exact h
            have h12 : vs 12 = .pointer (some ⟨m1, 2, none⟩) := by obtain ⟨_, _, _, h⟩ := hR2 12 (by kernel_rfl); exact h
            simp only [List.set_cons_zero, List.set_cons_succ] at hK ⊢
            have k0 := (cells_ofS hS2.1).1 2 _ rfl
            obtain ⟨k1, k2, k3, k4⟩ := slice4c hS2.2.2.1
            simp only [h7, h12] at hK ⊢
            rw [if_pos (by rfl)]
            go_simp
            exact hK.out _ _ (Below.refl _ _) rfl
          · intro vs w2 hb2 hS2 hR2 K hK
            have h7 : vs 7 = .bool false := by obtain ⟨_, _, _, h⟩ := hR2 7 (by kernel_rfl); exact h
            have h13 : vs 13 = .slice (some ⟨g1, o1, none⟩) 4 d1 := by obtain ⟨_, _, _, h⟩ := hR2 13 (by kernel_rfl); exact h
            simp only [List.set_cons_zero, List.set_cons_succ] at hK ⊢
            have k0 := (cells_ofS hS2.1).1 2 _ rfl
            obtain ⟨k1, k2, k3, k4⟩ := slice4c hS2.2.2.1
            simp only [h7, h13] at hK ⊢
            rw [if_pos (by rfl)]
            go_simp
            exact hK.out _ _ (Below.refl _ _) rfl
          · intro vs w2 hb2 hS2 hR2 K hK
            have h7 : vs 7 = .bool false := by obtain ⟨_, _, _, h⟩ := hR2 7 (by kernel_rfl); exact h
            have h14 : vs 14 = .pointer (some ⟨g1, o1 + 3, none⟩) := by obtain ⟨_, _, _, h⟩ := hR2 14 (by kernel_rfl); exact h
            simp only [List.set_cons_zero, List.set_cons_succ] at hK ⊢
            have k0 := (cells_ofS hS2.1).1 2 _ rfl
            obtain ⟨k1, k2, k3, k4⟩ := slice4c hS2.2.2.1
            simp only [h7, h14] at hK ⊢
            rw [if_pos (by rfl)]
            go_simp
            exact hK.out _ _ (Below.refl _ _) rfl
          · intro vs w2 hb2 hS2 hR2 K hK
            have h7 : vs 7 = .bool false := by obtain ⟨_, _, _, h⟩ := hR2 7 (by kernel_rfl); exact h
            have h11 : vs 11 = mkC p1 := by obtain ⟨_, _, _, h⟩ := hR2 11 (by kernel_rfl); exact h
            have h15 : vs 15 = mkC s1 := by obtain ⟨_, _, _, h⟩ := hR2 15 (by kernel_rfl); exact h
            simp only [List.set_cons_zero, List.set_cons_succ] at hK ⊢
            simp only [h7, h11, h15] at hK ⊢
            rw [if_pos (by rfl)]
            go_simp
            exact hK.out _ _ (Below.refl _ _) rfl
          · intro vs w2 hb2 hS2 hR2 K hK
            have h2 : vs 2 = .bool true := by obtain ⟨_, _, _, h⟩ := hR2 2 (by kernel_rfl); exact h
            have h7 : vs 7 = .bool false := by obtain ⟨_, _, _, h⟩ := hR2 7 (by kernel_rfl); exact h
            have h16 : vs 16 = .bool false := by obtain ⟨_, _, _, h⟩ := hR2 16 (by kernel_rfl); exact h
            simp only [List.set_cons_zero, List.set_cons_succ] at hK ⊢
            simp only [h2, h7, h16] at hK ⊢
            rw [if_pos (by rfl)]
            go_simp
            exact hK.out _ _ (Below.refl _ _) rfl
          · intro vs w2 hb2 hS2 hR2 K hK
            have h2 : vs 2 = .bool true := by obtain ⟨_, _, _, h⟩ := hR2 2 (by kernel_rfl); exact h
            have h17 : vs 17 = .bool false := by obtain ⟨_, _, _, h⟩ := hR2 17 (by kernel_rfl); exact h
            simp only [List.set_cons_zero, List.set_cons_succ] at hK ⊢
            simp only [h2, h17] at hK ⊢
            go_simp
            exact hK.out _ _ (Below.refl _ _) rfl
          · intro vs w2 hb2 hS2 hR2 K hK
            have h18 : vs 18 = .bool false := by obtain ⟨_, _, _, h⟩ := hR2 18 (by kernel_rfl); exact h
            simp only [List.set_cons_zero, List.set_cons_succ] at hK ⊢
            simp only [h18] at hK ⊢
            go_simp
            exact hK.out _ _ (Below.refl _ _) rfl
          · intro vs w2 hb2 hS2 hR2 K hK
            have h19 : vs 19 = .bool false := by obtain ⟨_, _, _, h⟩ := hR2 19 (by kernel_rfl); exact h
            simp only [List.set_cons_zero, List.set_cons_succ] at hK ⊢
            simp only [h19] at hK ⊢
            rw [if_pos (by rfl)]
            go_simp
            exact hK.out _ _ (Below.refl _ _) rfl
          · intro vs w2 hb2 hS2 hR2 K hK
            have h19 : vs 19 = .bool false := by obtain ⟨_, _, _, h⟩ := hR2 19 (by kernel_rfl); exact h
            have h20 : vs 20 = .int .i64 e2 := by obtain ⟨_, _, _, h⟩ := hR2 20 (by kernel_rfl); exact h
            simp only [List.set_cons_zero, List.set_cons_succ] at hK ⊢
            simp only [h19, h20] at hK ⊢
            rw [if_pos (by rfl)]
            go_simp
            exact hK.out _ _ (Below.refl _ _) rfl
          · intro vs w2 hb2 hS2 hR2 K hK
            have h19 : vs 19 = .bool false := by obtain ⟨_, _, _, h⟩ := hR2 19 (by kernel_rfl); exact h
            have h21 : vs 21 = .bool false := by obtain ⟨_, _, _, h⟩ := hR2 21 (by kernel_rfl); exact h
            simp only [List.set_cons_zero, List.set_cons_succ] at hK ⊢
            simp only [h19, h21] at hK ⊢
            rw [if_pos (by rfl)]
            go_simp
            exact hK.out _ _ (Below.refl _ _) rfl
          · intro vs w2 hb2 hS2 hR2 K hK
            have h22 : vs 22 = .bool false := by obtain ⟨_, _, _, h⟩ := hR2 22 (by kernel_rfl); exact h
            simp only [List.set_cons_zero, List.set_cons_succ] at hK ⊢
            simp only [h22] at hK ⊢
            rw [if_neg (by intro hh; exact absurd (show false = true from hh) (by decide))]
            exact hK.out _ _ (Below.refl _ _) rfl
          · intro vs w2 hb2 hS2 hR2 K hK
            have h22 : vs 22 = .bool false := by obtain ⟨_, _, _, h⟩ := hR2 22 (by kernel_rfl); exact h
            have h23 : vs 23 = undef := by obtain ⟨_, _, _, h⟩ := hR2 23 (by kernel_rfl); exact h
            simp only [List.set_cons_zero, List.set_cons_succ] at hK ⊢
            have k0 := (cells_ofS hS2.1).1 2 _ rfl
            obtain ⟨k1, k2, k3, k4⟩ := slice4c hS2.2.2.1
            simp only [h22, h23] at hK ⊢
            rw [if_neg (by intro hh; exact absurd (show false = true from hh) (by decide))]
            exact hK.out _ _ (Below.refl _ _) rfl
          · intro vs w2 hb2 hS2 hR2 K hK
            have h22 : vs 22 = .bool false := by obtain ⟨_, _, _, h⟩ := hR2 22 (by kernel_rfl); exact h
            have h24 : vs 24 = undef := by obtain ⟨_, _, _, h⟩ := hR2 24 (by kernel_rfl); exact h
            simp only [List.set_cons_zero, List.set_cons_succ] at hK ⊢
            simp only [h22, h24] at hK ⊢
            rw [if_neg (by intro hh; exact absurd (show false = true from hh) (by decide))]
            exact hK.out _ _ (Below.refl _ _) rfl
          · intro vs w2 hb2 hS2 hR2 K hK
            have h22 : vs 22 = .bool false := by obtain ⟨_, _, _, h⟩ := hR2 22 (by kernel_rfl); exact h
            have h25 : vs 25 = undef := by obtain ⟨_, _, _, h⟩ := hR2 25 (by kernel_rfl); exact h
            simp only [List.set_cons_zero, List.set_cons_succ] at hK ⊢
            simp only [h22, h25] at hK ⊢
            rw [if_neg (by intro hh; exact absurd (show false = true from hh) (by decide))]
            exact hK.out _ _ (Below.refl _ _) rfl
          · intro vs w2 hb2 hS2 hR2 K hK
            have h22 : vs 22 = .bool false := by obtain ⟨_, _, _, h⟩ := hR2 22 (by kernel_rfl); exact h
            have h26 : vs 26 = undef := by obtain ⟨_, _, _, h⟩ := hR2 26 (by kernel_rfl); exact h
            simp only [List.set_cons_zero, List.set_cons_succ] at hK ⊢
            simp only [h22, h26] at hK ⊢
            rw [if_neg (by intro hh; exact absurd (show false = true from hh) (by decide))]
            exact hK.out _ _ (Below.refl _ _) rfl
          · intro vs w2 hb2 hS2 hR2 K hK
            have h27 : vs 27 = undef := by obtain ⟨_, _, _, h⟩ := hR2 27 (by kernel_rfl); exact h
            simp only [List.set_cons_zero, List.set_cons_succ] at hK ⊢
            simp only [h27] at hK ⊢
            rw [if_neg (by intro hh; exact absurd (show false = true from hh) (by decide))]
            exact hK.out _ _ (Below.refl _ _) rfl
          · intro vs w2 hb2 hS2 hR2 K hK
            have h27 : vs 27 = undef := by obtain ⟨_, _, _, h⟩ := hR2 27 (by kernel_rfl); exact h
            have h28 : vs 28 = undef := by obtain ⟨_, _, _, h⟩ := hR2 28 (by kernel_rfl); exact h
            simp only [List.set_cons_zero, List.set_cons_succ] at hK ⊢
            have k0 := (cells_ofS hS2.1).1 2 _ rfl
            obtain ⟨k1, k2, k3, k4⟩ := slice4c hS2.2.2.1
            simp only [h27, h28] at hK ⊢
            rw [if_neg (by intro hh; exact absurd (show false = true from hh) (by decide))]
            exact hK.out _ _ (Below.refl _ _) rfl
          · intro vs w2 hb2 hS2 hR2 K hK
            have h27 : vs 27 = undef := by obtain ⟨_, _, _, h⟩ := hR2 27 (by kernel_rfl); exact h
            have h29 : vs 29 = undef := by obtain ⟨_, _, _, h⟩ := hR2 29 (by kernel_rfl); exact h
            simp only [List.set_cons_zero, List.set_cons_succ] at hK ⊢
            have k0 := (cells_ofS hS2.1).1 2 _ rfl
            obtain ⟨k1, k2, k3, k4⟩ := slice4c hS2.2.2.1
            simp only [h27, h29] at hK ⊢
            rw [if_neg (by intro hh; exact absurd (show false = true from hh) (by decide))]
            exact hK.out _ _ (Below.refl _ _) rfl
          · intro vs w2 hb2 hS2 hR2 K hK
            have h27 : vs 27 = undef := by obtain ⟨_, _, _, h⟩ := hR2 27 (by kernel_rfl); exact h
            have h30 : vs 30 = undef := by obtain ⟨_, _, _, h⟩ := hR2 30 (by kernel_rfl); exact h
            simp only [List.set_cons_zero, List.set_cons_succ] at hK ⊢
            have k0 := (cells_ofS hS2.1).1 2 _ rfl
            obtain ⟨k1, k2, k3, k4⟩ := slice4c hS2.2.2.1
            simp only [h27, h30] at hK ⊢
            rw [if_neg (by intro hh; exact absurd (show false = true from hh) (by decide))]
            exact hK.out _ _ (Below.refl _ _) rfl
          · intro vs w2 hb2 hS2 hR2 K hK
            have h27 : vs 27 = undef := by obtain ⟨_, _, _, h⟩ := hR2 27 (by kernel_rfl); exact h
            simp only [List.set_cons_zero, List.set_cons_succ] at hK ⊢
            simp only [h27] at hK ⊢
            rw [if_neg (by intro hh; exact absurd (show false = true from hh) (by decide))]
            exact hK.out _ _ (Below.refl _ _) rfl
          · intro vs w2 hb2 hS2 hR2 K hK
            have h27 : vs 27 = undef := by obtain ⟨_, _, _, h⟩ := hR2 27 (by kernel_rfl); exact h
            have h32 : vs 32 = undef := by obtain ⟨_, _, _, h⟩ := hR2 32 (by kernel_rfl); exact h
            simp only [List.set_cons_zero, List.set_cons_succ] at hK ⊢
            have k0 := (cells_ofS hS2.1).1 2 _ rfl
            obtain ⟨k1, k2, k3, k4⟩ := slice4c hS2.2.2.1
            simp only [h27, h32] at hK ⊢
            rw [if_neg (by intro hh; exact absurd (show false = true from hh) (by decide))]
            exact hK.out _ _ (Below.refl _ _) rfl
          · intro vs w2 hb2 hS2 hR2 K hK
            have h27 : vs 27 = undef := by obtain ⟨_, _, _, h⟩ := hR2 27 (by kernel_rfl); exact h
            have h33 : vs 33 = undef := by obtain ⟨_, _, _, h⟩ := hR2 33 (by kernel_rfl); exact h
            simp only [List.set_cons_zero, List.set_cons_succ] at hK ⊢
            have k0 := (cells_ofS hS2.1).1 2 _ rfl
            obtain ⟨k1, k2, k3, k4⟩ := slice4c hS2.2.2.1
            simp only [h27, h33] at hK ⊢
            rw [if_neg (by intro hh; exact absurd (show false = true from hh) (by decide))]
            exact hK.out _ _ (Below.refl _ _) rfl
          · intro vs w2 hb2 hS2 hR2 K hK
            have h27 : vs 27 = undef := by obtain ⟨_, _, _, h⟩ := hR2 27 (by kernel_rfl); exact h
            have h34 : vs 34 = undef := by obtain ⟨_, _, _, h⟩ := hR2 34 (by kernel_rfl); exact h
            simp only [List.set_cons_zero, List.set_cons_succ] at hK ⊢
            have k0 := (cells_ofS hS2.1).1 2 _ rfl
            obtain ⟨k1, k2, k3, k4⟩ := slice4c hS2.2.2.1
            simp only [h27, h34] at hK ⊢
            rw [if_neg (by intro hh; exact absurd (show false = true from hh) (by decide))]
            exact hK.out _ _ (Below.refl _ _) rfl
          · intro vs w2 hb2 hS2 hR2 K hK
            have h27 : vs 27 = undef := by obtain ⟨_, _, _, h⟩ := hR2 27 (by kernel_rfl); exact h
            have h31 : vs 31 = undef := by obtain ⟨_, _, _, h⟩ := hR2 31 (by kernel_rfl); exact h
            have h35 : vs 35 = undef := by obtain ⟨_, _, _, h⟩ := hR2 35 (by kernel_rfl); exact h
            simp only [List.set_cons_zero, List.set_cons_succ] at hK ⊢
            simp only [h27, h31, h35] at hK ⊢
            rw [if_neg (by intro hh; exact absurd (show false = true from hh) (by decide))]
            exact hK.out _ _ (Below.refl _ _) rfl
          · intro vs w2 hb2 hS2 hR2 K hK
            have h22 : vs 22 = .bool false := by obtain ⟨_, _, _, h⟩ := hR2 22 (by kernel_rfl); exact h
            have h27 : vs 27 = undef := by obtain ⟨_, _, _, h⟩ := hR2 27 (by kernel_rfl); exact h
            have h36 : vs 36 = undef := by obtain ⟨_, _, _, h⟩ := hR2 36 (by kernel_rfl); exact h
            simp only [List.set_cons_zero, List.set_cons_succ] at hK ⊢
            simp only [h22, h27, h36] at hK ⊢
            rw [if_neg (by intro hh; exact absurd (show false = true from hh) (by decide))]
            exact hK.out _ _ (Below.refl _ _) rfl
          · intro vs w2 hb2 hS2 hR2 K hK
            have h19 : vs 19 = .bool false := by obtain ⟨_, _, _, h⟩ := hR2 19 (by kernel_rfl); exact h
            have h22 : vs 22 = .bool false := by obtain ⟨_, _, _, h⟩ := hR2 22 (by kernel_rfl); exact h
            have h37 : vs 37 = undef := by obtain ⟨_, _, _, h⟩ := hR2 37 (by kernel_rfl); exact h
            simp only [List.set_cons_zero, List.set_cons_succ] at hK ⊢
            simp only [h19, h22, h37] at hK ⊢
            rw [if_pos (by rfl)]
            go_simp
            exact hK.out _ _ (Below.refl _ _) rfl
          · intro vs w2 hb2 hS2 hR2 K hK
            have h19 : vs 19 = .bool false := by obtain ⟨_, _, _, h⟩ := hR2 19 (by kernel_rfl); exact h
            have h38 : vs 38 = .bool false := by obtain ⟨_, _, _, h⟩ := hR2 38 (by kernel_rfl); exact h
            simp only [List.set_cons_zero, List.set_cons_succ] at hK ⊢
            simp only [h19, h38] at hK ⊢
            go_simp
            exact hK.out _ _ (Below.refl _ _) rfl
        case hende =>
          intro vs wx lo hiv hbx hSx hRx hdx
          have h0 : vs 0 = .int .i64 0 := (hRx 0 (by kernel_rfl)).1
          have h1 : vs 1 = .bool true := (hRx 1 (by kernel_rfl)).1
          have h2 : vs 2 = .bool true := (hRx 2 (by kernel_rfl)).1
          have h3 : vs 3 = .pointer (some ⟨m1, 2, none⟩) := (hRx 3 (by kernel_rfl)).1
          have h4 : vs 4 = .slice (some ⟨g1, o1, none⟩) 4 d1 := (hRx 4 (by kernel_rfl)).1
          have h5 : vs 5 = .int .i64 4 := (hRx 5 (by kernel_rfl)).1
          have h6 : vs 6 = .bool false := (hRx 6 (by kernel_rfl)).1
          have h7 : vs 7 = .bool false := (hRx 7 (by kernel_rfl)).1
          have h8 : vs 8 = .pointer (some ⟨m1, 2, none⟩) := (hRx 8 (by kernel_rfl)).1
          have h9 : vs 9 = .slice (some ⟨g1, o1, none⟩) 4 d1 := (hRx 9 (by kernel_rfl)).1
          have h10 : vs 10 = .pointer (some ⟨g1, o1, none⟩) := (hRx 10 (by kernel_rfl)).1
          have h11 : vs 11 = mkC p1 := (hRx 11 (by kernel_rfl)).1
          have h12 : vs 12 = .pointer (some ⟨m1, 2, none⟩) := (hRx 12 (by kernel_rfl)).1
          have h13 : vs 13 = .slice (some ⟨g1, o1, none⟩) 4 d1 := (hRx 13 (by kernel_rfl)).1
          have h14 : vs 14 = .pointer (some ⟨g1, o1 + 3, none⟩) := (hRx 14 (by kernel_rfl)).1
          have h15 : vs 15 = mkC s1 := (hRx 15 (by kernel_rfl)).1
          have h16 : vs 16 = .bool false := (hRx 16 (by kernel_rfl)).1
          have h17 : vs 17 = .bool false := (hRx 17 (by kernel_rfl)).1
          have h18 : vs 18 = .bool false := (hRx 18 (by kernel_rfl)).1
          have h19 : vs 19 = .bool false := (hRx 19 (by kernel_rfl)).1
          have h20 : vs 20 = .int .i64 e2 := (hRx 20 (by kernel_rfl)).1
          have h21 : vs 21 = .bool false := (hRx 21 (by kernel_rfl)).1
          have h22 : vs 22 = .bool false := (hRx 22 (by kernel_rfl)).1
          have h23 : vs 23 = undef := (hRx 23 (by kernel_rfl)).1
          have h24 : vs 24 = undef := (hRx 24 (by kernel_rfl)).1
          have h25 : vs 25 = undef := (hRx 25 (by kernel_rfl)).1
          have h26 : vs 26 = undef := (hRx 26 (by kernel_rfl)).1
          have h27 : vs 27 = undef := (hRx 27 (by kernel_rfl)).1
          have h28 : vs 28 = undef := (hRx 28 (by kernel_rfl)).1
          have h29 : vs 29 = undef := (hRx 29 (by kernel_rfl)).1
          have h30 : vs 30 = undef := (hRx 30 (by kernel_rfl)).1
          have h31 : vs 31 = undef := (hRx 31 (by kernel_rfl)).1
          have h32 : vs 32 = undef := (hRx 32 (by kernel_rfl)).1
          have h33 : vs 33 = undef := (hRx 33 (by kernel_rfl)).1
          have h34 : vs 34 = undef := (hRx 34 (by kernel_rfl)).1
          have h35 : vs 35 = undef := (hRx 35 (by kernel_rfl)).1
          have h36 : vs 36 = undef := (hRx 36 (by kernel_rfl)).1
          have h37 : vs 37 = undef := (hRx 37 (by kernel_rfl)).1
          have h38 : vs 38 = .bool false := (hRx 38 (by kernel_rfl)).1
          have h39 : vs 39 = .bool false := (hRx 39 (by kernel_rfl)).1
          simp only [fillD, Act.put, List.setIfInBounds_toArray, List.set_cons_zero, List.set_cons_succ, h0, h1, h2, h3, h4, h5, h6, h7, h8, h9, h10, h11, h12, h13, h14, h15, h16, h17, h18, h19, h20, h21, h22, h23, h24, h25, h26, h27, h28, h29, h30, h31, h32, h33, h34, h35, h36, h37, h38, h39]
          have hb := below_drew_left hbx
          have HBE := hid (below_next HB8.out hb)
          clear hbx hSx hRx hdx hb h0 h3 h4 h5 h6 h7 h8 h9 h10 h11 h12 h13 h14 h15 h16 h17 h18 h19 h20 h21 h22 h23 h24 h25 h26 h27 h28 h29 h30 h31 h32 h33 h34 h35 h36 h37 h38 h39
          refine wpAny_done (by kernel_rfl) ?_ _
          go_wp2
          (try simp only [Exit.inBlock, Exit.then])
          (try rw [Exit.noGoto_ret])
          go_ret
          exact ⟨rfl, HBE.out⟩
    · by_cases h2 : e2 = 0
      · subst h2
        have HL1 := HV18
        have HN1 := HM18
        have n1 : (e1 == 0) = false := by simpa using h1
        obtain ⟨p2, q2, u2, s2, rfl, ha2, hb2⟩ := sides_laid (a := a) (b := b) (c := b) (d := c) (ref := ref) (xs := x2) (by rw [HS2.out]) (by rw [HX2.out, HS2.out])
        obtain ⟨w21, w22⟩ := hb2 rfl
        clear ha2 hb2
        have HL2 := hid (show IsSl _ 1 (.slice c2 4 d2) 4 [mkC p2, mkC q2, mkC u2, mkC s2] from HV28.out)
        obtain ⟨g2, o2, d', hsl, _, _⟩ := slice4 HL2.out
        cases hsl
        have HN2 := hid (show (_ : Option Obj) = some (.cells #[.int .i64 r2, .int .i64 r2, .slice (some ⟨g2, o2, none⟩) 4 d2] 32 (0, 0)) from HM2.out)
        refine wp_region_any (by kernel_rfl) ?_
        change wpAny _ _ _ _ _ _ _ (World.drew _)
        refine wpAny_makersD [⟨some 47, 0, []⟩, ⟨some 48, 1, []⟩, ⟨some 49, 2, []⟩, ⟨some 50, 3, []⟩, ⟨some 51, 4, []⟩, ⟨some 52, 5, []⟩, ⟨some 53, 6, []⟩, ⟨some 54, 7, []⟩, ⟨some 55, 8, []⟩, ⟨some 56, 9, []⟩, ⟨some 57, 10, []⟩, ⟨some 58, 11, []⟩, ⟨some 59, 12, []⟩, ⟨some 60, 13, []⟩, ⟨some 61, 14, []⟩, ⟨some 62, 15, []⟩, ⟨some 63, 16, []⟩, ⟨some 64, 17, []⟩, ⟨some 65, 18, []⟩, ⟨some 66, 19, []⟩, ⟨some 67, 20, []⟩, ⟨some 68, 21, []⟩, ⟨some 69, 22, []⟩, ⟨some 70, 23, []⟩, ⟨some 71, 24, []⟩, ⟨some 72, 25, []⟩, ⟨some 73, 26, []⟩, ⟨some 74, 27, []⟩, ⟨some 75, 28, []⟩, ⟨some 76, 29, []⟩, ⟨some 77, 30, []⟩, ⟨some 78, 31, []⟩, ⟨some 79, 32, []⟩, ⟨some 80, 33, []⟩, ⟨some 81, 34, []⟩, ⟨some 82, 35, []⟩, ⟨some 83, 36, []⟩, ⟨some 84, 37, []⟩, ⟨some 85, 38, []⟩, ⟨some 86, 39, []⟩]
          (fun w' => w'.heap[m1]? = some (.cells #[.int .i64 r1, .int .i64 r1, .slice c1 x1.length d1] 32 (0, 0)) ∧ w'.heap[m2]? = some (.cells #[.int .i64 r2, .int .i64 r2, .slice (some ⟨g2, o2, none⟩) 4 d2] 32 (0, 0)) ∧ (IsSl w' 1 (.slice c1 x1.length d1) x1.length (x1.map mkC)) ∧ (IsSl w' 1 (.slice (some ⟨g2, o2, none⟩) 4 d2) 4 [mkC p2, mkC q2, mkC u2, mkC s2]))
          (fun oq v _ _ _ _ => match oq with | 0 => v = .int .i64 e1 | 1 => v = .bool false | 2 => v = .bool false | 3 => v = undef | 4 => v = undef | 5 => v = undef | 6 => v = undef | 7 => v = undef | 8 => v = undef | 9 => v = undef | 10 => v = undef | 11 => v = undef | 12 => v = undef | 13 => v = undef | 14 => v = undef | 15 => v = undef | 16 => v = undef | 17 => v = undef | 18 => v = .bool false | 19 => v = .bool false | 20 => v = .int .i64 0 | 21 => v = .bool true | 22 => v = .bool true | 23 => v = .pointer (some ⟨m2, 2, none⟩) | 24 => v = .slice (some ⟨g2, o2, none⟩) 4 d2 | 25 => v = .int .i64 4 | 26 => v = .bool false | 27 => v = .bool false | 28 => v = .pointer (some ⟨m2, 2, none⟩) | 29 => v = .slice (some ⟨g2, o2, none⟩) 4 d2 | 30 => v = .pointer (some ⟨g2, o2 + 1, none⟩) | 31 => v = mkC q2 | 32 => v = .pointer (some ⟨m2, 2, none⟩) | 33 => v = .slice (some ⟨g2, o2, none⟩) 4 d2 | 34 => v = .pointer (some ⟨g2, o2 + 2, none⟩) | 35 => v = mkC u2 | 36 => v = .bool false | 37 => v = .bool false | 38 => v = .bool false | 39 => v = .bool false | _ => True) (by kernel_rfl) ?hSe (fun _ _ hb h => ⟨heap_next hb h.1, heap_next hb h.2.1, h.2.2.1.below hb (Nat.le_refl _), h.2.2.2.below hb (Nat.le_refl _)⟩) (fun _ _ _ _ _ _ _ _ _ h => h) ?hope ?hende
        case hSe => exact ⟨heap_next (Below.refl _ _).drew HN1.out, heap_next (Below.refl _ _).drew HN2.out, HL1.out.below (Below.refl _ _).drew (Nat.le_refl _), HL2.out.below (Below.refl _ _).drew (Nat.le_refl _)⟩
        case hope =>
          delta Owed
          simp only [fillD, Act.put, List.setIfInBounds_toArray, List.set_cons_zero, List.set_cons_succ]
          refine Each.cons rfl ?_ (Each.cons rfl ?_ (Each.cons rfl ?_ (Each.cons rfl ?_ (Each.cons rfl ?_ (Each.cons rfl ?_ (Each.cons rfl ?_ (Each.cons rfl ?_ (Each.cons rfl ?_ (Each.cons rfl ?_ (Each.cons rfl ?_ (Each.cons rfl ?_ (Each.cons rfl ?_ (Each.cons rfl ?_ (Each.cons rfl ?_ (Each.cons rfl ?_ (Each.cons rfl ?_ (Each.cons rfl ?_ (Each.cons rfl ?_ (Each.cons rfl ?_ (Each.cons rfl ?_ (Each.cons rfl ?_ (Each.cons rfl ?_ (Each.cons rfl ?_ (Each.cons rfl ?_ (Each.cons rfl ?_ (Each.cons rfl ?_ (Each.cons rfl ?_ (Each.cons rfl ?_ (Each.cons rfl ?_ (Each.cons rfl ?_ (Each.cons rfl ?_ (Each.cons rfl ?_ (Each.cons rfl ?_ (Each.cons rfl ?_ (Each.cons rfl ?_ (Each.cons rfl ?_ (Each.cons rfl ?_ (Each.cons rfl ?_ (Each.cons rfl ?_ Each.nil)))))))))))))))))))))))))))))))))))))))
          · intro vs w2 hb2 hS2 hR2 K hK
            simp only [List.set_cons_zero, List.set_cons_succ] at hK ⊢
            go_simp
            exact hK.out _ _ (Below.refl _ _) rfl
          · intro vs w2 hb2 hS2 hR2 K hK
            have h0 : vs 0 = .int .i64 e1 := by obtain ⟨_, _, _, h⟩ := hR2 0 (by kernel_rfl); exact h
            simp only [List.set_cons_zero, List.set_cons_succ] at hK ⊢
            simp only [h0] at hK ⊢
            go_simp
            exact hK.out _ _ (Below.refl _ _) rfl
          · intro vs w2 hb2 hS2 hR2 K hK
            have h1 : vs 1 = .bool false := by obtain ⟨_, _, _, h⟩ := hR2 1 (by kernel_rfl); exact h
            simp only [List.set_cons_zero, List.set_cons_succ] at hK ⊢
            simp only [h1] at hK ⊢
            go_simp
            exact hK.out _ _ (Below.refl _ _) rfl
          · intro vs w2 hb2 hS2 hR2 K hK
            have h2 : vs 2 = .bool false := by obtain ⟨_, _, _, h⟩ := hR2 2 (by kernel_rfl); exact h
            simp only [List.set_cons_zero, List.set_cons_succ] at hK ⊢
            simp only [h2] at hK ⊢
            rw [if_neg (by intro hh; exact absurd (show false = true from hh) (by decide))]
            exact hK.out _ _ (Below.refl _ _) rfl
          · intro vs w2 hb2 hS2 hR2 K hK
            have h2 : vs 2 = .bool false := by obtain ⟨_, _, _, h⟩ := hR2 2 (by kernel_rfl); exact h
            have h3 : vs 3 = undef := by obtain ⟨_, _, _, h⟩ := hR2 3 (by kernel_rfl); exact h
            simp only [List.set_cons_zero, List.set_cons_succ] at hK ⊢
            have k5 := (cells_ofS hS2.2.1).1 2 _ rfl
            obtain ⟨k6, k7, k8, k9⟩ := slice4c hS2.2.2.2
            simp only [h2, h3] at hK ⊢
            rw [if_neg (by intro hh; exact absurd (show false = true from hh) (by decide))]
            exact hK.out _ _ (Below.refl _ _) rfl
          · intro vs w2 hb2 hS2 hR2 K hK
            have h2 : vs 2 = .bool false := by obtain ⟨_, _, _, h⟩ := hR2 2 (by kernel_rfl); exact h
            have h4 : vs 4 = undef := by obtain ⟨_, _, _, h⟩ := hR2 4 (by kernel_rfl); exact h
            simp only [List.set_cons_zero, List.set_cons_succ] at hK ⊢
            simp only [h2, h4] at hK ⊢
            rw [if_neg (by intro hh; exact absurd (show false = true from hh) (by decide))]
            exact hK.out _ _ (Below.refl _ _) rfl
          · intro vs w2 hb2 hS2 hR2 K hK
            have h2 : vs 2 = .bool false := by obtain ⟨_, _, _, h⟩ := hR2 2 (by kernel_rfl); exact h
            have h5 : vs 5 = undef := by obtain ⟨_, _, _, h⟩ := hR2 5 (by kernel_rfl); exact h
            simp only [List.set_cons_zero, List.set_cons_succ] at hK ⊢
            simp only [h2, h5] at hK ⊢
            rw [if_neg (by intro hh; exact absurd (show false = true from hh) (by decide))]
            exact hK.out _ _ (Below.refl _ _) rfl
          · intro vs w2 hb2 hS2 hR2 K hK
            have h2 : vs 2 = .bool false := by obtain ⟨_, _, _, h⟩ := hR2 2 (by kernel_rfl); exact h
            have h6 : vs 6 = undef := by obtain ⟨_, _, _, h⟩ := hR2 6 (by kernel_rfl); exact h
            simp only [List.set_cons_zero, List.set_cons_succ] at hK ⊢
            simp only [h2, h6] at hK ⊢
            rw [if_neg (by intro hh; exact absurd (show false = true from hh) (by decide))]
            exact hK.out _ _ (Below.refl _ _) rfl
          · intro vs w2 hb2 hS2 hR2 K hK
            have h7 : vs 7 = undef := by obtain ⟨_, _, _, h⟩ := hR2 7 (by kernel_rfl); exact h
            simp only [List.set_cons_zero, List.set_cons_succ] at hK ⊢
            simp only [h7] at hK ⊢
            rw [if_neg (by intro hh; exact absurd (show false = true from hh) (by decide))]
            exact hK.out _ _ (Below.refl _ _) rfl
          · intro vs w2 hb2 hS2 hR2 K hK
            have h7 : vs 7 = undef := by obtain ⟨_, _, _, h⟩ := hR2 7 (by kernel_rfl); exact h
            have h8 : vs 8 = undef := by obtain ⟨_, _, _, h⟩ := hR2 8 (by kernel_rfl); exact h
            simp only [List.set_cons_zero, List.set_cons_succ] at hK ⊢
            have k5 := (cells_ofS hS2.2.1).1 2 _ rfl
            obtain ⟨k6, k7, k8, k9⟩ := slice4c hS2.2.2.2
            simp only [h7, h8] at hK ⊢
            rw [if_neg (by intro hh; exact absurd (show false = true from hh) (by decide))]
            exact hK.out _ _ (Below.refl _ _) rfl
          · intro vs w2 hb2 hS2 hR2 K hK
            have h7 : vs 7 = undef := by obtain ⟨_, _, _, h⟩ := hR2 7 (by kernel_rfl); exact h
            have h9 : vs 9 = undef := by obtain ⟨_, _, _, h⟩ := hR2 9 (by kernel_rfl); exact h
            simp only [List.set_cons_zero, List.set_cons_succ] at hK ⊢
            have k5 := (cells_ofS hS2.2.1).1 2 _ rfl
            obtain ⟨k6, k7, k8, k9⟩ := slice4c hS2.2.2.2
            simp only [h7, h9] at hK ⊢
            rw [if_neg (by intro hh; exact absurd (show false = true from hh) (by decide))]
            exact hK.out _ _ (Below.refl _ _) rfl
          · intro vs w2 hb2 hS2 hR2 K hK
            have h7 : vs 7 = undef := by obtain ⟨_, _, _, h⟩ := hR2 7 (by kernel_rfl); exact h
            have h10 : vs 10 = undef := by obtain ⟨_, _, _, h⟩ := hR2 10 (by kernel_rfl); exact h
            simp only [List.set_cons_zero, List.set_cons_succ] at hK ⊢
            have k5 := (cells_ofS hS2.2.1).1 2 _ rfl
            obtain ⟨k6, k7, k8, k9⟩ := slice4c hS2.2.2.2
            simp only [h7, h10] at hK ⊢
            rw [if_neg (by intro hh; exact absurd (show false = true from hh) (by decide))]
            exact hK.out _ _ (Below.refl _ _) rfl
          · intro vs w2 hb2 hS2 hR2 K hK
            have h7 : vs 7 = undef := by obtain ⟨_, _, _, h⟩ := hR2 7 (by kernel_rfl); exact h
            simp only [List.set_cons_zero, List.set_cons_succ] at hK ⊢
            simp only [h7] at hK ⊢
            rw [if_neg (by intro hh; exact absurd (show false = true from hh) (by decide))]
            exact hK.out _ _ (Below.refl _ _) rfl
          · intro vs w2 hb2 hS2 hR2 K hK
            have h7 : vs 7 = undef := by obtain ⟨_, _, _, h⟩ := hR2 7 (by kernel_rfl); exact h
            have h12 : vs 12 = undef := by obtain ⟨_, _, _, h⟩ := hR2 12 (by kernel_rfl); exact h
            simp only [List.set_cons_zero, List.set_cons_succ] at hK ⊢
            have k5 := (cells_ofS hS2.2.1).1 2 _ rfl
            obtain ⟨k6, k7, k8, k9⟩ := slice4c hS2.2.2.2
            simp only [h7, h12] at hK ⊢
            rw [if_neg (by intro hh; exact absurd (show false = true from hh) (by decide))]
            exact hK.out _ _ (Below.refl _ _) rfl
          · intro vs w2 hb2 hS2 hR2 K hK
            have h7 : vs 7 = undef := by obtain ⟨_, _, _, h⟩ := hR2 7 (by kernel_rfl); exact h
            have h13 : vs 13 = undef := by obtain ⟨_, _, _, h⟩ := hR2 13 (by kernel_rfl); exact h
            simp only [List.set_cons_zero, List.set_cons_succ] at hK ⊢
            have k5 := (cells_ofS hS2.2.1).1 2 _ rfl
            obtain ⟨k6, k7, k8, k9⟩ := slice4c hS2.2.2.2
            simp only [h7, h13] at hK ⊢
            rw [if_neg (by intro hh; exact absurd (show false = true from hh) (by decide))]
            exact hK.out _ _ (Below.refl _ _) rfl
          · intro vs w2 hb2 hS2 hR2 K hK
            have h7 : vs 7 = undef := by obtain ⟨_, _, _, h⟩ := hR2 7 (by kernel_rfl); exact h
            have h14 : vs 14 = undef := by obtain ⟨_, _, _, h⟩ := hR2 14 (by kernel_rfl); exact h
            simp only [List.set_cons_zero, List.set_cons_succ] at hK ⊢
            have k5 := (cells_ofS hS2.2.1).1 2 _ rfl
            obtain ⟨k6, k7, k8, k9⟩ := slice4c hS2.2.2.2
            simp only [h7, h14] at hK ⊢
            rw [if_neg (by intro hh; exact absurd (show false = true from hh) (by decide))]
            exact hK.out _ _ (Below.refl _ _) rfl
          · intro vs w2 hb2 hS2 hR2 K hK
            have h7 : vs 7 = undef := by obtain ⟨_, _, _, h⟩ := hR2 7 (by kernel_rfl); exact h
            have h11 : vs 11 = undef := by obtain ⟨_, _, _, h⟩ := hR2 11 (by kernel_rfl); exact h
            have h15 : vs 15 = undef := by obtain ⟨_, _, _, h⟩ := hR2 15 (by kernel_rfl); exact h
            simp only [List.set_cons_zero, List.set_cons_succ] at hK ⊢
            simp only [h7, h11, h15] at hK ⊢
            rw [if_neg (by intro hh; exact absurd (show false = true from hh) (by decide))]
            exact hK.out _ _ (Below.refl _ _) rfl
          · intro vs w2 hb2 hS2 hR2 K hK
            have h2 : vs 2 = .bool false := by obtain ⟨_, _, _, h⟩ := hR2 2 (by kernel_rfl); exact h
            have h7 : vs 7 = undef := by obtain ⟨_, _, _, h⟩ := hR2 7 (by kernel_rfl); exact h
            have h16 : vs 16 = undef := by obtain ⟨_, _, _, h⟩ := hR2 16 (by kernel_rfl); exact h
            simp only [List.set_cons_zero, List.set_cons_succ] at hK ⊢
            simp only [h2, h7, h16] at hK ⊢
            rw [if_neg (by intro hh; exact absurd (show false = true from hh) (by decide))]
            exact hK.out _ _ (Below.refl _ _) rfl
          · intro vs w2 hb2 hS2 hR2 K hK
            have h2 : vs 2 = .bool false := by obtain ⟨_, _, _, h⟩ := hR2 2 (by kernel_rfl); exact h
            have h17 : vs 17 = undef := by obtain ⟨_, _, _, h⟩ := hR2 17 (by kernel_rfl); exact h
            simp only [List.set_cons_zero, List.set_cons_succ] at hK ⊢
            simp only [h2, h17] at hK ⊢
            go_simp
            exact hK.out _ _ (Below.refl _ _) rfl
          · intro vs w2 hb2 hS2 hR2 K hK
            have h18 : vs 18 = .bool false := by obtain ⟨_, _, _, h⟩ := hR2 18 (by kernel_rfl); exact h
            simp only [List.set_cons_zero, List.set_cons_succ] at hK ⊢
            simp only [h18] at hK ⊢
            go_simp
            exact hK.out _ _ (Below.refl _ _) rfl
          · intro vs w2 hb2 hS2 hR2 K hK
            have h19 : vs 19 = .bool false := by obtain ⟨_, _, _, h⟩ := hR2 19 (by kernel_rfl); exact h
            simp only [List.set_cons_zero, List.set_cons_succ] at hK ⊢
            simp only [h19] at hK ⊢
            rw [if_pos (by rfl)]
            go_simp
            exact hK.out _ _ (Below.refl _ _) rfl
          · intro vs w2 hb2 hS2 hR2 K hK
            have h19 : vs 19 = .bool false := by obtain ⟨_, _, _, h⟩ := hR2 19 (by kernel_rfl); exact h
            have h20 : vs 20 = .int .i64 0 := by obtain ⟨_, _, _, h⟩ := hR2 20 (by kernel_rfl); exact h
            simp only [List.set_cons_zero, List.set_cons_succ] at hK ⊢
            simp only [h19, h20] at hK ⊢
            rw [if_pos (by rfl)]
            go_simp
            exact hK.out _ _ (Below.refl _ _) rfl
          · intro vs w2 hb2 hS2 hR2 K hK
            have h19 : vs 19 = .bool false := by obtain ⟨_, _, _, h⟩ := hR2 19 (by kernel_rfl); exact h
            have h21 : vs 21 = .bool true := by obtain ⟨_, _, _, h⟩ := hR2 21 (by kernel_rfl); exact h
            simp only [List.set_cons_zero, List.set_cons_succ] at hK ⊢
            simp only [h19, h21] at hK ⊢
            rw [if_pos (by rfl)]
            go_simp
            exact hK.out _ _ (Below.refl _ _) rfl
          · intro vs w2 hb2 hS2 hR2 K hK
            have h22 : vs 22 = .bool true := by obtain ⟨_, _, _, h⟩ := hR2 22 (by kernel_rfl); exact h
            simp only [List.set_cons_zero, List.set_cons_succ] at hK ⊢
            simp only [h22] at hK ⊢
            rw [if_pos (by rfl)]
            go_simp
            exact hK.out _ _ (Below.refl _ _) rfl
          · intro vs w2 hb2 hS2 hR2 K hK
            have h22 : vs 22 = .bool true := by obtain ⟨_, _, _, h⟩ := hR2 22 (by kernel_rfl); exact h
            have h23 : vs 23 = .pointer (some ⟨m2, 2, none⟩) := by obtain ⟨_, _, _, h⟩ := hR2 23 (by kernel_rfl); exact h
            simp only [List.set_cons_zero, List.set_cons_succ] at hK ⊢
            have k5 := (cells_ofS hS2.2.1).1 2 _ rfl
            obtain ⟨k6, k7, k8, k9⟩ := slice4c hS2.2.2.2
            simp only [h22, h23] at hK ⊢
            rw [if_pos (by rfl)]
            go_simp
            exact hK.out _ _ (Below.refl _ _) rfl
          · intro vs w2 hb2 hS2 hR2 K hK
            have h22 : vs 22 = .bool true := by obtain ⟨_, _, _, h⟩ := hR2 22 (by kernel_rfl); exact h
            have h24 : vs 24 = .slice (some ⟨g2, o2, none⟩) 4 d2 := by obtain ⟨_, _, _, h⟩ := hR2 24 (by kernel_rfl); exact h
            simp only [List.set_cons_zero, List.set_cons_succ] at hK ⊢
            simp only [h22, h24] at hK ⊢
            rw [if_pos (by rfl)]
            go_simp
            exact hK.out _ _ (Below.refl _ _) rfl
          · intro vs w2 hb2 hS2 hR2 K hK
            have h22 : vs 22 = .bool true := by obtain ⟨_, _, _, h⟩ := hR2 22 (by kernel_rfl); exact h
            have h25 : vs 25 = .int .i64 4 := by obtain ⟨_, _, _, h⟩ := hR2 25 (by kernel_rfl); exact h
            simp only [List.set_cons_zero, List.set_cons_succ] at hK ⊢
            simp only [h22, h25] at hK ⊢
            rw [if_pos (by rfl)]
            go_simp
            exact hK.out _ _ (Below.refl _ _) rfl
          · intro vs w2 hb2 hS2 hR2 K hK
            have h22 : vs 22 = .bool true := by obtain ⟨_, _, _, h⟩ := hR2 22 (by kernel_rfl); exact h
            have h26 : vs 26 = .bool false := by obtain ⟨_, _, _, h⟩ := hR2 26 (by kernel_rfl); exact h
            simp only [List.set_cons_zero, List.set_cons_succ] at hK ⊢
            simp only [h22, h26] at hK ⊢
            rw [if_pos (by rfl)]
            go_simp
            exact hK.out _ _ (Below.refl _ _) rfl
          · intro vs w2 hb2 hS2 hR2 K hK
            have h27 : vs 27 = .bool false := by obtain ⟨_, _, _, h⟩ := hR2 27 (by kernel_rfl); exact h
            simp only [List.set_cons_zero, List.set_cons_succ] at hK ⊢
            simp only [h27] at hK ⊢
            rw [if_pos (by rfl)]
            go_simp
            exact hK.out _ _ (Below.refl _ _) rfl
          · intro vs w2 hb2 hS2 hR2 K hK
            have h27 : vs 27 = .bool false := by obtain ⟨_, _, _, h⟩ := hR2 27 (by kernel_rfl); exact h
            have h28 : vs 28 = .pointer (some ⟨m2, 2, none⟩) := by obtain ⟨_, _, _, h⟩ := hR2 28 (by kernel_rfl); exact h
            simp only [List.set_cons_zero, List.set_cons_succ] at hK ⊢
            have k5 := (cells_ofS hS2.2.1).1 2 _ rfl
            obtain ⟨k6, k7, k8, k9⟩ := slice4c hS2.2.2.2
            simp only [h27, h28] at hK ⊢
            rw [if_pos (by rfl)]
            go_simp
            exact hK.out _ _ (Below.refl _ _) rfl
          · intro vs w2 hb2 hS2 hR2 K hK
            have h27 : vs 27 = .bool false := by obtain ⟨_, _, _, h⟩ := hR2 27 (by kernel_rfl); exact h
            have h29 : vs 29 = .slice (some ⟨g2, o2, none⟩) 4 d2 := by obtain ⟨_, _, _, h⟩ := hR2 29 (by kernel_rfl); exact h
            simp only [List.set_cons_zero, List.set_cons_succ] at hK ⊢
            have k5 := (cells_ofS hS2.2.1).1 2 _ rfl
            obtain ⟨k6, k7, k8, k9⟩ := slice4c hS2.2.2.2
            simp only [h27, h29] at hK ⊢
            rw [if_pos (by rfl)]
            go_simp
            exact hK.out _ _ (Below.refl _ _) rfl
          · intro vs w2 hb2 hS2 hR2 K hK
            have h27 : vs 27 = .bool false := by obtain ⟨_, _, _, h⟩ := hR2 27 (by kernel_rfl); exact h
            have h30 : vs 30 = .pointer (some ⟨g2, o2 + 1, none⟩) := by obtain ⟨_, _, _, h⟩ := hR2 30 (by kernel_rfl); exact h
            simp only [List.set_cons_zero, List.set_cons_succ] at hK ⊢
            have k5 := (cells_ofS hS2.2.1).1 2 _ rfl
            obtain ⟨k6, k7, k8, k9⟩ := slice4c hS2.2.2.2
            simp only [h27, h30] at hK ⊢
            rw [if_pos (by rfl)]
            go_simp
            exact hK.out _ _ (Below.refl _ _) rfl
          · intro vs w2 hb2 hS2 hR2 K hK
            have h27 : vs 27 = .bool false := by obtain ⟨_, _, _, h⟩ := hR2 27 (by kernel_rfl); exact h
            simp only [List.set_cons_zero, List.set_cons_succ] at hK ⊢
            simp only [h27] at hK ⊢
            rw [if_pos (by rfl)]
            go_simp
            exact hK.out _ _ (Below.refl _ _) rfl
          · intro vs w2 hb2 hS2 hR2 K hK
            have h27 : vs 27 = .bool false := by obtain ⟨_, _, _, h⟩ := hR2 27 (by kernel_rfl); exact h
            have h32 : vs 32 = .pointer (some ⟨m2, 2, none⟩) := by obtain ⟨_, _, _, h⟩ := hR2 32 (by kernel_rfl); exact h
            simp only [List.set_cons_zero, List.set_cons_succ] at hK ⊢
            have k5 := (cells_ofS hS2.2.1).1 2 _ rfl
            obtain ⟨k6, k7, k8, k9⟩ := slice4c hS2.2.2.2
            simp only [h27, h32] at hK ⊢
            rw [if_pos (by rfl)]
            go_simp
            exact hK.out _ _ (Below.refl _ _) rfl
          · intro vs w2 hb2 hS2 hR2 K hK
            have h27 : vs 27 = .bool false := by obtain ⟨_, _, _, h⟩ := hR2 27 (by kernel_rfl); exact h
            have h33 : vs 33 = .slice (some ⟨g2, o2, none⟩) 4 d2 := by obtain ⟨_, _, _, h⟩ := hR2 33 (by kernel_rfl); exact h
            simp only [List.set_cons_zero, List.set_cons_succ] at hK ⊢
            have k5 := (cells_ofS hS2.2.1).1 2 _ rfl
            obtain ⟨k6, k7, k8, k9⟩ := slice4c hS2.2.2.2
            simp only [h27, h33] at hK ⊢
            rw [if_pos (by rfl)]
            go_simp
            exact hK.out _ _ (Below.refl _ _) rfl
          · intro vs w2 hb2 hS2 hR2 K hK
            have h27 : vs 27 = .bool false := by obtain ⟨_, _, _, h⟩ := hR2 27 (by kernel_rfl); exact h
            have h34 : vs 34 = .pointer (some ⟨g2, o2 + 2, none⟩) := by obtain ⟨_, _, _, h⟩ := hR2 34 (by kernel_rfl); exact h
            simp only [List.set_cons_zero, List.set_cons_succ] at hK ⊢
            have k5 := (cells_ofS hS2.2.1).1 2 _ rfl
            obtain ⟨k6, k7, k8, k9⟩ := slice4c hS2.2.2.2
            simp only [h27, h34] at hK ⊢
            rw [if_pos (by rfl)]
            go_simp
            exact hK.out _ _ (Below.refl _ _) rfl
          · intro vs w2 hb2 hS2 hR2 K hK
            have h27 : vs 27 = .bool false := by obtain ⟨_, _, _, h⟩ := hR2 27 (by kernel_rfl); exact h
            have h31 : vs 31 = mkC q2 := by obtain ⟨_, _, _, h⟩ := hR2 31 (by kernel_rfl); exact h
            have h35 : vs 35 = mkC u2 := by obtain ⟨_, _, _, h⟩ := hR2 35 (by kernel_rfl); exact h
            simp only [List.set_cons_zero, List.set_cons_succ] at hK ⊢
            simp only [h27, h31, h35] at hK ⊢
            rw [if_pos (by rfl)]
            go_simp
            exact hK.out _ _ (Below.refl _ _) rfl
          · intro vs w2 hb2 hS2 hR2 K hK
            have h22 : vs 22 = .bool true := by obtain ⟨_, _, _, h⟩ := hR2 22 (by kernel_rfl); exact h
            have h27 : vs 27 = .bool false := by obtain ⟨_, _, _, h⟩ := hR2 27 (by kernel_rfl); exact h
            have h36 : vs 36 = .bool false := by obtain ⟨_, _, _, h⟩ := hR2 36 (by kernel_rfl); exact h
            simp only [List.set_cons_zero, List.set_cons_succ] at hK ⊢
            simp only [h22, h27, h36] at hK ⊢
            rw [if_pos (by rfl)]
            go_simp
            exact hK.out _ _ (Below.refl _ _) rfl
          · intro vs w2 hb2 hS2 hR2 K hK
            have h19 : vs 19 = .bool false := by obtain ⟨_, _, _, h⟩ := hR2 19 (by kernel_rfl); exact h
            have h22 : vs 22 = .bool true := by obtain ⟨_, _, _, h⟩ := hR2 22 (by kernel_rfl); exact h
            have h37 : vs 37 = .bool false := by obtain ⟨_, _, _, h⟩ := hR2 37 (by kernel_rfl); exact h
            simp only [List.set_cons_zero, List.set_cons_succ] at hK ⊢
            simp only [h19, h22, h37] at hK ⊢
            rw [if_pos (by rfl)]
            go_simp
            exact hK.out _ _ (Below.refl _ _) rfl
          · intro vs w2 hb2 hS2 hR2 K hK
            have h19 : vs 19 = .bool false := by obtain ⟨_, _, _, h⟩ := hR2 19 (by kernel_rfl); exact h
            have h38 : vs 38 = .bool false := by obtain ⟨_, _, _, h⟩ := hR2 38 (by kernel_rfl); exact h
            simp only [List.set_cons_zero, List.set_cons_succ] at hK ⊢
            simp only [h19, h38] at hK ⊢
            go_simp
            exact hK.out _ _ (Below.refl _ _) rfl
        case hende =>
          intro vs wx lo hiv hbx hSx hRx hdx
          have h0 : vs 0 = .int .i64 e1 := (hRx 0 (by kernel_rfl)).1
          have h1 : vs 1 = .bool false := (hRx 1 (by kernel_rfl)).1
          have h2 : vs 2 = .bool false := (hRx 2 (by kernel_rfl)).1
          have h3 : vs 3 = undef := (hRx 3 (by kernel_rfl)).1
          have h4 : vs 4 = undef := (hRx 4 (by kernel_rfl)).1
          have h5 : vs 5 = undef := (hRx 5 (by kernel_rfl)).1
          have h6 : vs 6 = undef := (hRx 6 (by kernel_rfl)).1
          have h7 : vs 7 = undef := (hRx 7 (by kernel_rfl)).1
          have h8 : vs 8 = undef := (hRx 8 (by kernel_rfl)).1
          have h9 : vs 9 = undef := (hRx 9 (by kernel_rfl)).1
          have h10 : vs 10 = undef := (hRx 10 (by kernel_rfl)).1
          have h11 : vs 11 = undef := (hRx 11 (by kernel_rfl)).1
          have h12 : vs 12 = undef := (hRx 12 (by kernel_rfl)).1
          have h13 : vs 13 = undef := (hRx 13 (by kernel_rfl)).1
          have h14 : vs 14 = undef := (hRx 14 (by kernel_rfl)).1
          have h15 : vs 15 = undef := (hRx 15 (by kernel_rfl)).1
          have h16 : vs 16 = undef := (hRx 16 (by kernel_rfl)).1
          have h17 : vs 17 = undef := (hRx 17 (by kernel_rfl)).1
          have h18 : vs 18 = .bool false := (hRx 18 (by kernel_rfl)).1
          have h19 : vs 19 = .bool false := (hRx 19 (by kernel_rfl)).1
          have h20 : vs 20 = .int .i64 0 := (hRx 20 (by kernel_rfl)).1
          have h21 : vs 21 = .bool true := (hRx 21 (by kernel_rfl)).1
          have h22 : vs 22 = .bool true := (hRx 22 (by kernel_rfl)).1
          have h23 : vs 23 = .pointer (some ⟨m2, 2, none⟩) := (hRx 23 (by kernel_rfl)).1
          have h24 : vs 24 = .slice (some ⟨g2, o2, none⟩) 4 d2 := (hRx 24 (by kernel_rfl)).1
          have h25 : vs 25 = .int .i64 4 := (hRx 25 (by kernel_rfl)).1
          have h26 : vs 26 = .bool false := (hRx 26 (by kernel_rfl)).1
          have h27 : vs 27 = .bool false := (hRx 27 (by kernel_rfl)).1
          have h28 : vs 28 = .pointer (some ⟨m2, 2, none⟩) := (hRx 28 (by kernel_rfl)).1
          have h29 : vs 29 = .slice (some ⟨g2, o2, none⟩) 4 d2 := (hRx 29 (by kernel_rfl)).1
          have h30 : vs 30 = .pointer (some ⟨g2, o2 + 1, none⟩) := (hRx 30 (by kernel_rfl)).1
          have h31 : vs 31 = mkC q2 := (hRx 31 (by kernel_rfl)).1
          have h32 : vs 32 = .pointer (some ⟨m2, 2, none⟩) := (hRx 32 (by kernel_rfl)).1
          have h33 : vs 33 = .slice (some ⟨g2, o2, none⟩) 4 d2 := (hRx 33 (by kernel_rfl)).1
          have h34 : vs 34 = .pointer (some ⟨g2, o2 + 2, none⟩) := (hRx 34 (by kernel_rfl)).1
          have h35 : vs 35 = mkC u2 := (hRx 35 (by kernel_rfl)).1
          have h36 : vs 36 = .bool false := (hRx 36 (by kernel_rfl)).1
          have h37 : vs 37 = .bool false := (hRx 37 (by kernel_rfl)).1
          have h38 : vs 38 = .bool false := (hRx 38 (by kernel_rfl)).1
          have h39 : vs 39 = .bool false := (hRx 39 (by kernel_rfl)).1
          simp only [fillD, Act.put, List.setIfInBounds_toArray, List.set_cons_zero, List.set_cons_succ, h0, h1, h2, h3, h4, h5, h6, h7, h8, h9, h10, h11, h12, h13, h14, h15, h16, h17, h18, h19, h20, h21, h22, h23, h24, h25, h26, h27, h28, h29, h30, h31, h32, h33, h34, h35, h36, h37, h38, h39]
          have hb := below_drew_left hbx
          have HBE := hid (below_next HB8.out hb)
          clear hbx hSx hRx hdx hb h0 h3 h4 h5 h6 h7 h8 h9 h10 h11 h12 h13 h14 h15 h16 h17 h18 h19 h20 h21 h22 h23 h24 h25 h26 h27 h28 h29 h30 h31 h32 h33 h34 h35 h36 h37 h38 h39
          refine wpAny_done (by kernel_rfl) ?_ _
          go_wp2
          (try simp only [Exit.inBlock, Exit.then])
          (try rw [Exit.noGoto_ret])
          go_ret
          exact ⟨rfl, HBE.out⟩
      · skip
        have HL1 := HV18
        have HN1 := HM18
        have n1 : (e1 == 0) = false := by simpa using h1
        have HL2 := HV28
        have HN2 := HM2
        have n2 : (e2 == 0) = false := by simpa using h2
        refine wp_region_any (by kernel_rfl) ?_
        change wpAny _ _ _ _ _ _ _ (World.drew _)
        refine wpAny_makersD [⟨some 47, 0, []⟩, ⟨some 48, 1, []⟩, ⟨some 49, 2, []⟩, ⟨some 50, 3, []⟩, ⟨some 51, 4, []⟩, ⟨some 52, 5, []⟩, ⟨some 53, 6, []⟩, ⟨some 54, 7, []⟩, ⟨some 55, 8, []⟩, ⟨some 56, 9, []⟩, ⟨some 57, 10, []⟩, ⟨some 58, 11, []⟩, ⟨some 59, 12, []⟩, ⟨some 60, 13, []⟩, ⟨some 61, 14, []⟩, ⟨some 62, 15, []⟩, ⟨some 63, 16, []⟩, ⟨some 64, 17, []⟩, ⟨some 65, 18, []⟩, ⟨some 66, 19, []⟩, ⟨some 67, 20, []⟩, ⟨some 68, 21, []⟩, ⟨some 69, 22, []⟩, ⟨some 70, 23, []⟩, ⟨some 71, 24, []⟩, ⟨some 72, 25, []⟩, ⟨some 73, 26, []⟩, ⟨some 74, 27, []⟩, ⟨some 75, 28, []⟩, ⟨some 76, 29, []⟩, ⟨some 77, 30, []⟩, ⟨some 78, 31, []⟩, ⟨some 79, 32, []⟩, ⟨some 80, 33, []⟩, ⟨some 81, 34, []⟩, ⟨some 82, 35, []⟩, ⟨some 83, 36, []⟩, ⟨some 84, 37, []⟩, ⟨some 85, 38, []⟩, ⟨some 86, 39, []⟩]
          (fun w' => w'.heap[m1]? = some (.cells #[.int .i64 r1, .int .i64 r1, .slice c1 x1.length d1] 32 (0, 0)) ∧ w'.heap[m2]? = some (.cells #[.int .i64 r2, .int .i64 r2, .slice c2 x2.length d2] 32 (0, 0)) ∧ (IsSl w' 1 (.slice c1 x1.length d1) x1.length (x1.map mkC)) ∧ (IsSl w' 1 (.slice c2 x2.length d2) x2.length (x2.map mkC)))
          (fun oq v _ _ _ _ => match oq with | 0 => v = .int .i64 e1 | 1 => v = .bool false | 2 => v = .bool false | 3 => v = undef | 4 => v = undef | 5 => v = undef | 6 => v = undef | 7 => v = undef | 8 => v = undef | 9 => v = undef | 10 => v = undef | 11 => v = undef | 12 => v = undef | 13 => v = undef | 14 => v = undef | 15 => v = undef | 16 => v = undef | 17 => v = undef | 18 => v = .bool false | 19 => v = .bool false | 20 => v = .int .i64 e2 | 21 => v = .bool false | 22 => v = .bool false | 23 => v = undef | 24 => v = undef | 25 => v = undef | 26 => v = undef | 27 => v = undef | 28 => v = undef | 29 => v = undef | 30 => v = undef | 31 => v = undef | 32 => v = undef | 33 => v = undef | 34 => v = undef | 35 => v = undef | 36 => v = undef | 37 => v = undef | 38 => v = .bool false | 39 => v = .bool false | _ => True) (by kernel_rfl) ?hSe (fun _ _ hb h => ⟨heap_next hb h.1, heap_next hb h.2.1, h.2.2.1.below hb (Nat.le_refl _), h.2.2.2.below hb (Nat.le_refl _)⟩) (fun _ _ _ _ _ _ _ _ _ h => h) ?hope ?hende
        case hSe => exact ⟨heap_next (Below.refl _ _).drew HN1.out, heap_next (Below.refl _ _).drew HN2.out, HL1.out.below (Below.refl _ _).drew (Nat.le_refl _), HL2.out.below (Below.refl _ _).drew (Nat.le_refl _)⟩
        case hope =>
          delta Owed
          simp only [fillD, Act.put, List.setIfInBounds_toArray, List.set_cons_zero, List.set_cons_succ]
          refine Each.cons rfl ?_ (Each.cons rfl ?_ (Each.cons rfl ?_ (Each.cons rfl ?_ (Each.cons rfl ?_ (Each.cons rfl ?_ (Each.cons rfl ?_ (Each.cons rfl ?_ (Each.cons rfl ?_ (Each.cons rfl ?_ (Each.cons rfl ?_ (Each.cons rfl ?_ (Each.cons rfl ?_ (Each.cons rfl ?_ (Each.cons rfl ?_ (Each.cons rfl ?_ (Each.cons rfl ?_ (Each.cons rfl ?_ (Each.cons rfl ?_ (Each.cons rfl ?_ (Each.cons rfl ?_ (Each.cons rfl ?_ (Each.cons rfl ?_ (Each.cons rfl ?_ (Each.cons rfl ?_ (Each.cons rfl ?_ (Each.cons rfl ?_ (Each.cons rfl ?_ (Each.cons rfl ?_ (Each.cons rfl ?_ (Each.cons rfl ?_ (Each.cons rfl ?_ (Each.cons rfl ?_ (Each.cons rfl ?_ (Each.cons rfl ?_ (Each.cons rfl ?_ (Each.cons rfl ?_ (Each.cons rfl ?_ (Each.cons rfl ?_ (Each.cons rfl ?_ Each.nil)))))))))))))))))))))))))))))))))))))))
          · intro vs w2 hb2 hS2 hR2 K hK
            simp only [List.set_cons_zero, List.set_cons_succ] at hK ⊢
            go_simp
            exact hK.out _ _ (Below.refl _ _) rfl
          · intro vs w2 hb2 hS2 hR2 K hK
            have h0 : vs 0 = .int .i64 e1 := by obtain ⟨_, _, _, h⟩ := hR2 0 (by kernel_rfl); exact h
            simp only [List.set_cons_zero, List.set_cons_succ] at hK ⊢
            simp only [h0] at hK ⊢
            go_simp
            exact hK.out _ _ (Below.refl _ _) rfl
          · intro vs w2 hb2 hS2 hR2 K hK
            have h1 : vs 1 = .bool false := by obtain ⟨_, _, _, h⟩ := hR2 1 (by kernel_rfl); exact h
            simp only [List.set_cons_zero, List.set_cons_succ] at hK ⊢
            simp only [h1] at hK ⊢
            go_simp
            exact hK.out _ _ (Below.refl _ _) rfl
          · intro vs w2 hb2 hS2 hR2 K hK
            have h2 : vs 2 = .bool false := by obtain ⟨_, _, _, h⟩ := hR2 2 (by kernel_rfl); exact h
            simp only [List.set_cons_zero, List.set_cons_succ] at hK ⊢
            simp only [h2] at hK ⊢
            rw [if_neg (by intro hh; exact absurd (show false = true from hh) (by decide))]
            exact hK.out _ _ (Below.refl _ _) rfl
          · intro vs w2 hb2 hS2 hR2 K hK
            have h2 : vs 2 = .bool false := by obtain ⟨_, _, _, h⟩ := hR2 2 (by kernel_rfl); exact h
            have h3 : vs 3 = undef := by obtain ⟨_, _, _, h⟩ := hR2 3 (by kernel_rfl); exact h
            simp only [List.set_cons_zero, List.set_cons_succ] at hK ⊢
            simp only [h2, h3] at hK ⊢
            rw [if_neg (by intro hh; exact absurd (show false = true from hh) (by decide))]
            exact hK.out _ _ (Below.refl _ _) rfl
          · intro vs w2 hb2 hS2 hR2 K hK
            have h2 : vs 2 = .bool false := by obtain ⟨_, _, _, h⟩ := hR2 2 (by kernel_rfl); exact h
            have h4 : vs 4 = undef := by obtain ⟨_, _, _, h⟩ := hR2 4 (by kernel_rfl); exact h
            simp only [List.set_cons_zero, List.set_cons_succ] at hK ⊢
            simp only [h2, h4] at hK ⊢
            rw [if_neg (by intro hh; exact absurd (show false = true from hh) (by decide))]
            exact hK.out _ _ (Below.refl _ _) rfl
          · intro vs w2 hb2 hS2 hR2 K hK
            have h2 : vs 2 = .bool false := by obtain ⟨_, _, _, h⟩ := hR2 2 (by kernel_rfl); exact h
            have h5 : vs 5 = undef := by obtain ⟨_, _, _, h⟩ := hR2 5 (by kernel_rfl); exact h
            simp only [List.set_cons_zero, List.set_cons_succ] at hK ⊢
            simp only [h2, h5] at hK ⊢
            rw [if_neg (by intro hh; exact absurd (show false = true from hh) (by decide))]
            exact hK.out _ _ (Below.refl _ _) rfl
          · intro vs w2 hb2 hS2 hR2 K hK
            have h2 : vs 2 = .bool false := by obtain ⟨_, _, _, h⟩ := hR2 2 (by kernel_rfl); exact h
            have h6 : vs 6 = undef := by obtain ⟨_, _, _, h⟩ := hR2 6 (by kernel_rfl); exact h
            simp only [List.set_cons_zero, List.set_cons_succ] at hK ⊢
            simp only [h2, h6] at hK ⊢
            rw [if_neg (by intro hh; exact absurd (show false = true from hh) (by decide))]
            exact hK.out _ _ (Below.refl _ _) rfl
          · intro vs w2 hb2 hS2 hR2 K hK
            have h7 : vs 7 = undef := by obtain ⟨_, _, _, h⟩ := hR2 7 (by kernel_rfl); exact h
            simp only [List.set_cons_zero, List.set_cons_succ] at hK ⊢
            simp only [h7] at hK ⊢
            rw [if_neg (by intro hh; exact absurd (show false = true from hh) (by decide))]
            exact hK.out _ _ (Below.refl _ _) rfl
          · intro vs w2 hb2 hS2 hR2 K hK
            have h7 : vs 7 = undef := by obtain ⟨_, _, _, h⟩ := hR2 7 (by kernel_rfl); exact h
            have h8 : vs 8 = undef := by obtain ⟨_, _, _, h⟩ := hR2 8 (by kernel_rfl); exact h
            simp only [List.set_cons_zero, List.set_cons_succ] at hK ⊢
            simp only [h7, h8] at hK ⊢
            rw [if_neg (by intro hh; exact absurd (show false = true from hh) (by decide))]
            exact hK.out _ _ (Below.refl _ _) rfl
          · intro vs w2 hb2 hS2 hR2 K hK
            have h7 : vs 7 = undef := by obtain ⟨_, _, _, h⟩ := hR2 7 (by kernel_rfl); exact h
            have h9 : vs 9 = undef := by obtain ⟨_, _, _, h⟩ := hR2 9 (by kernel_rfl); exact h
            simp only [List.set_cons_zero, List.set_cons_succ] at hK ⊢
            simp only [h7, h9] at hK ⊢
            rw [if_neg (by intro hh; exact absurd (show false = true from hh) (by decide))]
            exact hK.out _ _ (Below.refl _ _) rfl
          · intro vs w2 hb2 hS2 hR2 K hK
            have h7 : vs 7 = undef := by obtain ⟨_, _, _, h⟩ := hR2 7 (by kernel_rfl); exact h
            have h10 : vs 10 = undef := by obtain ⟨_, _, _, h⟩ := hR2 10 (by kernel_rfl); exact h
            simp only [List.set_cons_zero, List.set_cons_succ] at hK ⊢
            simp only [h7, h10] at hK ⊢
            rw [if_neg (by intro hh; exact absurd (show false = true from hh) (by decide))]
            exact hK.out _ _ (Below.refl _ _) rfl
          · intro vs w2 hb2 hS2 hR2 K hK
            have h7 : vs 7 = undef := by obtain ⟨_, _, _, h⟩ := hR2 7 (by kernel_rfl); exact h
            simp only [List.set_cons_zero, List.set_cons_succ] at hK ⊢
            simp only [h7] at hK ⊢
            rw [if_neg (by intro hh; exact absurd (show false = true from hh) (by decide))]
            exact hK.out _ _ (Below.refl _ _) rfl
          · intro vs w2 hb2 hS2 hR2 K hK
            have h7 : vs 7 = undef := by obtain ⟨_, _, _, h⟩ := hR2 7 (by kernel_rfl); exact h
            have h12 : vs 12 = undef := by obtain ⟨_, _, _, h⟩ := hR2 12 (by kernel_rfl); exact h
            simp only [List.set_cons_zero, List.set_cons_succ] at hK ⊢
            simp only [h7, h12] at hK ⊢
            rw [if_neg (by intro hh; exact absurd (show false = true from hh) (by decide))]
            exact hK.out _ _ (Below.refl _ _) rfl
          · intro vs w2 hb2 hS2 hR2 K hK
            have h7 : vs 7 = undef := by obtain ⟨_, _, _, h⟩ := hR2 7 (by kernel_rfl); exact h
            have h13 : vs 13 = undef := by obtain ⟨_, _, _, h⟩ := hR2 13 (by kernel_rfl); exact h
            simp only [List.set_cons_zero, List.set_cons_succ] at hK ⊢
            simp only [h7, h13] at hK ⊢
            rw [if_neg (by intro hh; exact absurd (show false = true from hh) (by decide))]
            exact hK.out _ _ (Below.refl _ _) rfl
          · intro vs w2 hb2 hS2 hR2 K hK
            have h7 : vs 7 = undef := by obtain ⟨_, _, _, h⟩ := hR2 7 (by kernel_rfl); exact h
            have h14 : vs 14 = undef := by obtain ⟨_, _, _, h⟩ := hR2 14 (by kernel_rfl); exact h
            simp only [List.set_cons_zero, List.set_cons_succ] at hK ⊢
            simp only [h7, h14] at hK ⊢
            rw [if_neg (by intro hh; exact absurd (show false = true from hh) (by decide))]
            exact hK.out _ _ (Below.refl _ _) rfl
          · intro vs w2 hb2 hS2 hR2 K hK
            have h7 : vs 7 = undef := by obtain ⟨_, _, _, h⟩ := hR2 7 (by kernel_rfl); exact h
            have h11 : vs 11 = undef := by obtain ⟨_, _, _, h⟩ := hR2 11 (by kernel_rfl); exact h
            have h15 : vs 15 = undef := by obtain ⟨_, _, _, h⟩ := hR2 15 (by kernel_rfl); exact h
            simp only [List.set_cons_zero, List.set_cons_succ] at hK ⊢
            simp only [h7, h11, h15] at hK ⊢
            rw [if_neg (by intro hh; exact absurd (show false = true from hh) (by decide))]
            exact hK.out _ _ (Below.refl _ _) rfl
          · intro vs w2 hb2 hS2 hR2 K hK
            have h2 : vs 2 = .bool false := by obtain ⟨_, _, _, h⟩ := hR2 2 (by kernel_rfl); exact h
            have h7 : vs 7 = undef := by obtain ⟨_, _, _, h⟩ := hR2 7 (by kernel_rfl); exact h
            have h16 : vs 16 = undef := by obtain ⟨_, _, _, h⟩ := hR2 16 (by kernel_rfl); exact h
            simp only [List.set_cons_zero, List.set_cons_succ] at hK ⊢
            simp only [h2, h7, h16] at hK ⊢
            rw [if_neg (by intro hh; exact absurd (show false = true from hh) (by decide))]
            exact hK.out _ _ (Below.refl _ _) rfl
          · intro vs w2 hb2 hS2 hR2 K hK
            have h2 : vs 2 = .bool false := by obtain ⟨_, _, _, h⟩ := hR2 2 (by kernel_rfl); exact h
            have h17 : vs 17 = undef := by obtain ⟨_, _, _, h⟩ := hR2 17 (by kernel_rfl); exact h
            simp only [List.set_cons_zero, List.set_cons_succ] at hK ⊢
            simp only [h2, h17] at hK ⊢
            go_simp
            exact hK.out _ _ (Below.refl _ _) rfl
          · intro vs w2 hb2 hS2 hR2 K hK
            have h18 : vs 18 = .bool false := by obtain ⟨_, _, _, h⟩ := hR2 18 (by kernel_rfl); exact h
            simp only [List.set_cons_zero, List.set_cons_succ] at hK ⊢
            simp only [h18] at hK ⊢
            go_simp
            exact hK.out _ _ (Below.refl _ _) rfl
          · intro vs w2 hb2 hS2 hR2 K hK
            have h19 : vs 19 = .bool false := by obtain ⟨_, _, _, h⟩ := hR2 19 (by kernel_rfl); exact h
            simp only [List.set_cons_zero, List.set_cons_succ] at hK ⊢
            simp only [h19] at hK ⊢
            rw [if_pos (by rfl)]
            go_simp
            exact hK.out _ _ (Below.refl _ _) rfl
          · intro vs w2 hb2 hS2 hR2 K hK
            have h19 : vs 19 = .bool false := by obtain ⟨_, _, _, h⟩ := hR2 19 (by kernel_rfl); exact h
            have h20 : vs 20 = .int .i64 e2 := by obtain ⟨_, _, _, h⟩ := hR2 20 (by kernel_rfl); exact h
            simp only [List.set_cons_zero, List.set_cons_succ] at hK ⊢
            simp only [h19, h20] at hK ⊢
            rw [if_pos (by rfl)]
            go_simp
            exact hK.out _ _ (Below.refl _ _) rfl
          · intro vs w2 hb2 hS2 hR2 K hK
            have h19 : vs 19 = .bool false := by obtain ⟨_, _, _, h⟩ := hR2 19 (by kernel_rfl); exact h
            have h21 : vs 21 = .bool false := by obtain ⟨_, _, _, h⟩ := hR2 21 (by kernel_rfl); exact h
            simp only [List.set_cons_zero, List.set_cons_succ] at hK ⊢
            simp only [h19, h21] at hK ⊢
            rw [if_pos (by rfl)]
            go_simp
            exact hK.out _ _ (Below.refl _ _) rfl
          · intro vs w2 hb2 hS2 hR2 K hK
            have h22 : vs 22 = .bool false := by obtain ⟨_, _, _, h⟩ := hR2 22 (by kernel_rfl); exact h
            simp only [List.set_cons_zero, List.set_cons_succ] at hK ⊢
            simp only [h22] at hK ⊢
            rw [if_neg (by intro hh; exact absurd (show false = true from hh) (by decide))]
            exact hK.out _ _ (Below.refl _ _) rfl
          · intro vs w2 hb2 hS2 hR2 K hK
            have h22 : vs 22 = .bool false := by obtain ⟨_, _, _, h⟩ := hR2 22 (by kernel_rfl); exact h
            have h23 : vs 23 = undef := by obtain ⟨_, _, _, h⟩ := hR2 23 (by kernel_rfl); exact h
            simp only [List.set_cons_zero, List.set_cons_succ] at hK ⊢
            simp only [h22, h23] at hK ⊢
            rw [if_neg (by intro hh; exact absurd (show false = true from hh) (by decide))]
            exact hK.out _ _ (Below.refl _ _) rfl
          · intro vs w2 hb2 hS2 hR2 K hK
            have h22 : vs 22 = .bool false := by obtain ⟨_, _, _, h⟩ := hR2 22 (by kernel_rfl); exact h
            have h24 : vs 24 = undef := by obtain ⟨_, _, _, h⟩ := hR2 24 (by kernel_rfl); exact h
            simp only [List.set_cons_zero, List.set_cons_succ] at hK ⊢
            simp only [h22, h24] at hK ⊢
            rw [if_neg (by intro hh; exact absurd (show false = true from hh) (by decide))]
            exact hK.out _ _ (Below.refl _ _) rfl
          · intro vs w2 hb2 hS2 hR2 K hK
            have h22 : vs 22 = .bool false := by obtain ⟨_, _, _, h⟩ := hR2 22 (by kernel_rfl); exact h
            have h25 : vs 25 = undef := by obtain ⟨_, _, _, h⟩ := hR2 25 (by kernel_rfl); exact h
            simp only [List.set_cons_zero, List.set_cons_succ] at hK ⊢
            simp only [h22, h25] at hK ⊢
            rw [if_neg (by intro hh; exact absurd (show false = true from hh) (by decide))]
            exact hK.out _ _ (Below.refl _ _) rfl
          · intro vs w2 hb2 hS2 hR2 K hK
            have h22 : vs 22 = .bool false := by obtain ⟨_, _, _, h⟩ := hR2 22 (by kernel_rfl); exact h
            have h26 : vs 26 = undef := by obtain ⟨_, _, _, h⟩ := hR2 26 (by kernel_rfl); exact h
            simp only [List.set_cons_zero, List.set_cons_succ] at hK ⊢
            simp only [h22, h26] at hK ⊢
            rw [if_neg (by intro hh; exact absurd (show false = true from hh) (by decide))]
            exact hK.out _ _ (Below.refl _ _) rfl
          · intro vs w2 hb2 hS2 hR2 K hK
            have h27 : vs 27 = undef := by obtain ⟨_, _, _, h⟩ := hR2 27 (by kernel_rfl); exact h
            simp only [List.set_cons_zero, List.set_cons_succ] at hK ⊢
            simp only [h27] at hK ⊢
            rw [if_neg (by intro hh; exact absurd (show false = true from hh) (by decide))]
            exact hK.out _ _ (Below.refl _ _) rfl
          · intro vs w2 hb2 hS2 hR2 K hK
            have h27 : vs 27 = undef := by obtain ⟨_, _, _, h⟩ := hR2 27 (by kernel_rfl); exact h
            have h28 : vs 28 = undef := by obtain ⟨_, _, _, h⟩ := hR2 28 (by kernel_rfl); exact h
            simp only [List.set_cons_zero, List.set_cons_succ] at hK ⊢
            simp only [h27, h28] at hK ⊢
            rw [if_neg (by intro hh; exact absurd (show false = true from hh) (by decide))]
            exact hK.out _ _ (Below.refl _ _) rfl
          · intro vs w2 hb2 hS2 hR2 K hK
            have h27 : vs 27 = undef := by obtain ⟨_, _, _, h⟩ := hR2 27 (by kernel_rfl); exact h
            have h29 : vs 29 = undef := by obtain ⟨_, _, _, h⟩ := hR2 29 (by kernel_rfl); exact h
            simp only [List.set_cons_zero, List.set_cons_succ] at hK ⊢
            simp only [h27, h29] at hK ⊢
            rw [if_neg (by intro hh; exact absurd (show false = true from hh) (by decide))]
            exact hK.out _ _ (Below.refl _ _) rfl
          · intro vs w2 hb2 hS2 hR2 K hK
            have h27 : vs 27 = undef := by obtain ⟨_, _, _, h⟩ := hR2 27 (by kernel_rfl); exact h
            have h30 : vs 30 = undef := by obtain ⟨_, _, _, h⟩ := hR2 30 (by kernel_rfl); exact h
            simp only [List.set_cons_zero, List.set_cons_succ] at hK ⊢
            simp only [h27, h30] at hK ⊢
            rw [if_neg (by intro hh; exact absurd (show false = true from hh) (by decide))]
            exact hK.out _ _ (Below.refl _ _) rfl
          · intro vs w2 hb2 hS2 hR2 K hK
            have h27 : vs 27 = undef := by obtain ⟨_, _, _, h⟩ := hR2 27 (by kernel_rfl); exact h
            simp only [List.set_cons_zero, List.set_cons_succ] at hK ⊢
            simp only [h27] at hK ⊢
            rw [if_neg (by intro hh; exact absurd (show false = true from hh) (by decide))]
            exact hK.out _ _ (Below.refl _ _) rfl
          · intro vs w2 hb2 hS2 hR2 K hK
            have h27 : vs 27 = undef := by obtain ⟨_, _, _, h⟩ := hR2 27 (by kernel_rfl); exact h
            have h32 : vs 32 = undef := by obtain ⟨_, _, _, h⟩ := hR2 32 (by kernel_rfl); exact h
            simp only [List.set_cons_zero, List.set_cons_succ] at hK ⊢
            simp only [h27, h32] at hK ⊢
            rw [if_neg (by intro hh; exact absurd (show false = true from hh) (by decide))]
            exact hK.out _ _ (Below.refl _ _) rfl
          · intro vs w2 hb2 hS2 hR2 K hK
            have h27 : vs 27 = undef := by obtain ⟨_, _, _, h⟩ := hR2 27 (by kernel_rfl); exact h
            have h33 : vs 33 = undef := by obtain ⟨_, _, _, h⟩ := hR2 33 (by kernel_rfl); exact h
            simp only [List.set_cons_zero, List.set_cons_succ] at hK ⊢
            simp only [h27, h33] at hK ⊢
            rw [if_neg (by intro hh; exact absurd (show false = true from hh) (by decide))]
            exact hK.out _ _ (Below.refl _ _) rfl
          · intro vs w2 hb2 hS2 hR2 K hK
            have h27 : vs 27 = undef := by obtain ⟨_, _, _, h⟩ := hR2 27 (by kernel_rfl); exact h
            have h34 : vs 34 = undef := by obtain ⟨_, _, _, h⟩ := hR2 34 (by kernel_rfl); exact h
            simp only [List.set_cons_zero, List.set_cons_succ] at hK ⊢
            simp only [h27, h34] at hK ⊢
            rw [if_neg (by intro hh; exact absurd (show false = true from hh) (by decide))]
            exact hK.out _ _ (Below.refl _ _) rfl
          · intro vs w2 hb2 hS2 hR2 K hK
            have h27 : vs 27 = undef := by obtain ⟨_, _, _, h⟩ := hR2 27 (by kernel_rfl); exact h
            have h31 : vs 31 = undef := by obtain ⟨_, _, _, h⟩ := hR2 31 (by kernel_rfl); exact h
            have h35 : vs 35 = undef := by obtain ⟨_, _, _, h⟩ := hR2 35 (by kernel_rfl); exact h
            simp only [List.set_cons_zero, List.set_cons_succ] at hK ⊢
            simp only [h27, h31, h35] at hK ⊢
            rw [if_neg (by intro hh; exact absurd (show false = true from hh) (by decide))]
            exact hK.out _ _ (Below.refl _ _) rfl
          · intro vs w2 hb2 hS2 hR2 K hK
            have h22 : vs 22 = .bool false := by obtain ⟨_, _, _, h⟩ := hR2 22 (by kernel_rfl); exact h
            have h27 : vs 27 = undef := by obtain ⟨_, _, _, h⟩ := hR2 27 (by kernel_rfl); exact h
            have h36 : vs 36 = undef := by obtain ⟨_, _, _, h⟩ := hR2 36 (by kernel_rfl); exact h
            simp only [List.set_cons_zero, List.set_cons_succ] at hK ⊢
            simp only [h22, h27, h36] at hK ⊢
            rw [if_neg (by intro hh; exact absurd (show false = true from hh) (by decide))]
            exact hK.out _ _ (Below.refl _ _) rfl
          · intro vs w2 hb2 hS2 hR2 K hK
            have h19 : vs 19 = .bool false := by obtain ⟨_, _, _, h⟩ := hR2 19 (by kernel_rfl); exact h
            have h22 : vs 22 = .bool false := by obtain ⟨_, _, _, h⟩ := hR2 22 (by kernel_rfl); exact h
            have h37 : vs 37 = undef := by obtain ⟨_, _, _, h⟩ := hR2 37 (by kernel_rfl); exact h
            simp only [List.set_cons_zero, List.set_cons_succ] at hK ⊢
            simp only [h19, h22, h37] at hK ⊢
            rw [if_pos (by rfl)]
            go_simp
            exact hK.out _ _ (Below.refl _ _) rfl
          · intro vs w2 hb2 hS2 hR2 K hK
            have h19 : vs 19 = .bool false := by obtain ⟨_, _, _, h⟩ := hR2 19 (by kernel_rfl); exact h
            have h38 : vs 38 = .bool false := by obtain ⟨_, _, _, h⟩ := hR2 38 (by kernel_rfl); exact h
            simp only [List.set_cons_zero, List.set_cons_succ] at hK ⊢
            simp only [h19, h38] at hK ⊢
            go_simp
            exact hK.out _ _ (Below.refl _ _) rfl
        case hende =>
          intro vs wx lo hiv hbx hSx hRx hdx
          have h0 : vs 0 = .int .i64 e1 := (hRx 0 (by kernel_rfl)).1
          have h1 : vs 1 = .bool false := (hRx 1 (by kernel_rfl)).1
          have h2 : vs 2 = .bool false := (hRx 2 (by kernel_rfl)).1
          have h3 : vs 3 = undef := (hRx 3 (by kernel_rfl)).1
          have h4 : vs 4 = undef := (hRx 4 (by kernel_rfl)).1
          have h5 : vs 5 = undef := (hRx 5 (by kernel_rfl)).1
          have h6 : vs 6 = undef := (hRx 6 (by kernel_rfl)).1
          have h7 : vs 7 = undef := (hRx 7 (by kernel_rfl)).1
          have h8 : vs 8 = undef := (hRx 8 (by kernel_rfl)).1
          have h9 : vs 9 = undef := (hRx 9 (by kernel_rfl)).1
          have h10 : vs 10 = undef := (hRx 10 (by kernel_rfl)).1
          have h11 : vs 11 = undef := (hRx 11 (by kernel_rfl)).1
          have h12 : vs 12 = undef := (hRx 12 (by kernel_rfl)).1
          have h13 : vs 13 = undef := (hRx 13 (by kernel_rfl)).1
          have h14 : vs 14 = undef := (hRx 14 (by kernel_rfl)).1
          have h15 : vs 15 = undef := (hRx 15 (by kernel_rfl)).1
          have h16 : vs 16 = undef := (hRx 16 (by kernel_rfl)).1
          have h17 : vs 17 = undef := (hRx 17 (by kernel_rfl)).1
          have h18 : vs 18 = .bool false := (hRx 18 (by kernel_rfl)).1
          have h19 : vs 19 = .bool false := (hRx 19 (by kernel_rfl)).1
          have h20 : vs 20 = .int .i64 e2 := (hRx 20 (by kernel_rfl)).1
          have h21 : vs 21 = .bool false := (hRx 21 (by kernel_rfl)).1
          have h22 : vs 22 = .bool false := (hRx 22 (by kernel_rfl)).1
          have h23 : vs 23 = undef := (hRx 23 (by kernel_rfl)).1
          have h24 : vs 24 = undef := (hRx 24 (by kernel_rfl)).1
          have h25 : vs 25 = undef := (hRx 25 (by kernel_rfl)).1
          have h26 : vs 26 = undef := (hRx 26 (by kernel_rfl)).1
          have h27 : vs 27 = undef := (hRx 27 (by kernel_rfl)).1
          have h28 : vs 28 = undef := (hRx 28 (by kernel_rfl)).1
          have h29 : vs 29 = undef := (hRx 29 (by kernel_rfl)).1
          have h30 : vs 30 = undef := (hRx 30 (by kernel_rfl)).1
          have h31 : vs 31 = undef := (hRx 31 (by kernel_rfl)).1
          have h32 : vs 32 = undef := (hRx 32 (by kernel_rfl)).1
          have h33 : vs 33 = undef := (hRx 33 (by kernel_rfl)).1
          have h34 : vs 34 = undef := (hRx 34 (by kernel_rfl)).1
          have h35 : vs 35 = undef := (hRx 35 (by kernel_rfl)).1
          have h36 : vs 36 = undef := (hRx 36 (by kernel_rfl)).1
          have h37 : vs 37 = undef := (hRx 37 (by kernel_rfl)).1
          have h38 : vs 38 = .bool false := (hRx 38 (by kernel_rfl)).1
          have h39 : vs 39 = .bool false := (hRx 39 (by kernel_rfl)).1
          simp only [fillD, Act.put, List.setIfInBounds_toArray, List.set_cons_zero, List.set_cons_succ, h0, h1, h2, h3, h4, h5, h6, h7, h8, h9, h10, h11, h12, h13, h14, h15, h16, h17, h18, h19, h20, h21, h22, h23, h24, h25, h26, h27, h28, h29, h30, h31, h32, h33, h34, h35, h36, h37, h38, h39]
          have hb := below_drew_left hbx
          have HBE := hid (below_next HB8.out hb)
          clear hbx hSx hRx hdx hb h0 h3 h4 h5 h6 h7 h8 h9 h10 h11 h12 h13 h14 h15 h16 h17 h18 h19 h20 h21 h22 h23 h24 h25 h26 h27 h28 h29 h30 h31 h32 h33 h34 h35 h36 h37 h38 h39
          refine wpAny_done (by kernel_rfl) ?_ _
          go_wp2
          (try simp only [Exit.inBlock, Exit.then])
          (try rw [Exit.noGoto_ret])
          go_ret
          exact ⟨rfl, HBE.out⟩
end Go.Proofs.YtfljneapjcnpiaaGreatDoor
