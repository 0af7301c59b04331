/- a part of the proof of the last text -/
import Derived.Test.YtdepiggjneoopaaGreatDoorZTp3
import Derived.Test.YtdepiggjneoopaaGreatDoorZNegR
namespace Go.Proofs.YtdepiggjneoopaaGreatDoor
set_option linter.all false
set_option maxHeartbeats 4000000
set_option maxRecDepth 100000
open Go.RowKit
theorem prod_comm (d e : Ieee.Datum) : d.product e = e.product d := by
  cases d <;> cases e <;> simp only [Ieee.Datum.product, Bool.xor_comm, Nat.mul_comm, Int.add_comm]
theorem fmul_comm (x y : Nat) : fmul x y = fmul y x := by
  show ((Ieee.Datum.product (Ieee.double.read x) (Ieee.double.read y)).map Ieee.double.write).getD qnan = ((Ieee.Datum.product (Ieee.double.read y) (Ieee.double.read x)).map Ieee.double.write).getD qnan
  rw [prod_comm]
theorem fadd_comm (x y : Nat) : fadd x y = fadd y x := by
  show ((Ieee.Datum.sum (Ieee.double.read x) (Ieee.double.read y)).map Ieee.double.write).getD qnan = ((Ieee.Datum.sum (Ieee.double.read y) (Ieee.double.read x)).map Ieee.double.write).getD qnan
  rw [sum_comm]
theorem cmul_comm (a b : Cx) : cmul a b = cmul b a := by
  unfold cmul
  rw [fmul_comm a.1 b.1, fmul_comm a.2 b.2, fmul_comm a.1 b.2, fmul_comm a.2 b.1, fadd_comm]
theorem ck_ck (z : Cx) : ck (ck z) = ck z := Prod.ext (fc_fc _) (fc_fc _)
theorem told_zero {k : Int} {a b c d : Cx} (h : (told4S k a b c d).2 = 0) : (told4S k a b c d).1 = (2, [ck a, ck b, ck c, ck d]) ∧ cfin (ck a) = true ∧ cfin (ck b) = true ∧ cfin (ck c) = true ∧ cfin (ck d) = true := by
  unfold told4S at *
  by_cases hk : k = 0
  · rw [if_neg (by simpa using hk)] at h ⊢
    by_cases hf : fin4 a b c d = true
    · rw [if_pos hf]
      unfold fin4 at hf
      simp only [Bool.and_eq_true] at hf
      exact ⟨rfl, hf.1.1.1, hf.1.1.2, hf.1.2, hf.2⟩
    · rw [if_neg hf] at h; cases h
  · rw [if_pos hk] at h; exact absurd h hk
theorem sQ_zero {a b c d : Cx} {ref : Nat} (h : (sQ a b c d ref).2 = 0) : ∃ x y z u : Cx, (sQ a b c d ref).1 = (2, [x, y, z, u]) ∧ cfin x = true ∧ cfin y = true ∧ cfin z = true ∧ cfin u = true ∧ (a = d → x = u) ∧ (b = c → y = z) := by
  unfold sQ at *
  by_cases hf : fin4 a b c d = true
  · rw [if_pos hf] at h ⊢
    unfold sS at *
    by_cases ha : angE ref = 0
    · rw [if_neg (by simpa using ha)] at h ⊢
      obtain ⟨h1, h2, h3, h4, h5⟩ := told_zero h
      refine ⟨_, _, _, _, h1, h2, h3, h4, h5, ?_, ?_⟩
      · rintro rfl; unfold o1 o4; rw [cmul_comm (sM (ck a) (fc ref))]
      · rintro rfl; rfl
    · rw [if_pos (by simpa using ha)] at h; exact absurd h ha
  · rw [if_neg hf] at h; cases h
theorem eq_of_ck {x y z : Cx} (h1 : ck x = z) (h2 : ck y = z) (hcf : cfin z = true) : FloatKind.f64.format.order x.1 y.1 = some .eq ∧ FloatKind.f64.format.order x.2 y.2 = some .eq := by
  obtain ⟨x1, x2⟩ := x
  obtain ⟨y1, y2⟩ := y
  obtain ⟨r1, r2⟩ := cx_bits (r := x1) (i := x2) h1 hcf
  obtain ⟨r3, r4⟩ := cx_bits (r := y1) (i := y2) h2 hcf
  obtain ⟨q1, q2⟩ := cx_self hcf
  exact ⟨by dsimp only; rw [r1, r3]; exact q1, by dsimp only; rw [r2, r4]; exact q2⟩
/-- The numbers that S told, laid one by one. -/
theorem sides_laid {a b c d : Cx} {ref : Nat} {xs : List Cx} (h : (sQ a b c d ref).2 = 0) (hx : xs.map ck = (sQ a b c d ref).1.2) : ∃ x y z u : Cx, xs = [x, y, z, u] ∧ (a = d → FloatKind.f64.format.order x.1 u.1 = some .eq ∧ FloatKind.f64.format.order x.2 u.2 = some .eq) ∧ (b = c → FloatKind.f64.format.order y.1 z.1 = some .eq ∧ FloatKind.f64.format.order y.2 z.2 = some .eq) := by
  obtain ⟨p, q, r, s, h1, f1, f2, f3, f4, e1, e2⟩ := sQ_zero h
  rw [h1] at hx
  match xs, hx with
  | [x, y, z, u], hx =>
    simp only [List.map_cons, List.map_nil, List.cons.injEq, and_true] at hx
    obtain ⟨x1, x2, x3, x4⟩ := hx
    exact ⟨x, y, z, u, rfl, fun e => eq_of_ck x1 (x4.trans (e1 e).symm) f1, fun e => eq_of_ck x2 (x3.trans (e2 e).symm) f2⟩
set_option maxRecDepth 100000 in
set_option maxHeartbeats 1000000 in
theorem pair_any (a b c d : Cx) (w : World) :
    Calls Tryz.prog 17 #[mkC a, mkC b, mkC c, mkC d] w (fun e w' => ∃ q, e = .returned (.agg #[.int .i64 2, .int .i64 2, .slice (some ⟨q, 0, none⟩) 4 4]) ∧ w.heap.size ≤ q ∧ w'.heap[q]? = some (.cells #[mkC a, mkC b, mkC c, mkC d] 48 (0, 0)) ∧ Below w.heap.size w w') := by
  have hb1 := (Below.refl w.heap.size w).alloc (Nat.le_refl _) (.cells #[.int .i64 0, .int .i64 0, .slice none 0 0] 43)
  have HT := hid (heap_alloc_new w (.cells #[.int .i64 0, .int .i64 0, .slice none 0 0] 43))
  have HB := hid hb1
  clear hb1
  go_enter Tryz.func17, Tryz.ntmps17
  go_upto_region 1 with fail
  generalize w.alloc (.cells #[.int .i64 0, .int .i64 0, .slice none 0 0] 43) = w1 at *
  obtain ⟨gt, hgt⟩ : ∃ gt, w.heap.size = gt := ⟨_, rfl⟩
  have HLE := hid (show w.heap.size ≤ gt by omega)
  rw [hgt] at HT ⊢
  clear hgt
  have hsc := block_cells HT.out
  have t0 := hsc.1 0 _ rfl
  have t1 := hsc.1 1 _ rfl
  have t2 := hsc.1 2 _ rfl
  have f0 := hsc.2 0
  have f1 := hsc.2 1
  have f2 := hsc.2 2
  clear hsc
  have hsc := block_cells (heap_past_of (o' := (.cells #[mkC a, mkC b, mkC c, mkC d] 48)) HT.out)
  have n0 := hsc.1 0 _ rfl
  have n1 := hsc.1 1 _ rfl
  have n2 := hsc.1 2 _ rfl
  have m0 := hsc.2 0
  have m1 := hsc.2 1
  have m2 := hsc.2 2
  clear hsc t0 t1 t2 f0 f1 f2
  have HNE := hid (show w1.heap.size ≠ gt from fun e => by have := (Array.getElem?_eq_some_iff.1 HT.out).1; omega)
  have HLQ := hid (show w.heap.size ≤ w1.heap.size from HB.out.size)
  have HQ := hid (heap_alloc_new w1 (.cells #[mkC a, mkC b, mkC c, mkC d] 48))
  have HBA := hid (HB.out.alloc HB.out.size (.cells #[mkC a, mkC b, mkC c, mkC d] 48))
  go_wp2
  (try simp only [Exit.inBlock, Exit.then])
  (try rw [Exit.noGoto_ret])
  refine bodyPost_ret (v := .agg #[.int .i64 2, .int .i64 2, .slice (some ⟨w1.heap.size, 0, none⟩) 4 4]) ?_ rfl ⟨_, rfl, HLQ.out, heap_nextG (grown_m3 _ gt _ _ _) HNE.out HQ.out, below_m3 HBA.out HLE.out⟩
  rw [results_cell1Q rfl]
  go_simp
end Go.Proofs.YtdepiggjneoopaaGreatDoor
