/- a part of the proof of the last text -/
import Derived.Test.YtdepiggjneoopaaGreatDoorZTp3
import Derived.Test.YtdepiggjneoopaaGreatDoorZBack0
namespace Go.Proofs.YtdepiggjneoopaaGreatDoor
set_option linter.all false
set_option maxHeartbeats 4000000
set_option maxRecDepth 100000
open Go.RowKit
theorem xor_walk (x : Nat) : (bits .xor .u64 (x : Int) 9223372036854775808).toNat = x % 2 ^ 64 ^^^ 2 ^ 63 := by
  have e1 : BitVec.ofInt 64 (x : Int) = BitVec.ofNat 64 x := by simp
  have e2 : BitVec.ofInt 64 9223372036854775808 = BitVec.ofNat 64 (2 ^ 63) := by decide
  show (IntKind.u64.wrap ((BitVec.ofInt 64 (x : Int) ^^^ BitVec.ofInt 64 9223372036854775808).toNat : Nat)).toNat = _
  rw [e1, e2, BitVec.toNat_xor, BitVec.toNat_ofNat, BitVec.toNat_ofNat, Nat.mod_eq_of_lt (show 2 ^ 63 < 2 ^ 64 by decide)]
  have hlt : x % 2 ^ 64 ^^^ 2 ^ 63 < 2 ^ 64 := Nat.xor_lt_two_pow (Nat.mod_lt _ (by decide)) (by decide)
  rw [IntWalk.u64_in _ ⟨by omega, by omega⟩]
  rfl
set_option maxHeartbeats 400000 in
theorem turned5_any (x : Nat) (w : World) : Calls Tryz.prog 81 #[.float .f64 x] w fun e w' => e = .returned (.float .f64 (x % 2 ^ 64 ^^^ 2 ^ 63)) ∧ w = w' := by
  have b1 := bits_law
  have b2 := frombits_law
  go_enter Tryz.func81, Tryz.ntmps81
  go_wp2
  go_ret
  exact ⟨congrArg (fun y => Ending.returned (.float .f64 y)) (xor_walk x), rfl⟩
set_option maxHeartbeats 400000 in
theorem pneg5_any (a b : Nat) (w : World) : Calls Tryz.prog 49 #[.complex .f64 a b] w (Ret (IsC (cng (fc a, fc b))) w) := by
  go_enter Tryz.func49, Tryz.ntmps49
  go_wp2_with (go_at_call 81; refine (turned5_any _ _).mono ?_; rintro e w' ⟨rfl, rfl⟩)
  go_ret
  exact ⟨_, 0, rfl, rfl, _, _, rfl, Prod.ext (fng_fc a).symm (fng_fc b).symm⟩
set_option maxHeartbeats 400000 in
theorem pinv5_any (a b : Nat) (w : World) : Calls Tryz.prog 50 #[.complex .f64 a b] w (Ret (IsC (cdiv (fc 4607182418800017408, fc 0) (fc a, fc b))) w) := by
  go_enter Tryz.func50, Tryz.ntmps50
  go_wp2_with (go_at_call 79; refine (pdiv_any _ _ _ _ _).mono ?_; rintro e w' ⟨_, n, rfl, rfl, r, i, rfl, hz⟩)
  go_ret
  exact ⟨_, _, rfl, rfl, r, i, rfl, hz⟩
/-- What Y tells of four numbers, all finite; what Chain tells. -/
def yQ (A B C D : Cx) : (Nat × List Cx) × Int := told4S (if czero (detC A B C D) = true then 7 else 0) (cdiv D (detC A B C D)) (cng (cdiv B (detC A B C D))) (cng (cdiv C (detC A B C D))) (cdiv A (detC A B C D))
def chQ (A B C D : Cx) : (Nat × List Cx) × Int := told4S (if czero C = true then 7 else 0) (cdiv A C) (cdiv (detC A B C D) C) (cdiv (fc 4607182418800017408, fc 0) C) (cdiv D C)
def frM (Q : Cx → Cx → Cx → Cx → (Nat × List Cx) × Int) (r c : Int) (xs : List Cx) : (Nat × List Cx) × Int :=
  if takS r c xs ≠ 0 then ((0, []), takS r c xs) else Q (ck (xs.getD 0 (0, 0))) (ck (xs.getD 1 (0, 0))) (ck (xs.getD 2 (0, 0))) (ck (xs.getD 3 (0, 0)))
theorem frM_bad {Q : Cx → Cx → Cx → Cx → (Nat × List Cx) × Int} {r c k : Int} {xs : List Cx} (h : takS r c xs = k) (h0 : ¬ k = 0) : frM Q r c xs = ((0, []), k) := by unfold frM; rw [h, if_pos h0]
theorem frM_good {Q : Cx → Cx → Cx → Cx → (Nat × List Cx) × Int} {r c : Int} {xs : List Cx} {a b g d : Cx} (h : takS r c xs = 0) (hx : xs = [a, b, g, d]) : frM Q r c xs = Q (ck a) (ck b) (ck g) (ck d) := by unfold frM; rw [h, if_neg (by simp), hx]; rfl
set_option maxRecDepth 100000 in
set_option maxHeartbeats 1000000 in
theorem det_any (a b g d : Cx) (w : World) :
    Calls Tryz.prog 47 #[mk4 a b g d] w (RetB (IsC (detC (ck a) (ck b) (ck g) (ck d))) w) := by
  have hb1 := (Below.refl w.heap.size w).alloc (Nat.le_refl _) (.cells #[mkC a, mkC b, mkC g, mkC d] 82)
  have HS := hid (heap_alloc_new w (.cells #[mkC a, mkC b, mkC g, mkC d] 82))
  have HB := hid hb1
  clear hb1
  go_enter Tryz.func47, Tryz.ntmps47
  go_upto_region 1 with fail
  generalize w.alloc (.cells #[mkC a, mkC b, mkC g, mkC d] 82) = w1 at *
  obtain ⟨gs, hgs⟩ : ∃ gs, w.heap.size = gs := ⟨_, rfl⟩
  rw [hgs] at HS ⊢
  clear hgs
  refine wp_region_any (by kernel_rfl) ?_
  change wpAny _ _ _ _ _ _ _ (World.drew _)
  refine wpAny_makersD [⟨some 3, 0, []⟩, ⟨some 4, 1, []⟩, ⟨some 5, 2, []⟩, ⟨some 6, 3, []⟩, ⟨some 7, 4, []⟩, ⟨some 8, 5, []⟩, ⟨some 9, 6, []⟩, ⟨some 10, 7, []⟩, ⟨some 11, 8, []⟩, ⟨some 12, 9, []⟩, ⟨some 13, 10, []⟩, ⟨some 14, 11, []⟩, ⟨some 15, 12, []⟩, ⟨some 16, 13, []⟩, ⟨some 17, 14, []⟩]
    (fun w' => w'.heap[gs]? = some (.cells #[mkC a, mkC b, mkC g, mkC d] 82 (0, 0)))
    (fun oq v _ _ _ _ => match oq with | 0 => v = .pointer (some ⟨gs, 0, none⟩) | 1 => v = .pointer (some ⟨gs, 0, none⟩) | 2 => v = mkC a | 3 => v = .pointer (some ⟨gs, 2, none⟩) | 4 => v = .pointer (some ⟨gs, 3, none⟩) | 5 => v = mkC d | 6 => ∃ r i, v = .complex .f64 r i ∧ (fc r, fc i) = cmul (ck a) (ck d) | 7 => v = .pointer (some ⟨gs, 0, none⟩) | 8 => v = .pointer (some ⟨gs, 1, none⟩) | 9 => v = mkC b | 10 => v = .pointer (some ⟨gs, 2, none⟩) | 11 => v = .pointer (some ⟨gs, 2, none⟩) | 12 => v = mkC g | 13 => ∃ r i, v = .complex .f64 r i ∧ (fc r, fc i) = cmul (ck b) (ck g) | 14 => ∃ r i, v = .complex .f64 r i ∧ (fc r, fc i) = detC (ck a) (ck b) (ck g) (ck d) | _ => True) (by kernel_rfl) ?hSd (fun _ _ hb h => heap_next hb h) (fun _ _ _ _ _ _ _ _ _ h => h) ?hopd ?hendd
  case hSd => exact (heap_next (Below.refl _ _).drew HS.out)
  case hopd =>
    delta Owed
    simp only [fillD, Act.put, List.setIfInBounds_toArray, List.set_cons_zero, List.set_cons_succ]
    refine Each.cons rfl ?_ (Each.cons rfl ?_ (Each.cons rfl ?_ (Each.cons rfl ?_ (Each.cons rfl ?_ (Each.cons rfl ?_ (Each.cons rfl ?_ (Each.cons rfl ?_ (Each.cons rfl ?_ (Each.cons rfl ?_ (Each.cons rfl ?_ (Each.cons rfl ?_ (Each.cons rfl ?_ (Each.cons rfl ?_ (Each.cons rfl ?_ Each.nil))))))))))))))
    · intro vs w2 hb2 hS2 hR2 K hK
      simp only [List.set_cons_zero, List.set_cons_succ] at hK ⊢
      obtain ⟨k0, k1, k2, k3⟩ : w2.cell? ⟨gs, 0, none⟩ = some (mkC a) ∧ w2.cell? ⟨gs, 1, none⟩ = some (mkC b) ∧ w2.cell? ⟨gs, 2, none⟩ = some (mkC g) ∧ w2.cell? ⟨gs, 3, none⟩ = some (mkC d) := ⟨(cells_ofS hS2).1 0 _ rfl, (cells_ofS hS2).1 1 _ rfl, (cells_ofS hS2).1 2 _ rfl, (cells_ofS hS2).1 3 _ rfl⟩
      go_simp
      exact hK.out _ _ (Below.refl _ _) rfl
    · intro vs w2 hb2 hS2 hR2 K hK
      have h0 : vs 0 = .pointer (some ⟨gs, 0, none⟩) := by obtain ⟨_, _, _, h⟩ := hR2 0 (by kernel_rfl); exact h
      simp only [List.set_cons_zero, List.set_cons_succ] at hK ⊢
      obtain ⟨k0, k1, k2, k3⟩ : w2.cell? ⟨gs, 0, none⟩ = some (mkC a) ∧ w2.cell? ⟨gs, 1, none⟩ = some (mkC b) ∧ w2.cell? ⟨gs, 2, none⟩ = some (mkC g) ∧ w2.cell? ⟨gs, 3, none⟩ = some (mkC d) := ⟨(cells_ofS hS2).1 0 _ rfl, (cells_ofS hS2).1 1 _ rfl, (cells_ofS hS2).1 2 _ rfl, (cells_ofS hS2).1 3 _ rfl⟩
      simp only [h0] at hK ⊢
      go_simp
      exact hK.out _ _ (Below.refl _ _) rfl
    · intro vs w2 hb2 hS2 hR2 K hK
      have h1 : vs 1 = .pointer (some ⟨gs, 0, none⟩) := by obtain ⟨_, _, _, h⟩ := hR2 1 (by kernel_rfl); exact h
      simp only [List.set_cons_zero, List.set_cons_succ] at hK ⊢
      obtain ⟨k0, k1, k2, k3⟩ : w2.cell? ⟨gs, 0, none⟩ = some (mkC a) ∧ w2.cell? ⟨gs, 1, none⟩ = some (mkC b) ∧ w2.cell? ⟨gs, 2, none⟩ = some (mkC g) ∧ w2.cell? ⟨gs, 3, none⟩ = some (mkC d) := ⟨(cells_ofS hS2).1 0 _ rfl, (cells_ofS hS2).1 1 _ rfl, (cells_ofS hS2).1 2 _ rfl, (cells_ofS hS2).1 3 _ rfl⟩
      simp only [h1] at hK ⊢
      go_simp
      exact hK.out _ _ (Below.refl _ _) rfl
    · intro vs w2 hb2 hS2 hR2 K hK
      simp only [List.set_cons_zero, List.set_cons_succ] at hK ⊢
      obtain ⟨k0, k1, k2, k3⟩ : w2.cell? ⟨gs, 0, none⟩ = some (mkC a) ∧ w2.cell? ⟨gs, 1, none⟩ = some (mkC b) ∧ w2.cell? ⟨gs, 2, none⟩ = some (mkC g) ∧ w2.cell? ⟨gs, 3, none⟩ = some (mkC d) := ⟨(cells_ofS hS2).1 0 _ rfl, (cells_ofS hS2).1 1 _ rfl, (cells_ofS hS2).1 2 _ rfl, (cells_ofS hS2).1 3 _ rfl⟩
      go_simp
      exact hK.out _ _ (Below.refl _ _) rfl
    · intro vs w2 hb2 hS2 hR2 K hK
      have h3 : vs 3 = .pointer (some ⟨gs, 2, none⟩) := by obtain ⟨_, _, _, h⟩ := hR2 3 (by kernel_rfl); exact h
      simp only [List.set_cons_zero, List.set_cons_succ] at hK ⊢
      obtain ⟨k0, k1, k2, k3⟩ : w2.cell? ⟨gs, 0, none⟩ = some (mkC a) ∧ w2.cell? ⟨gs, 1, none⟩ = some (mkC b) ∧ w2.cell? ⟨gs, 2, none⟩ = some (mkC g) ∧ w2.cell? ⟨gs, 3, none⟩ = some (mkC d) := ⟨(cells_ofS hS2).1 0 _ rfl, (cells_ofS hS2).1 1 _ rfl, (cells_ofS hS2).1 2 _ rfl, (cells_ofS hS2).1 3 _ rfl⟩
      simp only [h3] at hK ⊢
      go_simp
      exact hK.out _ _ (Below.refl _ _) rfl
    · intro vs w2 hb2 hS2 hR2 K hK
      have h4 : vs 4 = .pointer (some ⟨gs, 3, none⟩) := by obtain ⟨_, _, _, h⟩ := hR2 4 (by kernel_rfl); exact h
      simp only [List.set_cons_zero, List.set_cons_succ] at hK ⊢
      obtain ⟨k0, k1, k2, k3⟩ : w2.cell? ⟨gs, 0, none⟩ = some (mkC a) ∧ w2.cell? ⟨gs, 1, none⟩ = some (mkC b) ∧ w2.cell? ⟨gs, 2, none⟩ = some (mkC g) ∧ w2.cell? ⟨gs, 3, none⟩ = some (mkC d) := ⟨(cells_ofS hS2).1 0 _ rfl, (cells_ofS hS2).1 1 _ rfl, (cells_ofS hS2).1 2 _ rfl, (cells_ofS hS2).1 3 _ rfl⟩
      simp only [h4] at hK ⊢
      go_simp
      exact hK.out _ _ (Below.refl _ _) rfl
    · intro vs w2 hb2 hS2 hR2 K hK
      have h2 : vs 2 = mkC a := by obtain ⟨_, _, _, h⟩ := hR2 2 (by kernel_rfl); exact h
      have h5 : vs 5 = mkC d := by obtain ⟨_, _, _, h⟩ := hR2 5 (by kernel_rfl); exact h
      simp only [List.set_cons_zero, List.set_cons_succ] at hK ⊢
      simp only [h2, h5] at hK ⊢
      rw [if_pos (by rfl)]
      go_wp2_with (go_at_call 80; refine (pmul_any _ _ _ _ _ ).mono ?_; rintro e w5 ⟨_, n, rfl, rfl, r, i, rfl, hz⟩)
      exact hK.out _ _ (below_n (Below.refl _ _) n) ⟨r, i, rfl, hz.trans (by rfl; try rfl)⟩
    · intro vs w2 hb2 hS2 hR2 K hK
      simp only [List.set_cons_zero, List.set_cons_succ] at hK ⊢
      obtain ⟨k0, k1, k2, k3⟩ : w2.cell? ⟨gs, 0, none⟩ = some (mkC a) ∧ w2.cell? ⟨gs, 1, none⟩ = some (mkC b) ∧ w2.cell? ⟨gs, 2, none⟩ = some (mkC g) ∧ w2.cell? ⟨gs, 3, none⟩ = some (mkC d) := ⟨(cells_ofS hS2).1 0 _ rfl, (cells_ofS hS2).1 1 _ rfl, (cells_ofS hS2).1 2 _ rfl, (cells_ofS hS2).1 3 _ rfl⟩
      go_simp
      exact hK.out _ _ (Below.refl _ _) rfl
    · intro vs w2 hb2 hS2 hR2 K hK
      have h7 : vs 7 = .pointer (some ⟨gs, 0, none⟩) := by obtain ⟨_, _, _, h⟩ := hR2 7 (by kernel_rfl); exact h
      simp only [List.set_cons_zero, List.set_cons_succ] at hK ⊢
      obtain ⟨k0, k1, k2, k3⟩ : w2.cell? ⟨gs, 0, none⟩ = some (mkC a) ∧ w2.cell? ⟨gs, 1, none⟩ = some (mkC b) ∧ w2.cell? ⟨gs, 2, none⟩ = some (mkC g) ∧ w2.cell? ⟨gs, 3, none⟩ = some (mkC d) := ⟨(cells_ofS hS2).1 0 _ rfl, (cells_ofS hS2).1 1 _ rfl, (cells_ofS hS2).1 2 _ rfl, (cells_ofS hS2).1 3 _ rfl⟩
      simp only [h7] at hK ⊢
      go_simp
      exact hK.out _ _ (Below.refl _ _) rfl
    · intro vs w2 hb2 hS2 hR2 K hK
      have h8 : vs 8 = .pointer (some ⟨gs, 1, none⟩) := by obtain ⟨_, _, _, h⟩ := hR2 8 (by kernel_rfl); exact h
      simp only [List.set_cons_zero, List.set_cons_succ] at hK ⊢
      obtain ⟨k0, k1, k2, k3⟩ : w2.cell? ⟨gs, 0, none⟩ = some (mkC a) ∧ w2.cell? ⟨gs, 1, none⟩ = some (mkC b) ∧ w2.cell? ⟨gs, 2, none⟩ = some (mkC g) ∧ w2.cell? ⟨gs, 3, none⟩ = some (mkC d) := ⟨(cells_ofS hS2).1 0 _ rfl, (cells_ofS hS2).1 1 _ rfl, (cells_ofS hS2).1 2 _ rfl, (cells_ofS hS2).1 3 _ rfl⟩
      simp only [h8] at hK ⊢
      go_simp
      exact hK.out _ _ (Below.refl _ _) rfl
    · intro vs w2 hb2 hS2 hR2 K hK
      simp only [List.set_cons_zero, List.set_cons_succ] at hK ⊢
      obtain ⟨k0, k1, k2, k3⟩ : w2.cell? ⟨gs, 0, none⟩ = some (mkC a) ∧ w2.cell? ⟨gs, 1, none⟩ = some (mkC b) ∧ w2.cell? ⟨gs, 2, none⟩ = some (mkC g) ∧ w2.cell? ⟨gs, 3, none⟩ = some (mkC d) := ⟨(cells_ofS hS2).1 0 _ rfl, (cells_ofS hS2).1 1 _ rfl, (cells_ofS hS2).1 2 _ rfl, (cells_ofS hS2).1 3 _ rfl⟩
      go_simp
      exact hK.out _ _ (Below.refl _ _) rfl
    · intro vs w2 hb2 hS2 hR2 K hK
      have h10 : vs 10 = .pointer (some ⟨gs, 2, none⟩) := by obtain ⟨_, _, _, h⟩ := hR2 10 (by kernel_rfl); exact h
      simp only [List.set_cons_zero, List.set_cons_succ] at hK ⊢
      obtain ⟨k0, k1, k2, k3⟩ : w2.cell? ⟨gs, 0, none⟩ = some (mkC a) ∧ w2.cell? ⟨gs, 1, none⟩ = some (mkC b) ∧ w2.cell? ⟨gs, 2, none⟩ = some (mkC g) ∧ w2.cell? ⟨gs, 3, none⟩ = some (mkC d) := ⟨(cells_ofS hS2).1 0 _ rfl, (cells_ofS hS2).1 1 _ rfl, (cells_ofS hS2).1 2 _ rfl, (cells_ofS hS2).1 3 _ rfl⟩
      simp only [h10] at hK ⊢
      go_simp
      exact hK.out _ _ (Below.refl _ _) rfl
    · intro vs w2 hb2 hS2 hR2 K hK
      have h11 : vs 11 = .pointer (some ⟨gs, 2, none⟩) := by obtain ⟨_, _, _, h⟩ := hR2 11 (by kernel_rfl); exact h
      simp only [List.set_cons_zero, List.set_cons_succ] at hK ⊢
      obtain ⟨k0, k1, k2, k3⟩ : w2.cell? ⟨gs, 0, none⟩ = some (mkC a) ∧ w2.cell? ⟨gs, 1, none⟩ = some (mkC b) ∧ w2.cell? ⟨gs, 2, none⟩ = some (mkC g) ∧ w2.cell? ⟨gs, 3, none⟩ = some (mkC d) := ⟨(cells_ofS hS2).1 0 _ rfl, (cells_ofS hS2).1 1 _ rfl, (cells_ofS hS2).1 2 _ rfl, (cells_ofS hS2).1 3 _ rfl⟩
      simp only [h11] at hK ⊢
      go_simp
      exact hK.out _ _ (Below.refl _ _) rfl
    · intro vs w2 hb2 hS2 hR2 K hK
      have h9 : vs 9 = mkC b := by obtain ⟨_, _, _, h⟩ := hR2 9 (by kernel_rfl); exact h
      have h12 : vs 12 = mkC g := by obtain ⟨_, _, _, h⟩ := hR2 12 (by kernel_rfl); exact h
      simp only [List.set_cons_zero, List.set_cons_succ] at hK ⊢
      simp only [h9, h12] at hK ⊢
      rw [if_pos (by rfl)]
      go_wp2_with (go_at_call 80; refine (pmul_any _ _ _ _ _ ).mono ?_; rintro e w5 ⟨_, n, rfl, rfl, r, i, rfl, hz⟩)
      exact hK.out _ _ (below_n (Below.refl _ _) n) ⟨r, i, rfl, hz.trans (by rfl; try rfl)⟩
    · intro vs w2 hb2 hS2 hR2 K hK
      obtain ⟨_, _, _, H6⟩ := hR2 6 (by kernel_rfl)
      obtain ⟨r6, i6, h6, q6⟩ := H6
      obtain ⟨_, _, _, H13⟩ := hR2 13 (by kernel_rfl)
      obtain ⟨r13, i13, h13, q13⟩ := H13
      simp only [List.set_cons_zero, List.set_cons_succ] at hK ⊢
      simp only [h6, h13] at hK ⊢
      rw [if_pos (by rfl)]
      go_wp2_with (go_at_call 45; refine (psub_any _ _ _ _ _ ).mono ?_; rintro e w5 ⟨_, n, rfl, rfl, r, i, rfl, hz⟩)
      exact hK.out _ _ (below_n (Below.refl _ _) n) ⟨r, i, rfl, hz.trans (by rw [q6, q13]; try rfl)⟩
  case hendd =>
    intro vs wx lo hiv hbx hSx hRx hdx
    have h0 : vs 0 = .pointer (some ⟨gs, 0, none⟩) := (hRx 0 (by kernel_rfl)).1
    have h1 : vs 1 = .pointer (some ⟨gs, 0, none⟩) := (hRx 1 (by kernel_rfl)).1
    have h2 : vs 2 = mkC a := (hRx 2 (by kernel_rfl)).1
    have h3 : vs 3 = .pointer (some ⟨gs, 2, none⟩) := (hRx 3 (by kernel_rfl)).1
    have h4 : vs 4 = .pointer (some ⟨gs, 3, none⟩) := (hRx 4 (by kernel_rfl)).1
    have h5 : vs 5 = mkC d := (hRx 5 (by kernel_rfl)).1
    have H6 := (hRx 6 (by kernel_rfl)).1
    obtain ⟨r6, i6, h6, q6⟩ := H6
    have h7 : vs 7 = .pointer (some ⟨gs, 0, none⟩) := (hRx 7 (by kernel_rfl)).1
    have h8 : vs 8 = .pointer (some ⟨gs, 1, none⟩) := (hRx 8 (by kernel_rfl)).1
    have h9 : vs 9 = mkC b := (hRx 9 (by kernel_rfl)).1
    have h10 : vs 10 = .pointer (some ⟨gs, 2, none⟩) := (hRx 10 (by kernel_rfl)).1
    have h11 : vs 11 = .pointer (some ⟨gs, 2, none⟩) := (hRx 11 (by kernel_rfl)).1
    have h12 : vs 12 = mkC g := (hRx 12 (by kernel_rfl)).1
    have H13 := (hRx 13 (by kernel_rfl)).1
    obtain ⟨r13, i13, h13, q13⟩ := H13
    have H14 := (hRx 14 (by kernel_rfl)).1
    obtain ⟨r14, i14, h14, q14⟩ := H14
    simp only [fillD, Act.put, List.setIfInBounds_toArray, List.set_cons_zero, List.set_cons_succ, h0, h1, h2, h3, h4, h5, h6, h7, h8, h9, h10, h11, h12, h13, h14]
    have hb := below_drew_left hbx
    have HBE := hid (below_next HB.out hb)
    have HQ := hid q14
    clear hbx hSx hRx hdx hb q6 q13 q14 h0 h1 h2 h3 h4 h5 h6 h7 h8 h9 h10 h11 h12 h13 h14
    refine wpAny_one (i := 15) (by kernel_rfl) rfl (fun K hK => ?_)
    go_simp
    refine hK.out _ _ ?_
    clear hK
    refine wpAny_done (by kernel_rfl) ?_ _
    go_wp2
    (try simp only [Exit.inBlock, Exit.then])
    (try rw [Exit.noGoto_ret])
    go_ret
    exact ⟨_, rfl, HBE.out, r14, i14, rfl, HQ.out⟩
set_option maxRecDepth 100000 in
set_option maxHeartbeats 4000000 in
theorem y_any (r c : Int) (v : Value) (xs : List Cx) (w : World) (hv : IsSl w 1 v xs.length (xs.map mkC)) :
    Calls Tryz.prog 18 #[.agg #[.int .i64 r, .int .i64 c, v]] w (RetM2 (frM yQ r c xs) w) := by
  obtain ⟨av, cp, rfl⟩ := hv.form
  obtain ⟨t1, t2, t3⟩ := two_blks w #[.int .i64 r, .int .i64 c, .slice av xs.length cp] #[.int .i64 0, .int .i64 0, .slice none 0 0] 43 43
  have HS := hid t1
  have HT := hid t2
  have HB := hid t3
  have HV := hid (hv.below t3 (Nat.le_refl _))
  clear t1 t2 t3 hv
  obtain ⟨k, hk⟩ : ∃ k, takS r c xs = k := ⟨_, rfl⟩
  have HK := hid hk
  clear hk
  go_enter Tryz.func18, Tryz.ntmps18
  go_upto_region 1 with fail
  generalize (w.alloc (.cells #[.int .i64 r, .int .i64 c, .slice av xs.length cp] 43)).alloc (.cells #[.int .i64 0, .int .i64 0, .slice none 0 0] 43) = w1 at *
  obtain ⟨gs, hgs⟩ : ∃ gs, w.heap.size = gs := ⟨_, rfl⟩
  obtain ⟨gt, hgt⟩ : ∃ gt, gs + 1 = gt := ⟨_, rfl⟩
  have HLE := hid (show w.heap.size ≤ gt by omega)
  rw [hgs] at HS HT ⊢
  rw [hgt] at HT ⊢
  clear hgs hgt
  have hsc := block_cells HS.out
  have s0 := hsc.1 0 _ rfl
  have s1 := hsc.1 1 _ rfl
  have s2 := hsc.1 2 _ rfl
  clear hsc
  by_cases hk : k = 0
  rotate_left
  · have q1 : (k != 0) = true := by simpa using hk
    have HW := hid (frM_bad (Q := yQ) HK.out hk)
    clear hk
    go_upto_region 2 with (go_at_call 44; refine (taken_any r c _ xs _ HV.out).mono ?_; rintro e w2 ⟨a, b, g, d, rfl, hb, hx⟩; have HT1 := hid (heap_later2 hb HT.out); have HB1 := hid (below_next HB.out hb); rw [HK.out]; clear hx; clear hb )
    clear s0 s1 s2 HT HB
    have HT2 := hid (heap_later2 ((Below.refl w2.heap.size w2).alloc (Nat.le_refl _) (.cells #[mkC a, mkC b, mkC g, mkC d] 82)) HT1.out)
    have HB2 := hid (below_next HB1.out ((Below.refl w2.heap.size w2).alloc (Nat.le_refl _) (.cells #[mkC a, mkC b, mkC g, mkC d] 82)))
    have HF := hid (heap_alloc_new w2 (.cells #[mkC a, mkC b, mkC g, mkC d] 82))
    clear HT1 HB1
    generalize w2.alloc (.cells #[mkC a, mkC b, mkC g, mkC d] 82) = w3 at *
    generalize w2.heap.size = gf at *
    have hsc := block_cells HT2.out
    have t0 := hsc.1 0 _ rfl
    have t1 := hsc.1 1 _ rfl
    have t2 := hsc.1 2 _ rfl
    have f0 := hsc.2 0
    have f1 := hsc.2 1
    have f2 := hsc.2 2
    clear hsc
    go_wp2
    (try simp only [Exit.inBlock, Exit.then])
    (try rw [Exit.noGoto_ret])
    refine bodyPost_ret (v := .tuple #[.agg #[.int .i64 0, .int .i64 0, .slice none 0 0], .int .i64 k]) ?_ rfl (RetM2.bad HW.out (below_m3 HB2.out HLE.out))
    rw [results_cell_tmp rfl]
    go_simp
  subst hk
  go_upto_region 2 with (go_at_call 44; refine (taken_any r c _ xs _ HV.out).mono ?_; rintro e w2 ⟨a, b, g, d, rfl, hb, hx⟩; have HT1 := hid (heap_later2 hb HT.out); have HB1 := hid (below_next HB.out hb); rw [HK.out] at hx ⊢; have HXS := hid (hx rfl); clear hx; clear hb )
  clear s0 s1 s2 HT HB
  have HT2 := hid (heap_later2 ((Below.refl w2.heap.size w2).alloc (Nat.le_refl _) (.cells #[mkC a, mkC b, mkC g, mkC d] 82)) HT1.out)
  have HB2 := hid (below_next HB1.out ((Below.refl w2.heap.size w2).alloc (Nat.le_refl _) (.cells #[mkC a, mkC b, mkC g, mkC d] 82)))
  have HF := hid (heap_alloc_new w2 (.cells #[mkC a, mkC b, mkC g, mkC d] 82))
  clear HT1 HB1
  generalize w2.alloc (.cells #[mkC a, mkC b, mkC g, mkC d] 82) = w3 at *
  generalize w2.heap.size = gf at *
  have HW := hid (frM_good (Q := yQ) HK.out HXS.out)
  go_upto_region 4 with fail
  have hsc := block_cells HF.out
  have c0 := hsc.1 0 _ rfl
  have c1 := hsc.1 1 _ rfl
  have c2 := hsc.1 2 _ rfl
  have c3 := hsc.1 3 _ rfl
  clear hsc
  go_upto_region 5 with (first | (go_at_call 47; refine (det_any a b g d _).mono ?_; rintro e w7 ⟨_, rfl, hb, d1, d2, rfl, hz⟩; have HT3 := hid (heap_later2 hb HT2.out); have HF3 := hid (heap_later2 hb HF.out); have HB3 := hid (below_next HB2.out hb); have HD := hid (show ck (d1, d2) = (detC (ck a) (ck b) (ck g) (ck d)) from hz); clear hz; clear hb ) | (go_at_call 46; refine (over_any4 (d1, d2) _).mono ?_; rintro e w9 ⟨gd, rfl, hgd, hdr, hb⟩; have HT4 := hid (heap_later2 hb HT3.out); have HF4 := hid (heap_later2 hb HF3.out); have HB4 := hid (below_next HB3.out hb); have HG := hid hdr; clear hdr hgd; clear hb ))
  clear c0 c1 c2 c3 HT2 HF HB2 HT3 HF3 HB3
  obtain ⟨oe, hoe⟩ : ∃ k, ovrE (d1, d2) = k := ⟨_, rfl⟩
  have HOE := hid (show (if czero (detC (ck a) (ck b) (ck g) (ck d)) = true then 7 else 0) = oe by rw [← hoe]; unfold ovrE; rw [HD.out])
  rw [hoe]
  clear hoe
  refine wp_region_any (by kernel_rfl) ?_
  change wpAny _ _ _ _ _ _ _ (World.drew _)
  refine wpAny_makersD [⟨some 22, 0, []⟩, ⟨some 23, 1, []⟩, ⟨some 24, 2, []⟩, ⟨some 25, 3, []⟩, ⟨some 26, 4, []⟩, ⟨some 27, 5, []⟩, ⟨some 28, 6, []⟩, ⟨some 29, 7, []⟩, ⟨some 30, 8, []⟩, ⟨some 31, 9, []⟩, ⟨some 32, 10, []⟩, ⟨some 33, 11, []⟩, ⟨some 34, 12, []⟩, ⟨some 35, 13, []⟩, ⟨some 36, 14, []⟩, ⟨some 37, 15, []⟩, ⟨some 38, 16, []⟩, ⟨some 39, 17, []⟩, ⟨some 40, 18, []⟩, ⟨some 41, 19, []⟩, ⟨some 42, 20, []⟩, ⟨some 43, 21, []⟩, ⟨some 44, 22, []⟩, ⟨some 45, 23, []⟩, ⟨some 46, 24, []⟩, ⟨some 47, 25, []⟩]
    (fun w' => w'.heap[gt]? = some (.cells #[.int .i64 0, .int .i64 0, .slice none 0 0] 43 (0, 0)) ∧ w'.heap[gf]? = some (.cells #[mkC a, mkC b, mkC g, mkC d] 82 (0, 0)) ∧ w'.heap[gd]? = some (.cells #[mkC (d1, d2)] 48 (0, 0)))
    (fun oq v _ _ _ _ => match oq with | 0 => v = .func (.func 78) #[] #[.pointer (some ⟨gd, 0, none⟩)] | 1 => v = .pointer (some ⟨gf, 2, none⟩) | 2 => v = .pointer (some ⟨gf, 3, none⟩) | 3 => v = mkC d | 4 => ∃ r i, v = .complex .f64 r i ∧ (fc r, fc i) = cdiv (ck d) (detC (ck a) (ck b) (ck g) (ck d)) | 5 => v = .func (.func 78) #[] #[.pointer (some ⟨gd, 0, none⟩)] | 6 => v = .pointer (some ⟨gf, 0, none⟩) | 7 => v = .pointer (some ⟨gf, 1, none⟩) | 8 => v = mkC b | 9 => ∃ r i, v = .complex .f64 r i ∧ (fc r, fc i) = cdiv (ck b) (detC (ck a) (ck b) (ck g) (ck d)) | 10 => ∃ r i, v = .complex .f64 r i ∧ (fc r, fc i) = cng (cdiv (ck b) (detC (ck a) (ck b) (ck g) (ck d))) | 11 => ∃ x y : Cx, v = .agg #[mkC x, mkC y] ∧ ck x = cdiv (ck d) (detC (ck a) (ck b) (ck g) (ck d)) ∧ ck y = cng (cdiv (ck b) (detC (ck a) (ck b) (ck g) (ck d))) | 12 => v = .func (.func 78) #[] #[.pointer (some ⟨gd, 0, none⟩)] | 13 => v = .pointer (some ⟨gf, 2, none⟩) | 14 => v = .pointer (some ⟨gf, 2, none⟩) | 15 => v = mkC g | 16 => ∃ r i, v = .complex .f64 r i ∧ (fc r, fc i) = cdiv (ck g) (detC (ck a) (ck b) (ck g) (ck d)) | 17 => ∃ r i, v = .complex .f64 r i ∧ (fc r, fc i) = cng (cdiv (ck g) (detC (ck a) (ck b) (ck g) (ck d))) | 18 => v = .func (.func 78) #[] #[.pointer (some ⟨gd, 0, none⟩)] | 19 => v = .pointer (some ⟨gf, 0, none⟩) | 20 => v = .pointer (some ⟨gf, 0, none⟩) | 21 => v = mkC a | 22 => ∃ r i, v = .complex .f64 r i ∧ (fc r, fc i) = cdiv (ck a) (detC (ck a) (ck b) (ck g) (ck d)) | 23 => ∃ x y : Cx, v = .agg #[mkC x, mkC y] ∧ ck x = cng (cdiv (ck g) (detC (ck a) (ck b) (ck g) (ck d))) ∧ ck y = cdiv (ck a) (detC (ck a) (ck b) (ck g) (ck d)) | 24 => ∃ x y z u : Cx, v = mk4 x y z u ∧ ck x = cdiv (ck d) (detC (ck a) (ck b) (ck g) (ck d)) ∧ ck y = cng (cdiv (ck b) (detC (ck a) (ck b) (ck g) (ck d))) ∧ ck z = cng (cdiv (ck g) (detC (ck a) (ck b) (ck g) (ck d))) ∧ ck u = cdiv (ck a) (detC (ck a) (ck b) (ck g) (ck d)) | 25 => v = .int .i64 oe | _ => True) (by kernel_rfl) ?hSr (fun _ _ hb h => ⟨heap_next hb h.1, heap_next hb h.2.1, heap_next hb h.2.2⟩) (fun _ _ _ _ _ _ _ _ _ h => h) ?hopr ?hendr
  case hSr => exact ⟨heap_next (Below.refl _ _).drew HT4.out, heap_next (Below.refl _ _).drew HF4.out, heap_next (Below.refl _ _).drew HG.out⟩
  case hopr =>
    delta Owed
    simp only [fillD, Act.put, List.setIfInBounds_toArray, List.set_cons_zero, List.set_cons_succ]
    refine Each.cons rfl ?_ (Each.cons rfl ?_ (Each.cons rfl ?_ (Each.cons rfl ?_ (Each.cons rfl ?_ (Each.cons rfl ?_ (Each.cons rfl ?_ (Each.cons rfl ?_ (Each.cons rfl ?_ (Each.cons rfl ?_ (Each.cons rfl ?_ (Each.cons rfl ?_ (Each.cons rfl ?_ (Each.cons rfl ?_ (Each.cons rfl ?_ (Each.cons rfl ?_ (Each.cons rfl ?_ (Each.cons rfl ?_ (Each.cons rfl ?_ (Each.cons rfl ?_ (Each.cons rfl ?_ (Each.cons rfl ?_ (Each.cons rfl ?_ (Each.cons rfl ?_ (Each.cons rfl ?_ (Each.cons rfl ?_ Each.nil)))))))))))))))))))))))))
    · intro vs w2 hb2 hS2 hR2 K hK
      simp only [List.set_cons_zero, List.set_cons_succ] at hK ⊢
      go_simp
      exact hK.out _ _ (Below.refl _ _) rfl
    · intro vs w2 hb2 hS2 hR2 K hK
      simp only [List.set_cons_zero, List.set_cons_succ] at hK ⊢
      obtain ⟨k0, k1, k2, k3⟩ : w2.cell? ⟨gf, 0, none⟩ = some (mkC a) ∧ w2.cell? ⟨gf, 1, none⟩ = some (mkC b) ∧ w2.cell? ⟨gf, 2, none⟩ = some (mkC g) ∧ w2.cell? ⟨gf, 3, none⟩ = some (mkC d) := ⟨(cells_ofS hS2.2.1).1 0 _ rfl, (cells_ofS hS2.2.1).1 1 _ rfl, (cells_ofS hS2.2.1).1 2 _ rfl, (cells_ofS hS2.2.1).1 3 _ rfl⟩
      go_simp
      exact hK.out _ _ (Below.refl _ _) rfl
    · intro vs w2 hb2 hS2 hR2 K hK
      have h1 : vs 1 = .pointer (some ⟨gf, 2, none⟩) := by obtain ⟨_, _, _, h⟩ := hR2 1 (by kernel_rfl); exact h
      simp only [List.set_cons_zero, List.set_cons_succ] at hK ⊢
      obtain ⟨k0, k1, k2, k3⟩ : w2.cell? ⟨gf, 0, none⟩ = some (mkC a) ∧ w2.cell? ⟨gf, 1, none⟩ = some (mkC b) ∧ w2.cell? ⟨gf, 2, none⟩ = some (mkC g) ∧ w2.cell? ⟨gf, 3, none⟩ = some (mkC d) := ⟨(cells_ofS hS2.2.1).1 0 _ rfl, (cells_ofS hS2.2.1).1 1 _ rfl, (cells_ofS hS2.2.1).1 2 _ rfl, (cells_ofS hS2.2.1).1 3 _ rfl⟩
      simp only [h1] at hK ⊢
      go_simp
      exact hK.out _ _ (Below.refl _ _) rfl
    · intro vs w2 hb2 hS2 hR2 K hK
      have h2 : vs 2 = .pointer (some ⟨gf, 3, none⟩) := by obtain ⟨_, _, _, h⟩ := hR2 2 (by kernel_rfl); exact h
      simp only [List.set_cons_zero, List.set_cons_succ] at hK ⊢
      obtain ⟨k0, k1, k2, k3⟩ : w2.cell? ⟨gf, 0, none⟩ = some (mkC a) ∧ w2.cell? ⟨gf, 1, none⟩ = some (mkC b) ∧ w2.cell? ⟨gf, 2, none⟩ = some (mkC g) ∧ w2.cell? ⟨gf, 3, none⟩ = some (mkC d) := ⟨(cells_ofS hS2.2.1).1 0 _ rfl, (cells_ofS hS2.2.1).1 1 _ rfl, (cells_ofS hS2.2.1).1 2 _ rfl, (cells_ofS hS2.2.1).1 3 _ rfl⟩
      simp only [h2] at hK ⊢
      go_simp
      exact hK.out _ _ (Below.refl _ _) rfl
    · intro vs w2 hb2 hS2 hR2 K hK
      have h0 : vs 0 = .func (.func 78) #[] #[.pointer (some ⟨gd, 0, none⟩)] := by obtain ⟨_, _, _, h⟩ := hR2 0 (by kernel_rfl); exact h
      have h3 : vs 3 = mkC d := by obtain ⟨_, _, _, h⟩ := hR2 3 (by kernel_rfl); exact h
      simp only [List.set_cons_zero, List.set_cons_succ] at hK ⊢
      simp only [h0, h3] at hK ⊢
      rw [if_pos (by rfl)]
      go_wp2_with (first | (refine (over1_any (d) (d1, d2) gd _ hS2.2.2).mono ?_; rintro e w5 ⟨_, n, rfl, rfl, r, i, rfl, hz⟩) | (go_simp; refine (over1_any (d) (d1, d2) gd _ hS2.2.2).mono ?_; rintro e w5 ⟨_, n, rfl, rfl, r, i, rfl, hz⟩))
      exact hK.out _ _ (below_n (Below.refl _ _) n) ⟨r, i, rfl, hz.trans (by rw [HD.out]; try rfl)⟩
    · intro vs w2 hb2 hS2 hR2 K hK
      simp only [List.set_cons_zero, List.set_cons_succ] at hK ⊢
      go_simp
      exact hK.out _ _ (Below.refl _ _) rfl
    · intro vs w2 hb2 hS2 hR2 K hK
      simp only [List.set_cons_zero, List.set_cons_succ] at hK ⊢
      obtain ⟨k0, k1, k2, k3⟩ : w2.cell? ⟨gf, 0, none⟩ = some (mkC a) ∧ w2.cell? ⟨gf, 1, none⟩ = some (mkC b) ∧ w2.cell? ⟨gf, 2, none⟩ = some (mkC g) ∧ w2.cell? ⟨gf, 3, none⟩ = some (mkC d) := ⟨(cells_ofS hS2.2.1).1 0 _ rfl, (cells_ofS hS2.2.1).1 1 _ rfl, (cells_ofS hS2.2.1).1 2 _ rfl, (cells_ofS hS2.2.1).1 3 _ rfl⟩
      go_simp
      exact hK.out _ _ (Below.refl _ _) rfl
    · intro vs w2 hb2 hS2 hR2 K hK
      have h6 : vs 6 = .pointer (some ⟨gf, 0, none⟩) := by obtain ⟨_, _, _, h⟩ := hR2 6 (by kernel_rfl); exact h
      simp only [List.set_cons_zero, List.set_cons_succ] at hK ⊢
      obtain ⟨k0, k1, k2, k3⟩ : w2.cell? ⟨gf, 0, none⟩ = some (mkC a) ∧ w2.cell? ⟨gf, 1, none⟩ = some (mkC b) ∧ w2.cell? ⟨gf, 2, none⟩ = some (mkC g) ∧ w2.cell? ⟨gf, 3, none⟩ = some (mkC d) := ⟨(cells_ofS hS2.2.1).1 0 _ rfl, (cells_ofS hS2.2.1).1 1 _ rfl, (cells_ofS hS2.2.1).1 2 _ rfl, (cells_ofS hS2.2.1).1 3 _ rfl⟩
      simp only [h6] at hK ⊢
      go_simp
      exact hK.out _ _ (Below.refl _ _) rfl
    · intro vs w2 hb2 hS2 hR2 K hK
      have h7 : vs 7 = .pointer (some ⟨gf, 1, none⟩) := by obtain ⟨_, _, _, h⟩ := hR2 7 (by kernel_rfl); exact h
      simp only [List.set_cons_zero, List.set_cons_succ] at hK ⊢
      obtain ⟨k0, k1, k2, k3⟩ : w2.cell? ⟨gf, 0, none⟩ = some (mkC a) ∧ w2.cell? ⟨gf, 1, none⟩ = some (mkC b) ∧ w2.cell? ⟨gf, 2, none⟩ = some (mkC g) ∧ w2.cell? ⟨gf, 3, none⟩ = some (mkC d) := ⟨(cells_ofS hS2.2.1).1 0 _ rfl, (cells_ofS hS2.2.1).1 1 _ rfl, (cells_ofS hS2.2.1).1 2 _ rfl, (cells_ofS hS2.2.1).1 3 _ rfl⟩
      simp only [h7] at hK ⊢
      go_simp
      exact hK.out _ _ (Below.refl _ _) rfl
    · intro vs w2 hb2 hS2 hR2 K hK
      have h5 : vs 5 = .func (.func 78) #[] #[.pointer (some ⟨gd, 0, none⟩)] := by obtain ⟨_, _, _, h⟩ := hR2 5 (by kernel_rfl); exact h
      have h8 : vs 8 = mkC b := by obtain ⟨_, _, _, h⟩ := hR2 8 (by kernel_rfl); exact h
      simp only [List.set_cons_zero, List.set_cons_succ] at hK ⊢
      simp only [h5, h8] at hK ⊢
      rw [if_pos (by rfl)]
      go_wp2_with (first | (refine (over1_any (b) (d1, d2) gd _ hS2.2.2).mono ?_; rintro e w5 ⟨_, n, rfl, rfl, r, i, rfl, hz⟩) | (go_simp; refine (over1_any (b) (d1, d2) gd _ hS2.2.2).mono ?_; rintro e w5 ⟨_, n, rfl, rfl, r, i, rfl, hz⟩))
      exact hK.out _ _ (below_n (Below.refl _ _) n) ⟨r, i, rfl, hz.trans (by rw [HD.out]; try rfl)⟩
    · intro vs w2 hb2 hS2 hR2 K hK
      obtain ⟨_, _, _, H9⟩ := hR2 9 (by kernel_rfl)
      obtain ⟨r9, i9, h9, q9⟩ := H9
      simp only [List.set_cons_zero, List.set_cons_succ] at hK ⊢
      simp only [h9] at hK ⊢
      rw [if_pos (by rfl)]
      go_wp2_with (go_at_call 49; refine (pneg5_any _ _ _ ).mono ?_; rintro e w5 ⟨_, n, rfl, rfl, r, i, rfl, hz⟩)
      exact hK.out _ _ (below_n (Below.refl _ _) n) ⟨r, i, rfl, hz.trans (by rw [q9]; try rfl)⟩
    · intro vs w2 hb2 hS2 hR2 K hK
      obtain ⟨_, _, _, H4⟩ := hR2 4 (by kernel_rfl)
      obtain ⟨r4, i4, h4, q4⟩ := H4
      obtain ⟨_, _, _, H10⟩ := hR2 10 (by kernel_rfl)
      obtain ⟨r10, i10, h10, q10⟩ := H10
      simp only [List.set_cons_zero, List.set_cons_succ] at hK ⊢
      simp only [h4, h10] at hK ⊢
      go_simp
      exact hK.out _ _ (Below.refl _ _) ⟨(r4, i4), (r10, i10), rfl, q4, q10⟩
    · intro vs w2 hb2 hS2 hR2 K hK
      simp only [List.set_cons_zero, List.set_cons_succ] at hK ⊢
      go_simp
      exact hK.out _ _ (Below.refl _ _) rfl
    · intro vs w2 hb2 hS2 hR2 K hK
      simp only [List.set_cons_zero, List.set_cons_succ] at hK ⊢
      obtain ⟨k0, k1, k2, k3⟩ : w2.cell? ⟨gf, 0, none⟩ = some (mkC a) ∧ w2.cell? ⟨gf, 1, none⟩ = some (mkC b) ∧ w2.cell? ⟨gf, 2, none⟩ = some (mkC g) ∧ w2.cell? ⟨gf, 3, none⟩ = some (mkC d) := ⟨(cells_ofS hS2.2.1).1 0 _ rfl, (cells_ofS hS2.2.1).1 1 _ rfl, (cells_ofS hS2.2.1).1 2 _ rfl, (cells_ofS hS2.2.1).1 3 _ rfl⟩
      go_simp
      exact hK.out _ _ (Below.refl _ _) rfl
    · intro vs w2 hb2 hS2 hR2 K hK
      have h13 : vs 13 = .pointer (some ⟨gf, 2, none⟩) := by obtain ⟨_, _, _, h⟩ := hR2 13 (by kernel_rfl); exact h
      simp only [List.set_cons_zero, List.set_cons_succ] at hK ⊢
      obtain ⟨k0, k1, k2, k3⟩ : w2.cell? ⟨gf, 0, none⟩ = some (mkC a) ∧ w2.cell? ⟨gf, 1, none⟩ = some (mkC b) ∧ w2.cell? ⟨gf, 2, none⟩ = some (mkC g) ∧ w2.cell? ⟨gf, 3, none⟩ = some (mkC d) := ⟨(cells_ofS hS2.2.1).1 0 _ rfl, (cells_ofS hS2.2.1).1 1 _ rfl, (cells_ofS hS2.2.1).1 2 _ rfl, (cells_ofS hS2.2.1).1 3 _ rfl⟩
      simp only [h13] at hK ⊢
      go_simp
      exact hK.out _ _ (Below.refl _ _) rfl
    · intro vs w2 hb2 hS2 hR2 K hK
      have h14 : vs 14 = .pointer (some ⟨gf, 2, none⟩) := by obtain ⟨_, _, _, h⟩ := hR2 14 (by kernel_rfl); exact h
      simp only [List.set_cons_zero, List.set_cons_succ] at hK ⊢
      obtain ⟨k0, k1, k2, k3⟩ : w2.cell? ⟨gf, 0, none⟩ = some (mkC a) ∧ w2.cell? ⟨gf, 1, none⟩ = some (mkC b) ∧ w2.cell? ⟨gf, 2, none⟩ = some (mkC g) ∧ w2.cell? ⟨gf, 3, none⟩ = some (mkC d) := ⟨(cells_ofS hS2.2.1).1 0 _ rfl, (cells_ofS hS2.2.1).1 1 _ rfl, (cells_ofS hS2.2.1).1 2 _ rfl, (cells_ofS hS2.2.1).1 3 _ rfl⟩
      simp only [h14] at hK ⊢
      go_simp
      exact hK.out _ _ (Below.refl _ _) rfl
    · intro vs w2 hb2 hS2 hR2 K hK
      have h12 : vs 12 = .func (.func 78) #[] #[.pointer (some ⟨gd, 0, none⟩)] := by obtain ⟨_, _, _, h⟩ := hR2 12 (by kernel_rfl); exact h
      have h15 : vs 15 = mkC g := by obtain ⟨_, _, _, h⟩ := hR2 15 (by kernel_rfl); exact h
      simp only [List.set_cons_zero, List.set_cons_succ] at hK ⊢
      simp only [h12, h15] at hK ⊢
      rw [if_pos (by rfl)]
      go_wp2_with (first | (refine (over1_any (g) (d1, d2) gd _ hS2.2.2).mono ?_; rintro e w5 ⟨_, n, rfl, rfl, r, i, rfl, hz⟩) | (go_simp; refine (over1_any (g) (d1, d2) gd _ hS2.2.2).mono ?_; rintro e w5 ⟨_, n, rfl, rfl, r, i, rfl, hz⟩))
      exact hK.out _ _ (below_n (Below.refl _ _) n) ⟨r, i, rfl, hz.trans (by rw [HD.out]; try rfl)⟩
    · intro vs w2 hb2 hS2 hR2 K hK
      obtain ⟨_, _, _, H16⟩ := hR2 16 (by kernel_rfl)
      obtain ⟨r16, i16, h16, q16⟩ := H16
      simp only [List.set_cons_zero, List.set_cons_succ] at hK ⊢
      simp only [h16] at hK ⊢
      rw [if_pos (by rfl)]
      go_wp2_with (go_at_call 49; refine (pneg5_any _ _ _ ).mono ?_; rintro e w5 ⟨_, n, rfl, rfl, r, i, rfl, hz⟩)
      exact hK.out _ _ (below_n (Below.refl _ _) n) ⟨r, i, rfl, hz.trans (by rw [q16]; try rfl)⟩
    · intro vs w2 hb2 hS2 hR2 K hK
      simp only [List.set_cons_zero, List.set_cons_succ] at hK ⊢
      go_simp
      exact hK.out _ _ (Below.refl _ _) rfl
    · intro vs w2 hb2 hS2 hR2 K hK
      simp only [List.set_cons_zero, List.set_cons_succ] at hK ⊢
      obtain ⟨k0, k1, k2, k3⟩ : w2.cell? ⟨gf, 0, none⟩ = some (mkC a) ∧ w2.cell? ⟨gf, 1, none⟩ = some (mkC b) ∧ w2.cell? ⟨gf, 2, none⟩ = some (mkC g) ∧ w2.cell? ⟨gf, 3, none⟩ = some (mkC d) := ⟨(cells_ofS hS2.2.1).1 0 _ rfl, (cells_ofS hS2.2.1).1 1 _ rfl, (cells_ofS hS2.2.1).1 2 _ rfl, (cells_ofS hS2.2.1).1 3 _ rfl⟩
      go_simp
      exact hK.out _ _ (Below.refl _ _) rfl
    · intro vs w2 hb2 hS2 hR2 K hK
      have h19 : vs 19 = .pointer (some ⟨gf, 0, none⟩) := by obtain ⟨_, _, _, h⟩ := hR2 19 (by kernel_rfl); exact h
      simp only [List.set_cons_zero, List.set_cons_succ] at hK ⊢
      obtain ⟨k0, k1, k2, k3⟩ : w2.cell? ⟨gf, 0, none⟩ = some (mkC a) ∧ w2.cell? ⟨gf, 1, none⟩ = some (mkC b) ∧ w2.cell? ⟨gf, 2, none⟩ = some (mkC g) ∧ w2.cell? ⟨gf, 3, none⟩ = some (mkC d) := ⟨(cells_ofS hS2.2.1).1 0 _ rfl, (cells_ofS hS2.2.1).1 1 _ rfl, (cells_ofS hS2.2.1).1 2 _ rfl, (cells_ofS hS2.2.1).1 3 _ rfl⟩
      simp only [h19] at hK ⊢
      go_simp
      exact hK.out _ _ (Below.refl _ _) rfl
    · intro vs w2 hb2 hS2 hR2 K hK
      have h20 : vs 20 = .pointer (some ⟨gf, 0, none⟩) := by obtain ⟨_, _, _, h⟩ := hR2 20 (by kernel_rfl); exact h
      simp only [List.set_cons_zero, List.set_cons_succ] at hK ⊢
      obtain ⟨k0, k1, k2, k3⟩ : w2.cell? ⟨gf, 0, none⟩ = some (mkC a) ∧ w2.cell? ⟨gf, 1, none⟩ = some (mkC b) ∧ w2.cell? ⟨gf, 2, none⟩ = some (mkC g) ∧ w2.cell? ⟨gf, 3, none⟩ = some (mkC d) := ⟨(cells_ofS hS2.2.1).1 0 _ rfl, (cells_ofS hS2.2.1).1 1 _ rfl, (cells_ofS hS2.2.1).1 2 _ rfl, (cells_ofS hS2.2.1).1 3 _ rfl⟩
      simp only [h20] at hK ⊢
      go_simp
      exact hK.out _ _ (Below.refl _ _) rfl
    · intro vs w2 hb2 hS2 hR2 K hK
      have h18 : vs 18 = .func (.func 78) #[] #[.pointer (some ⟨gd, 0, none⟩)] := by obtain ⟨_, _, _, h⟩ := hR2 18 (by kernel_rfl); exact h
      have h21 : vs 21 = mkC a := by obtain ⟨_, _, _, h⟩ := hR2 21 (by kernel_rfl); exact h
      simp only [List.set_cons_zero, List.set_cons_succ] at hK ⊢
      simp only [h18, h21] at hK ⊢
      rw [if_pos (by rfl)]
      go_wp2_with (first | (refine (over1_any (a) (d1, d2) gd _ hS2.2.2).mono ?_; rintro e w5 ⟨_, n, rfl, rfl, r, i, rfl, hz⟩) | (go_simp; refine (over1_any (a) (d1, d2) gd _ hS2.2.2).mono ?_; rintro e w5 ⟨_, n, rfl, rfl, r, i, rfl, hz⟩))
      exact hK.out _ _ (below_n (Below.refl _ _) n) ⟨r, i, rfl, hz.trans (by rw [HD.out]; try rfl)⟩
    · intro vs w2 hb2 hS2 hR2 K hK
      obtain ⟨_, _, _, H17⟩ := hR2 17 (by kernel_rfl)
      obtain ⟨r17, i17, h17, q17⟩ := H17
      obtain ⟨_, _, _, H22⟩ := hR2 22 (by kernel_rfl)
      obtain ⟨r22, i22, h22, q22⟩ := H22
      simp only [List.set_cons_zero, List.set_cons_succ] at hK ⊢
      simp only [h17, h22] at hK ⊢
      go_simp
      exact hK.out _ _ (Below.refl _ _) ⟨(r17, i17), (r22, i22), rfl, q17, q22⟩
    · intro vs w2 hb2 hS2 hR2 K hK
      obtain ⟨_, _, _, H11⟩ := hR2 11 (by kernel_rfl)
      obtain ⟨x11, y11, h11, q11, s11⟩ := H11
      obtain ⟨_, _, _, H23⟩ := hR2 23 (by kernel_rfl)
      obtain ⟨x23, y23, h23, q23, s23⟩ := H23
      simp only [List.set_cons_zero, List.set_cons_succ] at hK ⊢
      simp only [h11, h23] at hK ⊢
      go_simp
      exact hK.out _ _ (Below.refl _ _) ⟨x11, y11, x23, y23, rfl, q11, s11, q23, s23⟩
    · intro vs w2 hb2 hS2 hR2 K hK
      simp only [List.set_cons_zero, List.set_cons_succ] at hK ⊢
      go_simp
      exact hK.out _ _ (Below.refl _ _) rfl
  case hendr =>
    intro vs wx lo hiv hbx hSx hRx hdx
    have h0 : vs 0 = .func (.func 78) #[] #[.pointer (some ⟨gd, 0, none⟩)] := (hRx 0 (by kernel_rfl)).1
    have h1 : vs 1 = .pointer (some ⟨gf, 2, none⟩) := (hRx 1 (by kernel_rfl)).1
    have h2 : vs 2 = .pointer (some ⟨gf, 3, none⟩) := (hRx 2 (by kernel_rfl)).1
    have h3 : vs 3 = mkC d := (hRx 3 (by kernel_rfl)).1
    have H4 := (hRx 4 (by kernel_rfl)).1
    obtain ⟨r4, i4, h4, q4⟩ := H4
    have h5 : vs 5 = .func (.func 78) #[] #[.pointer (some ⟨gd, 0, none⟩)] := (hRx 5 (by kernel_rfl)).1
    have h6 : vs 6 = .pointer (some ⟨gf, 0, none⟩) := (hRx 6 (by kernel_rfl)).1
    have h7 : vs 7 = .pointer (some ⟨gf, 1, none⟩) := (hRx 7 (by kernel_rfl)).1
    have h8 : vs 8 = mkC b := (hRx 8 (by kernel_rfl)).1
    have H9 := (hRx 9 (by kernel_rfl)).1
    obtain ⟨r9, i9, h9, q9⟩ := H9
    have H10 := (hRx 10 (by kernel_rfl)).1
    obtain ⟨r10, i10, h10, q10⟩ := H10
    have H11 := (hRx 11 (by kernel_rfl)).1
    obtain ⟨x11, y11, h11, q11, s11⟩ := H11
    have h12 : vs 12 = .func (.func 78) #[] #[.pointer (some ⟨gd, 0, none⟩)] := (hRx 12 (by kernel_rfl)).1
    have h13 : vs 13 = .pointer (some ⟨gf, 2, none⟩) := (hRx 13 (by kernel_rfl)).1
    have h14 : vs 14 = .pointer (some ⟨gf, 2, none⟩) := (hRx 14 (by kernel_rfl)).1
    have h15 : vs 15 = mkC g := (hRx 15 (by kernel_rfl)).1
    have H16 := (hRx 16 (by kernel_rfl)).1
    obtain ⟨r16, i16, h16, q16⟩ := H16
    have H17 := (hRx 17 (by kernel_rfl)).1
    obtain ⟨r17, i17, h17, q17⟩ := H17
    have h18 : vs 18 = .func (.func 78) #[] #[.pointer (some ⟨gd, 0, none⟩)] := (hRx 18 (by kernel_rfl)).1
    have h19 : vs 19 = .pointer (some ⟨gf, 0, none⟩) := (hRx 19 (by kernel_rfl)).1
    have h20 : vs 20 = .pointer (some ⟨gf, 0, none⟩) := (hRx 20 (by kernel_rfl)).1
    have h21 : vs 21 = mkC a := (hRx 21 (by kernel_rfl)).1
    have H22 := (hRx 22 (by kernel_rfl)).1
    obtain ⟨r22, i22, h22, q22⟩ := H22
    have H23 := (hRx 23 (by kernel_rfl)).1
    obtain ⟨x23, y23, h23, q23, s23⟩ := H23
    have H24 := (hRx 24 (by kernel_rfl)).1
    obtain ⟨x, y, z, u, h24, q1, q2, q3, q4z⟩ := H24
    have h25 : vs 25 = .int .i64 oe := (hRx 25 (by kernel_rfl)).1
    simp only [fillD, Act.put, List.setIfInBounds_toArray, List.set_cons_zero, List.set_cons_succ, h0, h1, h2, h3, h4, h5, h6, h7, h8, h9, h10, h11, h12, h13, h14, h15, h16, h17, h18, h19, h20, h21, h22, h23, h24, h25]
    have hb := below_drew_left hbx
    have HT5 := hid (heap_later2 hb HT4.out)
    have HF5 := hid (heap_later2 hb HF4.out)
    have HG5 := hid (heap_later2 hb HG.out)
    have HB5 := hid (below_next HB4.out hb)
    have HQ1 := hid q1
    have HQ2 := hid q2
    have HQ3 := hid q3
    have HQ4 := hid q4z
    clear hbx hSx hRx hdx hb q1 q2 q3 q4z q4 q9 q10 q16 q17 q22 q11 s11 q23 s23 HT4 HF4 HG HB4 h0 h1 h2 h3 h4 h5 h6 h7 h8 h9 h10 h11 h12 h13 h14 h15 h16 h17 h18 h19 h20 h21 h22 h23 h24 h25
    refine wpAny_one (i := 26) (by kernel_rfl) rfl (fun K hK => ?_)
    rw [if_pos (by rfl)]
    obtain ⟨rr, hrr⟩ : ∃ rr, (told4S oe x y z u).1.1 = rr := ⟨_, rfl⟩
    obtain ⟨ke, hke⟩ : ∃ ke, (told4S oe x y z u).2 = ke := ⟨_, rfl⟩
    have HRR := hid hrr
    have HKE := hid hke
    go_wp2_with (go_at_call 48; refine (told_any x y z u oe _).mono ?_; rintro e w12 ⟨v, ts, rfl, hts, hown, hb⟩; have HT6 := hid (heap_later2 hb HT5.out); have HF6 := hid (heap_later2 hb HF5.out); have HG6 := hid (heap_later2 hb HG5.out); have HB6 := hid (below_next HB5.out hb); rw [HRR.out, HKE.out]; have HTS := hid hts; have HOW := hid hown; obtain ⟨ar, cr, rfl⟩ := (IsSl.of_own hown).form; clear hts hown; clear hb )
    refine hK.out _ _ ?_
    clear hK hrr hke HF5 HG5
    have hsc := block_cells HT6.out
    have z0 := hsc.1 0 _ rfl
    have z1 := hsc.1 1 _ rfl
    have z2 := hsc.1 2 _ rfl
    have f0 := hsc.2 0
    have f1 := hsc.2 1
    have f2 := hsc.2 2
    clear hsc
    have HWT := hid (show frM yQ r c xs = told4S oe x y z u by rw [HW.out]; unfold yQ; rw [HOE.out]; exact told_ck (by rw [HQ1.out.symm, ck_ck2]) (by rw [HQ2.out.symm, ck_ck2]) (by rw [HQ3.out.symm, ck_ck2]) (by rw [HQ4.out.symm, ck_ck2]))
    have HOWQ := hid (show World.ownsRow _ w.heap.size 48 1 (.slice ar ts.length cr) ts.length (ts.map mkC) from (HOW.out.mono HB5.out.size).kept (grown_m3 w12 gt (.int .i64 rr) (.int .i64 rr) (.slice ar ts.length cr)) (.inr (fun e => by have h1 := (HOW.out.lt _ e).1; have h2 := (Array.getElem?_eq_some_iff.1 HT5.out).1; omega)))
    refine wpAny_two (i := 27) (j := 28) (by kernel_rfl) rfl rfl (fun K hK => ?_) (fun K hK => ?_)
    all_goals go_simp
    all_goals refine hK.out _ _ ?_
    all_goals clear hK
    rotate_left
    refine wpAny_one (i := 27) (by kernel_rfl) rfl (fun K hK => ?_)
    rotate_left
    refine wpAny_one (i := 28) (by kernel_rfl) rfl (fun K hK => ?_)
    all_goals go_simp
    all_goals refine hK.out _ _ ?_
    all_goals clear hK
    all_goals
      refine wpAny_one (i := 29) (by kernel_rfl) rfl (fun K hK => ?_)
      go_simp
      refine hK.out _ _ ?_
      clear hK
      refine wpAny_one (i := 30) (by kernel_rfl) rfl (fun K hK => ?_)
      go_simp
      refine hK.out _ _ ?_
      clear hK
      refine wpAny_done (by kernel_rfl) ?_ _
      go_wp2
      (try simp only [Exit.inBlock, Exit.then])
      (try rw [Exit.noGoto_ret])
      refine bodyPost_ret (v := .tuple #[.agg #[.int .i64 rr, .int .i64 rr, .slice ar ts.length cr], .int .i64 ke]) ?_ rfl ⟨.slice ar ts.length cr, ts, by rw [HWT.out, HRR.out, HKE.out], by rw [HWT.out]; exact HTS.out, HOWQ.out, below_m3 HB6.out HLE.out⟩
      rw [results_cell_tmp rfl]
      go_simp
set_option maxRecDepth 100000 in
set_option maxHeartbeats 4000000 in
theorem chain_any (r c : Int) (v : Value) (xs : List Cx) (w : World) (hv : IsSl w 1 v xs.length (xs.map mkC)) :
    Calls Tryz.prog 22 #[.agg #[.int .i64 r, .int .i64 c, v]] w (RetM2 (frM chQ r c xs) w) := by
  obtain ⟨av, cp, rfl⟩ := hv.form
  obtain ⟨t1, t2, t3⟩ := two_blks w #[.int .i64 r, .int .i64 c, .slice av xs.length cp] #[.int .i64 0, .int .i64 0, .slice none 0 0] 43 43
  have HS := hid t1
  have HT := hid t2
  have HB := hid t3
  have HV := hid (hv.below t3 (Nat.le_refl _))
  clear t1 t2 t3 hv
  obtain ⟨k, hk⟩ : ∃ k, takS r c xs = k := ⟨_, rfl⟩
  have HK := hid hk
  clear hk
  go_enter Tryz.func22, Tryz.ntmps22
  go_upto_region 1 with fail
  generalize (w.alloc (.cells #[.int .i64 r, .int .i64 c, .slice av xs.length cp] 43)).alloc (.cells #[.int .i64 0, .int .i64 0, .slice none 0 0] 43) = w1 at *
  obtain ⟨gs, hgs⟩ : ∃ gs, w.heap.size = gs := ⟨_, rfl⟩
  obtain ⟨gt, hgt⟩ : ∃ gt, gs + 1 = gt := ⟨_, rfl⟩
  have HLE := hid (show w.heap.size ≤ gt by omega)
  rw [hgs] at HS HT ⊢
  rw [hgt] at HT ⊢
  clear hgs hgt
  have hsc := block_cells HS.out
  have s0 := hsc.1 0 _ rfl
  have s1 := hsc.1 1 _ rfl
  have s2 := hsc.1 2 _ rfl
  clear hsc
  by_cases hk : k = 0
  rotate_left
  · have q1 : (k != 0) = true := by simpa using hk
    have HW := hid (frM_bad (Q := chQ) HK.out hk)
    clear hk
    go_upto_region 2 with (go_at_call 44; refine (taken_any r c _ xs _ HV.out).mono ?_; rintro e w2 ⟨a, b, g, d, rfl, hb, hx⟩; have HT1 := hid (heap_later2 hb HT.out); have HB1 := hid (below_next HB.out hb); rw [HK.out]; clear hx; clear hb )
    clear s0 s1 s2 HT HB
    have HT2 := hid (heap_later2 ((Below.refl w2.heap.size w2).alloc (Nat.le_refl _) (.cells #[mkC a, mkC b, mkC g, mkC d] 82)) HT1.out)
    have HB2 := hid (below_next HB1.out ((Below.refl w2.heap.size w2).alloc (Nat.le_refl _) (.cells #[mkC a, mkC b, mkC g, mkC d] 82)))
    have HF := hid (heap_alloc_new w2 (.cells #[mkC a, mkC b, mkC g, mkC d] 82))
    clear HT1 HB1
    generalize w2.alloc (.cells #[mkC a, mkC b, mkC g, mkC d] 82) = w3 at *
    generalize w2.heap.size = gf at *
    have hsc := block_cells HT2.out
    have t0 := hsc.1 0 _ rfl
    have t1 := hsc.1 1 _ rfl
    have t2 := hsc.1 2 _ rfl
    have f0 := hsc.2 0
    have f1 := hsc.2 1
    have f2 := hsc.2 2
    clear hsc
    go_wp2
    (try simp only [Exit.inBlock, Exit.then])
    (try rw [Exit.noGoto_ret])
    refine bodyPost_ret (v := .tuple #[.agg #[.int .i64 0, .int .i64 0, .slice none 0 0], .int .i64 k]) ?_ rfl (RetM2.bad HW.out (below_m3 HB2.out HLE.out))
    rw [results_cell_tmp rfl]
    go_simp
  subst hk
  go_upto_region 2 with (go_at_call 44; refine (taken_any r c _ xs _ HV.out).mono ?_; rintro e w2 ⟨a, b, g, d, rfl, hb, hx⟩; have HT1 := hid (heap_later2 hb HT.out); have HB1 := hid (below_next HB.out hb); rw [HK.out] at hx ⊢; have HXS := hid (hx rfl); clear hx; clear hb )
  clear s0 s1 s2 HT HB
  have HT2 := hid (heap_later2 ((Below.refl w2.heap.size w2).alloc (Nat.le_refl _) (.cells #[mkC a, mkC b, mkC g, mkC d] 82)) HT1.out)
  have HB2 := hid (below_next HB1.out ((Below.refl w2.heap.size w2).alloc (Nat.le_refl _) (.cells #[mkC a, mkC b, mkC g, mkC d] 82)))
  have HF := hid (heap_alloc_new w2 (.cells #[mkC a, mkC b, mkC g, mkC d] 82))
  clear HT1 HB1
  generalize w2.alloc (.cells #[mkC a, mkC b, mkC g, mkC d] 82) = w3 at *
  generalize w2.heap.size = gf at *
  have HW := hid (frM_good (Q := chQ) HK.out HXS.out)
  go_upto_region 4 with fail
  have hsc := block_cells HF.out
  have c0 := hsc.1 0 _ rfl
  have c1 := hsc.1 1 _ rfl
  have c2 := hsc.1 2 _ rfl
  have c3 := hsc.1 3 _ rfl
  clear hsc
  go_upto_region 5 with (go_at_call 46; refine (over_any4 g _).mono ?_; rintro e w9 ⟨gd, rfl, hgd, hdr, hb⟩; have HT3 := hid (heap_later2 hb HT2.out); have HF3 := hid (heap_later2 hb HF.out); have HB3 := hid (below_next HB2.out hb); have HG := hid hdr; clear hdr hgd; clear hb )
  clear c0 c1 c2 c3 HT2 HF HB2
  have HD := hid (show ck g = (ck g) from rfl)
  obtain ⟨oe, hoe⟩ : ∃ k, ovrE g = k := ⟨_, rfl⟩
  have HOE := hid (show (if czero (ck g) = true then 7 else 0) = oe by rw [← hoe]; unfold ovrE; rw [HD.out])
  rw [hoe]
  clear hoe
  refine wp_region_any (by kernel_rfl) ?_
  change wpAny _ _ _ _ _ _ _ (World.drew _)
  refine wpAny_makersD [⟨some 23, 0, []⟩, ⟨some 24, 1, []⟩, ⟨some 25, 2, []⟩, ⟨some 26, 3, []⟩, ⟨some 27, 4, []⟩, ⟨some 28, 5, []⟩, ⟨some 29, 6, []⟩, ⟨some 30, 7, []⟩, ⟨some 31, 8, []⟩, ⟨some 32, 9, []⟩, ⟨some 33, 10, []⟩, ⟨some 34, 11, []⟩, ⟨some 35, 12, []⟩, ⟨some 36, 13, []⟩, ⟨some 37, 14, []⟩, ⟨some 38, 15, []⟩, ⟨some 39, 16, []⟩, ⟨some 40, 17, []⟩, ⟨some 41, 18, []⟩, ⟨some 42, 19, []⟩, ⟨some 43, 20, []⟩, ⟨some 44, 21, []⟩]
    (fun w' => w'.heap[gt]? = some (.cells #[.int .i64 0, .int .i64 0, .slice none 0 0] 43 (0, 0)) ∧ w'.heap[gf]? = some (.cells #[mkC a, mkC b, mkC g, mkC d] 82 (0, 0)) ∧ w'.heap[gd]? = some (.cells #[mkC g] 48 (0, 0)))
    (fun oq v _ _ _ _ => match oq with | 0 => v = .func (.func 78) #[] #[.pointer (some ⟨gd, 0, none⟩)] | 1 => v = .pointer (some ⟨gf, 0, none⟩) | 2 => v = .pointer (some ⟨gf, 0, none⟩) | 3 => v = mkC a | 4 => ∃ r i, v = .complex .f64 r i ∧ (fc r, fc i) = cdiv (ck a) (ck g) | 5 => v = .func (.func 78) #[] #[.pointer (some ⟨gd, 0, none⟩)] | 6 => v = mk4 a b g d | 7 => ∃ r i, v = .complex .f64 r i ∧ (fc r, fc i) = detC (ck a) (ck b) (ck g) (ck d) | 8 => ∃ r i, v = .complex .f64 r i ∧ (fc r, fc i) = cdiv (detC (ck a) (ck b) (ck g) (ck d)) (ck g) | 9 => ∃ x y : Cx, v = .agg #[mkC x, mkC y] ∧ ck x = cdiv (ck a) (ck g) ∧ ck y = cdiv (detC (ck a) (ck b) (ck g) (ck d)) (ck g) | 10 => v = .pointer (some ⟨gf, 2, none⟩) | 11 => v = .pointer (some ⟨gf, 2, none⟩) | 12 => v = mkC g | 13 => ∃ r i, v = .complex .f64 r i ∧ (fc r, fc i) = cdiv (fc 4607182418800017408, fc 0) (ck g) | 14 => v = .func (.func 78) #[] #[.pointer (some ⟨gd, 0, none⟩)] | 15 => v = .pointer (some ⟨gf, 2, none⟩) | 16 => v = .pointer (some ⟨gf, 3, none⟩) | 17 => v = mkC d | 18 => ∃ r i, v = .complex .f64 r i ∧ (fc r, fc i) = cdiv (ck d) (ck g) | 19 => ∃ x y : Cx, v = .agg #[mkC x, mkC y] ∧ ck x = cdiv (fc 4607182418800017408, fc 0) (ck g) ∧ ck y = cdiv (ck d) (ck g) | 20 => ∃ x y z u : Cx, v = mk4 x y z u ∧ ck x = cdiv (ck a) (ck g) ∧ ck y = cdiv (detC (ck a) (ck b) (ck g) (ck d)) (ck g) ∧ ck z = cdiv (fc 4607182418800017408, fc 0) (ck g) ∧ ck u = cdiv (ck d) (ck g) | 21 => v = .int .i64 oe | _ => True) (by kernel_rfl) ?hSr (fun _ _ hb h => ⟨heap_next hb h.1, heap_next hb h.2.1, heap_next hb h.2.2⟩) (fun _ _ _ _ _ _ _ _ _ h => h) ?hopr ?hendr
  case hSr => exact ⟨heap_next (Below.refl _ _).drew HT3.out, heap_next (Below.refl _ _).drew HF3.out, heap_next (Below.refl _ _).drew HG.out⟩
  case hopr =>
    delta Owed
    simp only [fillD, Act.put, List.setIfInBounds_toArray, List.set_cons_zero, List.set_cons_succ]
    refine Each.cons rfl ?_ (Each.cons rfl ?_ (Each.cons rfl ?_ (Each.cons rfl ?_ (Each.cons rfl ?_ (Each.cons rfl ?_ (Each.cons rfl ?_ (Each.cons rfl ?_ (Each.cons rfl ?_ (Each.cons rfl ?_ (Each.cons rfl ?_ (Each.cons rfl ?_ (Each.cons rfl ?_ (Each.cons rfl ?_ (Each.cons rfl ?_ (Each.cons rfl ?_ (Each.cons rfl ?_ (Each.cons rfl ?_ (Each.cons rfl ?_ (Each.cons rfl ?_ (Each.cons rfl ?_ (Each.cons rfl ?_ Each.nil)))))))))))))))))))))
    · intro vs w2 hb2 hS2 hR2 K hK
      simp only [List.set_cons_zero, List.set_cons_succ] at hK ⊢
      go_simp
      exact hK.out _ _ (Below.refl _ _) rfl
    · intro vs w2 hb2 hS2 hR2 K hK
      simp only [List.set_cons_zero, List.set_cons_succ] at hK ⊢
      obtain ⟨k0, k1, k2, k3⟩ : w2.cell? ⟨gf, 0, none⟩ = some (mkC a) ∧ w2.cell? ⟨gf, 1, none⟩ = some (mkC b) ∧ w2.cell? ⟨gf, 2, none⟩ = some (mkC g) ∧ w2.cell? ⟨gf, 3, none⟩ = some (mkC d) := ⟨(cells_ofS hS2.2.1).1 0 _ rfl, (cells_ofS hS2.2.1).1 1 _ rfl, (cells_ofS hS2.2.1).1 2 _ rfl, (cells_ofS hS2.2.1).1 3 _ rfl⟩
      go_simp
      exact hK.out _ _ (Below.refl _ _) rfl
    · intro vs w2 hb2 hS2 hR2 K hK
      have h1 : vs 1 = .pointer (some ⟨gf, 0, none⟩) := by obtain ⟨_, _, _, h⟩ := hR2 1 (by kernel_rfl); exact h
      simp only [List.set_cons_zero, List.set_cons_succ] at hK ⊢
      obtain ⟨k0, k1, k2, k3⟩ : w2.cell? ⟨gf, 0, none⟩ = some (mkC a) ∧ w2.cell? ⟨gf, 1, none⟩ = some (mkC b) ∧ w2.cell? ⟨gf, 2, none⟩ = some (mkC g) ∧ w2.cell? ⟨gf, 3, none⟩ = some (mkC d) := ⟨(cells_ofS hS2.2.1).1 0 _ rfl, (cells_ofS hS2.2.1).1 1 _ rfl, (cells_ofS hS2.2.1).1 2 _ rfl, (cells_ofS hS2.2.1).1 3 _ rfl⟩
      simp only [h1] at hK ⊢
      go_simp
      exact hK.out _ _ (Below.refl _ _) rfl
    · intro vs w2 hb2 hS2 hR2 K hK
      have h2 : vs 2 = .pointer (some ⟨gf, 0, none⟩) := by obtain ⟨_, _, _, h⟩ := hR2 2 (by kernel_rfl); exact h
      simp only [List.set_cons_zero, List.set_cons_succ] at hK ⊢
      obtain ⟨k0, k1, k2, k3⟩ : w2.cell? ⟨gf, 0, none⟩ = some (mkC a) ∧ w2.cell? ⟨gf, 1, none⟩ = some (mkC b) ∧ w2.cell? ⟨gf, 2, none⟩ = some (mkC g) ∧ w2.cell? ⟨gf, 3, none⟩ = some (mkC d) := ⟨(cells_ofS hS2.2.1).1 0 _ rfl, (cells_ofS hS2.2.1).1 1 _ rfl, (cells_ofS hS2.2.1).1 2 _ rfl, (cells_ofS hS2.2.1).1 3 _ rfl⟩
      simp only [h2] at hK ⊢
      go_simp
      exact hK.out _ _ (Below.refl _ _) rfl
    · intro vs w2 hb2 hS2 hR2 K hK
      have h0 : vs 0 = .func (.func 78) #[] #[.pointer (some ⟨gd, 0, none⟩)] := by obtain ⟨_, _, _, h⟩ := hR2 0 (by kernel_rfl); exact h
      have h3 : vs 3 = mkC a := by obtain ⟨_, _, _, h⟩ := hR2 3 (by kernel_rfl); exact h
      simp only [List.set_cons_zero, List.set_cons_succ] at hK ⊢
      simp only [h0, h3] at hK ⊢
      rw [if_pos (by rfl)]
      go_wp2_with (first | (refine (over1_any (a) g gd _ hS2.2.2).mono ?_; rintro e w5 ⟨_, n, rfl, rfl, r, i, rfl, hz⟩) | (go_simp; refine (over1_any (a) g gd _ hS2.2.2).mono ?_; rintro e w5 ⟨_, n, rfl, rfl, r, i, rfl, hz⟩))
      exact hK.out _ _ (below_n (Below.refl _ _) n) ⟨r, i, rfl, hz.trans (by skip; try rfl)⟩
    · intro vs w2 hb2 hS2 hR2 K hK
      simp only [List.set_cons_zero, List.set_cons_succ] at hK ⊢
      go_simp
      exact hK.out _ _ (Below.refl _ _) rfl
    · intro vs w2 hb2 hS2 hR2 K hK
      simp only [List.set_cons_zero, List.set_cons_succ] at hK ⊢
      obtain ⟨k0, k1, k2, k3⟩ : w2.cell? ⟨gf, 0, none⟩ = some (mkC a) ∧ w2.cell? ⟨gf, 1, none⟩ = some (mkC b) ∧ w2.cell? ⟨gf, 2, none⟩ = some (mkC g) ∧ w2.cell? ⟨gf, 3, none⟩ = some (mkC d) := ⟨(cells_ofS hS2.2.1).1 0 _ rfl, (cells_ofS hS2.2.1).1 1 _ rfl, (cells_ofS hS2.2.1).1 2 _ rfl, (cells_ofS hS2.2.1).1 3 _ rfl⟩
      go_simp
      exact hK.out _ _ (Below.refl _ _) rfl
    · intro vs w2 hb2 hS2 hR2 K hK
      have h6 : vs 6 = mk4 a b g d := by obtain ⟨_, _, _, h⟩ := hR2 6 (by kernel_rfl); exact h
      simp only [List.set_cons_zero, List.set_cons_succ] at hK ⊢
      simp only [h6] at hK ⊢
      rw [if_pos (by rfl)]
      go_wp2_with (go_at_call 47; refine (det_any a b g d _).mono ?_; rintro e w5 ⟨_, rfl, hb, r, i, rfl, hz⟩)
      exact hK.out _ _ hb ⟨r, i, rfl, hz⟩
    · intro vs w2 hb2 hS2 hR2 K hK
      have h5 : vs 5 = .func (.func 78) #[] #[.pointer (some ⟨gd, 0, none⟩)] := by obtain ⟨_, _, _, h⟩ := hR2 5 (by kernel_rfl); exact h
      obtain ⟨_, _, _, H7⟩ := hR2 7 (by kernel_rfl)
      obtain ⟨r7, i7, h7, q7⟩ := H7
      simp only [List.set_cons_zero, List.set_cons_succ] at hK ⊢
      simp only [h5, h7] at hK ⊢
      rw [if_pos (by rfl)]
      go_wp2_with (first | (refine (over1_any (r7, i7) g gd _ hS2.2.2).mono ?_; rintro e w5 ⟨_, n, rfl, rfl, r, i, rfl, hz⟩) | (go_simp; refine (over1_any (r7, i7) g gd _ hS2.2.2).mono ?_; rintro e w5 ⟨_, n, rfl, rfl, r, i, rfl, hz⟩))
      exact hK.out _ _ (below_n (Below.refl _ _) n) ⟨r, i, rfl, hz.trans (by rw [show ck (r7, i7) = (fc r7, fc i7) from rfl, q7]; try rfl)⟩
    · intro vs w2 hb2 hS2 hR2 K hK
      obtain ⟨_, _, _, H4⟩ := hR2 4 (by kernel_rfl)
      obtain ⟨r4, i4, h4, q4⟩ := H4
      obtain ⟨_, _, _, H8⟩ := hR2 8 (by kernel_rfl)
      obtain ⟨r8, i8, h8, q8⟩ := H8
      simp only [List.set_cons_zero, List.set_cons_succ] at hK ⊢
      simp only [h4, h8] at hK ⊢
      go_simp
      exact hK.out _ _ (Below.refl _ _) ⟨(r4, i4), (r8, i8), rfl, q4, q8⟩
    · intro vs w2 hb2 hS2 hR2 K hK
      simp only [List.set_cons_zero, List.set_cons_succ] at hK ⊢
      obtain ⟨k0, k1, k2, k3⟩ : w2.cell? ⟨gf, 0, none⟩ = some (mkC a) ∧ w2.cell? ⟨gf, 1, none⟩ = some (mkC b) ∧ w2.cell? ⟨gf, 2, none⟩ = some (mkC g) ∧ w2.cell? ⟨gf, 3, none⟩ = some (mkC d) := ⟨(cells_ofS hS2.2.1).1 0 _ rfl, (cells_ofS hS2.2.1).1 1 _ rfl, (cells_ofS hS2.2.1).1 2 _ rfl, (cells_ofS hS2.2.1).1 3 _ rfl⟩
      go_simp
      exact hK.out _ _ (Below.refl _ _) rfl
    · intro vs w2 hb2 hS2 hR2 K hK
      have h10 : vs 10 = .pointer (some ⟨gf, 2, none⟩) := by obtain ⟨_, _, _, h⟩ := hR2 10 (by kernel_rfl); exact h
      simp only [List.set_cons_zero, List.set_cons_succ] at hK ⊢
      obtain ⟨k0, k1, k2, k3⟩ : w2.cell? ⟨gf, 0, none⟩ = some (mkC a) ∧ w2.cell? ⟨gf, 1, none⟩ = some (mkC b) ∧ w2.cell? ⟨gf, 2, none⟩ = some (mkC g) ∧ w2.cell? ⟨gf, 3, none⟩ = some (mkC d) := ⟨(cells_ofS hS2.2.1).1 0 _ rfl, (cells_ofS hS2.2.1).1 1 _ rfl, (cells_ofS hS2.2.1).1 2 _ rfl, (cells_ofS hS2.2.1).1 3 _ rfl⟩
      simp only [h10] at hK ⊢
      go_simp
      exact hK.out _ _ (Below.refl _ _) rfl
    · intro vs w2 hb2 hS2 hR2 K hK
      have h11 : vs 11 = .pointer (some ⟨gf, 2, none⟩) := by obtain ⟨_, _, _, h⟩ := hR2 11 (by kernel_rfl); exact h
      simp only [List.set_cons_zero, List.set_cons_succ] at hK ⊢
      obtain ⟨k0, k1, k2, k3⟩ : w2.cell? ⟨gf, 0, none⟩ = some (mkC a) ∧ w2.cell? ⟨gf, 1, none⟩ = some (mkC b) ∧ w2.cell? ⟨gf, 2, none⟩ = some (mkC g) ∧ w2.cell? ⟨gf, 3, none⟩ = some (mkC d) := ⟨(cells_ofS hS2.2.1).1 0 _ rfl, (cells_ofS hS2.2.1).1 1 _ rfl, (cells_ofS hS2.2.1).1 2 _ rfl, (cells_ofS hS2.2.1).1 3 _ rfl⟩
      simp only [h11] at hK ⊢
      go_simp
      exact hK.out _ _ (Below.refl _ _) rfl
    · intro vs w2 hb2 hS2 hR2 K hK
      have h12 : vs 12 = mkC g := by obtain ⟨_, _, _, h⟩ := hR2 12 (by kernel_rfl); exact h
      simp only [List.set_cons_zero, List.set_cons_succ] at hK ⊢
      simp only [h12] at hK ⊢
      rw [if_pos (by rfl)]
      go_wp2_with (go_at_call 50; refine (pinv5_any _ _ _ ).mono ?_; rintro e w5 ⟨_, n, rfl, rfl, r, i, rfl, hz⟩)
      exact hK.out _ _ (below_n (Below.refl _ _) n) ⟨r, i, rfl, hz.trans (by rfl; try rfl)⟩
    · intro vs w2 hb2 hS2 hR2 K hK
      simp only [List.set_cons_zero, List.set_cons_succ] at hK ⊢
      go_simp
      exact hK.out _ _ (Below.refl _ _) rfl
    · intro vs w2 hb2 hS2 hR2 K hK
      simp only [List.set_cons_zero, List.set_cons_succ] at hK ⊢
      obtain ⟨k0, k1, k2, k3⟩ : w2.cell? ⟨gf, 0, none⟩ = some (mkC a) ∧ w2.cell? ⟨gf, 1, none⟩ = some (mkC b) ∧ w2.cell? ⟨gf, 2, none⟩ = some (mkC g) ∧ w2.cell? ⟨gf, 3, none⟩ = some (mkC d) := ⟨(cells_ofS hS2.2.1).1 0 _ rfl, (cells_ofS hS2.2.1).1 1 _ rfl, (cells_ofS hS2.2.1).1 2 _ rfl, (cells_ofS hS2.2.1).1 3 _ rfl⟩
      go_simp
      exact hK.out _ _ (Below.refl _ _) rfl
    · intro vs w2 hb2 hS2 hR2 K hK
      have h15 : vs 15 = .pointer (some ⟨gf, 2, none⟩) := by obtain ⟨_, _, _, h⟩ := hR2 15 (by kernel_rfl); exact h
      simp only [List.set_cons_zero, List.set_cons_succ] at hK ⊢
      obtain ⟨k0, k1, k2, k3⟩ : w2.cell? ⟨gf, 0, none⟩ = some (mkC a) ∧ w2.cell? ⟨gf, 1, none⟩ = some (mkC b) ∧ w2.cell? ⟨gf, 2, none⟩ = some (mkC g) ∧ w2.cell? ⟨gf, 3, none⟩ = some (mkC d) := ⟨(cells_ofS hS2.2.1).1 0 _ rfl, (cells_ofS hS2.2.1).1 1 _ rfl, (cells_ofS hS2.2.1).1 2 _ rfl, (cells_ofS hS2.2.1).1 3 _ rfl⟩
      simp only [h15] at hK ⊢
      go_simp
      exact hK.out _ _ (Below.refl _ _) rfl
    · intro vs w2 hb2 hS2 hR2 K hK
      have h16 : vs 16 = .pointer (some ⟨gf, 3, none⟩) := by obtain ⟨_, _, _, h⟩ := hR2 16 (by kernel_rfl); exact h
      simp only [List.set_cons_zero, List.set_cons_succ] at hK ⊢
      obtain ⟨k0, k1, k2, k3⟩ : w2.cell? ⟨gf, 0, none⟩ = some (mkC a) ∧ w2.cell? ⟨gf, 1, none⟩ = some (mkC b) ∧ w2.cell? ⟨gf, 2, none⟩ = some (mkC g) ∧ w2.cell? ⟨gf, 3, none⟩ = some (mkC d) := ⟨(cells_ofS hS2.2.1).1 0 _ rfl, (cells_ofS hS2.2.1).1 1 _ rfl, (cells_ofS hS2.2.1).1 2 _ rfl, (cells_ofS hS2.2.1).1 3 _ rfl⟩
      simp only [h16] at hK ⊢
      go_simp
      exact hK.out _ _ (Below.refl _ _) rfl
    · intro vs w2 hb2 hS2 hR2 K hK
      have h14 : vs 14 = .func (.func 78) #[] #[.pointer (some ⟨gd, 0, none⟩)] := by obtain ⟨_, _, _, h⟩ := hR2 14 (by kernel_rfl); exact h
      have h17 : vs 17 = mkC d := by obtain ⟨_, _, _, h⟩ := hR2 17 (by kernel_rfl); exact h
      simp only [List.set_cons_zero, List.set_cons_succ] at hK ⊢
      simp only [h14, h17] at hK ⊢
      rw [if_pos (by rfl)]
      go_wp2_with (first | (refine (over1_any (d) g gd _ hS2.2.2).mono ?_; rintro e w5 ⟨_, n, rfl, rfl, r, i, rfl, hz⟩) | (go_simp; refine (over1_any (d) g gd _ hS2.2.2).mono ?_; rintro e w5 ⟨_, n, rfl, rfl, r, i, rfl, hz⟩))
      exact hK.out _ _ (below_n (Below.refl _ _) n) ⟨r, i, rfl, hz.trans (by skip; try rfl)⟩
    · intro vs w2 hb2 hS2 hR2 K hK
      obtain ⟨_, _, _, H13⟩ := hR2 13 (by kernel_rfl)
      obtain ⟨r13, i13, h13, q13⟩ := H13
      obtain ⟨_, _, _, H18⟩ := hR2 18 (by kernel_rfl)
      obtain ⟨r18, i18, h18, q18⟩ := H18
      simp only [List.set_cons_zero, List.set_cons_succ] at hK ⊢
      simp only [h13, h18] at hK ⊢
      go_simp
      exact hK.out _ _ (Below.refl _ _) ⟨(r13, i13), (r18, i18), rfl, q13, q18⟩
    · intro vs w2 hb2 hS2 hR2 K hK
      obtain ⟨_, _, _, H9⟩ := hR2 9 (by kernel_rfl)
      obtain ⟨x9, y9, h9, q9, s9⟩ := H9
      obtain ⟨_, _, _, H19⟩ := hR2 19 (by kernel_rfl)
      obtain ⟨x19, y19, h19, q19, s19⟩ := H19
      simp only [List.set_cons_zero, List.set_cons_succ] at hK ⊢
      simp only [h9, h19] at hK ⊢
      go_simp
      exact hK.out _ _ (Below.refl _ _) ⟨x9, y9, x19, y19, rfl, q9, s9, q19, s19⟩
    · intro vs w2 hb2 hS2 hR2 K hK
      simp only [List.set_cons_zero, List.set_cons_succ] at hK ⊢
      go_simp
      exact hK.out _ _ (Below.refl _ _) rfl
  case hendr =>
    intro vs wx lo hiv hbx hSx hRx hdx
    have h0 : vs 0 = .func (.func 78) #[] #[.pointer (some ⟨gd, 0, none⟩)] := (hRx 0 (by kernel_rfl)).1
    have h1 : vs 1 = .pointer (some ⟨gf, 0, none⟩) := (hRx 1 (by kernel_rfl)).1
    have h2 : vs 2 = .pointer (some ⟨gf, 0, none⟩) := (hRx 2 (by kernel_rfl)).1
    have h3 : vs 3 = mkC a := (hRx 3 (by kernel_rfl)).1
    have H4 := (hRx 4 (by kernel_rfl)).1
    obtain ⟨r4, i4, h4, q4⟩ := H4
    have h5 : vs 5 = .func (.func 78) #[] #[.pointer (some ⟨gd, 0, none⟩)] := (hRx 5 (by kernel_rfl)).1
    have h6 : vs 6 = mk4 a b g d := (hRx 6 (by kernel_rfl)).1
    have H7 := (hRx 7 (by kernel_rfl)).1
    obtain ⟨r7, i7, h7, q7⟩ := H7
    have H8 := (hRx 8 (by kernel_rfl)).1
    obtain ⟨r8, i8, h8, q8⟩ := H8
    have H9 := (hRx 9 (by kernel_rfl)).1
    obtain ⟨x9, y9, h9, q9, s9⟩ := H9
    have h10 : vs 10 = .pointer (some ⟨gf, 2, none⟩) := (hRx 10 (by kernel_rfl)).1
    have h11 : vs 11 = .pointer (some ⟨gf, 2, none⟩) := (hRx 11 (by kernel_rfl)).1
    have h12 : vs 12 = mkC g := (hRx 12 (by kernel_rfl)).1
    have H13 := (hRx 13 (by kernel_rfl)).1
    obtain ⟨r13, i13, h13, q13⟩ := H13
    have h14 : vs 14 = .func (.func 78) #[] #[.pointer (some ⟨gd, 0, none⟩)] := (hRx 14 (by kernel_rfl)).1
    have h15 : vs 15 = .pointer (some ⟨gf, 2, none⟩) := (hRx 15 (by kernel_rfl)).1
    have h16 : vs 16 = .pointer (some ⟨gf, 3, none⟩) := (hRx 16 (by kernel_rfl)).1
    have h17 : vs 17 = mkC d := (hRx 17 (by kernel_rfl)).1
    have H18 := (hRx 18 (by kernel_rfl)).1
    obtain ⟨r18, i18, h18, q18⟩ := H18
    have H19 := (hRx 19 (by kernel_rfl)).1
    obtain ⟨x19, y19, h19, q19, s19⟩ := H19
    have H20 := (hRx 20 (by kernel_rfl)).1
    obtain ⟨x, y, z, u, h20, q1, q2, q3, q4z⟩ := H20
    have h21 : vs 21 = .int .i64 oe := (hRx 21 (by kernel_rfl)).1
    simp only [fillD, Act.put, List.setIfInBounds_toArray, List.set_cons_zero, List.set_cons_succ, h0, h1, h2, h3, h4, h5, h6, h7, h8, h9, h10, h11, h12, h13, h14, h15, h16, h17, h18, h19, h20, h21]
    have hb := below_drew_left hbx
    have HT4 := hid (heap_later2 hb HT3.out)
    have HF4 := hid (heap_later2 hb HF3.out)
    have HG4 := hid (heap_later2 hb HG.out)
    have HB4 := hid (below_next HB3.out hb)
    have HQ1 := hid q1
    have HQ2 := hid q2
    have HQ3 := hid q3
    have HQ4 := hid q4z
    clear hbx hSx hRx hdx hb q1 q2 q3 q4z q4 q7 q8 q13 q18 q9 s9 q19 s19 HT3 HF3 HG HB3 h0 h1 h2 h3 h4 h5 h6 h7 h8 h9 h10 h11 h12 h13 h14 h15 h16 h17 h18 h19 h20 h21
    refine wpAny_one (i := 22) (by kernel_rfl) rfl (fun K hK => ?_)
    rw [if_pos (by rfl)]
    obtain ⟨rr, hrr⟩ : ∃ rr, (told4S oe x y z u).1.1 = rr := ⟨_, rfl⟩
    obtain ⟨ke, hke⟩ : ∃ ke, (told4S oe x y z u).2 = ke := ⟨_, rfl⟩
    have HRR := hid hrr
    have HKE := hid hke
    go_wp2_with (go_at_call 48; refine (told_any x y z u oe _).mono ?_; rintro e w12 ⟨v, ts, rfl, hts, hown, hb⟩; have HT5 := hid (heap_later2 hb HT4.out); have HF5 := hid (heap_later2 hb HF4.out); have HG5 := hid (heap_later2 hb HG4.out); have HB5 := hid (below_next HB4.out hb); rw [HRR.out, HKE.out]; have HTS := hid hts; have HOW := hid hown; obtain ⟨ar, cr, rfl⟩ := (IsSl.of_own hown).form; clear hts hown; clear hb )
    refine hK.out _ _ ?_
    clear hK hrr hke HF4 HG4
    have hsc := block_cells HT5.out
    have z0 := hsc.1 0 _ rfl
    have z1 := hsc.1 1 _ rfl
    have z2 := hsc.1 2 _ rfl
    have f0 := hsc.2 0
    have f1 := hsc.2 1
    have f2 := hsc.2 2
    clear hsc
    have HWT := hid (show frM chQ r c xs = told4S oe x y z u by rw [HW.out]; unfold chQ; rw [HOE.out]; exact told_ck (by rw [HQ1.out.symm, ck_ck2]) (by rw [HQ2.out.symm, ck_ck2]) (by rw [HQ3.out.symm, ck_ck2]) (by rw [HQ4.out.symm, ck_ck2]))
    have HOWQ := hid (show World.ownsRow _ w.heap.size 48 1 (.slice ar ts.length cr) ts.length (ts.map mkC) from (HOW.out.mono HB4.out.size).kept (grown_m3 w12 gt (.int .i64 rr) (.int .i64 rr) (.slice ar ts.length cr)) (.inr (fun e => by have h1 := (HOW.out.lt _ e).1; have h2 := (Array.getElem?_eq_some_iff.1 HT4.out).1; omega)))
    refine wpAny_two (i := 23) (j := 24) (by kernel_rfl) rfl rfl (fun K hK => ?_) (fun K hK => ?_)
    all_goals go_simp
    all_goals refine hK.out _ _ ?_
    all_goals clear hK
    rotate_left
    refine wpAny_one (i := 23) (by kernel_rfl) rfl (fun K hK => ?_)
    rotate_left
    refine wpAny_one (i := 24) (by kernel_rfl) rfl (fun K hK => ?_)
    all_goals go_simp
    all_goals refine hK.out _ _ ?_
    all_goals clear hK
    all_goals
      refine wpAny_one (i := 25) (by kernel_rfl) rfl (fun K hK => ?_)
      go_simp
      refine hK.out _ _ ?_
      clear hK
      refine wpAny_one (i := 26) (by kernel_rfl) rfl (fun K hK => ?_)
      go_simp
      refine hK.out _ _ ?_
      clear hK
      refine wpAny_done (by kernel_rfl) ?_ _
      go_wp2
      (try simp only [Exit.inBlock, Exit.then])
      (try rw [Exit.noGoto_ret])
      refine bodyPost_ret (v := .tuple #[.agg #[.int .i64 rr, .int .i64 rr, .slice ar ts.length cr], .int .i64 ke]) ?_ rfl ⟨.slice ar ts.length cr, ts, by rw [HWT.out, HRR.out, HKE.out], by rw [HWT.out]; exact HTS.out, HOWQ.out, below_m3 HB5.out HLE.out⟩
      rw [results_cell_tmp rfl]
      go_simp
end Go.Proofs.YtdepiggjneoopaaGreatDoor
