/- Walks of the reference's sheet: place, add, sub. -/
import Derived.Test.YtejooaeppcjhjaaSheet
import Derived.Test.YtejooaeppcjhjaaMMapD
import Derived.Test.YtejooaeppcjhjaaMRgt0
import Derived.Deep.QuietTactic
import Derived.BigQuiet
import Derived.StillTailTactics
namespace Go.Proofs.Ytejooaeppcjhjaa
open Go.RowKit

set_option maxRecDepth 100000 in
set_option maxHeartbeats 1000000 in
theorem splace_any (q : Value) (l : List El) (t : ByteArray) (w : World) (hq : RN w q l) (hl : l.length ≤ 100000) :
    Calls Try.prog 56 #[q, .string t] w (RetI (rowI l t) w) := by
  by_cases hh : has (nds l) t = true
  · have HR := hid (show rowI l t = plI (nds l) t by unfold rowI; rw [if_pos hh])
    go_enter Try.func56, Try.ntmps56
    go_wp2_with (go_at_call 75; refine (rplace_any _ l t _ hq hl).mono ?_; rintro e w1 ⟨rfl, hb⟩; rw [hh])
    (try rw [Exit.noGoto_ret])
    go_ret
    exact ⟨by rw [HR.out]; rfl, hb⟩
  · have HR := hid (show rowI l t = -1 by unfold rowI; rw [if_neg hh])
    have hf : has (nds l) t = false := by simpa using hh
    clear hh
    go_enter Try.func56, Try.ntmps56
    go_wp2_with (go_at_call 75; refine (rplace_any _ l t _ hq hl).mono ?_; rintro e w1 ⟨rfl, hb⟩; rw [hf])
    (try rw [Exit.noGoto_ret])
    go_ret
    exact ⟨by rw [HR.out]; rfl, hb⟩
/-- The place of a number in a slice that lies at a block's head. -/
theorem idx_at {h n c k : Nat} (hk : k < n) (w' : World) : (Instr.indexAt 37 (.slice (some ⟨h, 0, none⟩) n c) (.int .i64 k)).run Try.prog w' = .ok (.pointer (some ⟨h, k, none⟩)) w' := by
  obtain ⟨i0, hi, hz0, hz1, hz2⟩ := info_parts infoC
  have he : Try.prog.elem 37 = 72 := by have := Try.underlying37; simp [Program.elem, this]
  rw [run_indexAt_slice w' 37 _ n c .i64 k (by rw [he]; exact Try.underlying37), if_pos ⟨by omega, by omega⟩, he]
  simp [sizeOf, typeInfo, hi, hz1, Result.andThen, Addr.add]
  try (intro h; exact h.symm)

set_option maxRecDepth 100000 in
set_option maxHeartbeats 1000000 in
theorem sadd_any (g h n : Nat) (s : StS) (i j : Int) (a b : Nat) (w : World) (H : SheetR w g h n s) (hn : n ≤ 64) (hi : i < n) (hj : j < n) :
    Calls Try.prog 59 #[.pointer (some ⟨g, 0, none⟩), .int .i64 i, .int .i64 j, .complex .f64 a b] w (RetSh g h n (st1 n s ⟨false, i, j, (fc a, fc b)⟩) w) := by
  by_cases hi0 : i < 0
  · have HH := hid H
    clear H
    go_enter Try.func59, Try.ntmps59
    go_wp2
    (try rw [Exit.noGoto_ret])
    go_end0
    exact ⟨rfl, by rw [st1_no (.inl hi0)]; exact HH.out, Grown2.of_below (Below.refl _ _)⟩
  by_cases hj0 : j < 0
  · have HH := hid H
    clear H
    go_enter Try.func59, Try.ntmps59
    go_wp2
    (try rw [Exit.noGoto_ret])
    go_end0
    exact ⟨rfl, by rw [st1_no (.inr hj0)]; exact HH.out, Grown2.of_below (Below.refl _ _)⟩
  rw [st1_yes (show ¬ (i < 0 ∨ j < 0) by omega)]
  obtain ⟨i, rfl⟩ := Int.eq_ofNat_of_zero_le (show 0 ≤ i by omega)
  obtain ⟨j, rfl⟩ := Int.eq_ofNat_of_zero_le (show 0 ≤ j by omega)
  have hk : i * n + j < n * n := by
    have h2 : (i + 1) * n ≤ n * n := Nat.mul_le_mul_right n (by omega)
    rw [Nat.succ_mul] at h2
    omega
  have hnn : n * n ≤ 4096 := Nat.mul_le_mul hn hn
  have hidx : (((i : Nat) : Int) * (n : Int) + ((j : Nat) : Int)).toNat = i * n + j := by
    rw [show (i : Int) * (n : Int) = ((i * n : Nat) : Int) by simp]; omega
  have HIDX := hid hidx
  obtain ⟨q, hq⟩ : ∃ q, i * n = q := ⟨_, rfl⟩
  obtain ⟨k, hkk⟩ : ∃ k, q + j = k := ⟨_, rfl⟩
  rw [hq, hkk] at hk
  have hw1 : IntKind.i64.wrap ((i : Int) * (n : Int)) = (q : Int) := by
    rw [show (i : Int) * (n : Int) = ((i * n : Nat) : Int) by simp, hq]
    rw [IntWalk.i64_in _ ⟨by omega, by omega⟩]
  have hw2 : IntKind.i64.wrap ((q : Int) + (j : Int)) = (k : Int) := by
    rw [IntWalk.i64_in _ ⟨by omega, by omega⟩]; omega
  rw [hq, hkk] at HIDX
  have hat : ∀ w', (Instr.indexAt 37 (.slice (some ⟨h, 0, none⟩) (n * n) (n * n)) (.int .i64 k)).run Try.prog w' = .ok (.pointer (some ⟨h, k, none⟩)) w' := fun w' => idx_at hk w'
  clear hidx hq hkk
  obtain ⟨M, hM⟩ := H
  have HM := hid hM
  have HK := hid hk
  have c1 := HM.out.c0
  clear hM hk hnn
  go_enter Try.func59, Try.ntmps59
  go_upto_region 2 with fail
  clear c1
  have HZE := hid (HM.out.num k HK.out)
  have HZC := hid (row_at (k := k) (M := M) (by rw [HM.out.len]; exact HK.out))
  generalize M.getD k (0, 0) = z at *
  obtain ⟨z1, z2⟩ := z
  refine wp_region_any (by kernel_rfl) ?_
  change wpAny _ _ _ _ _ _ _ (World.drew _)
  refine wpAny_makersD [⟨some 23, 0, []⟩, ⟨some 24, 1, []⟩, ⟨some 25, 2, []⟩, ⟨some 26, 3, []⟩, ⟨some 27, 4, []⟩, ⟨some 28, 5, []⟩, ⟨some 29, 6, []⟩, ⟨some 30, 7, []⟩, ⟨some 31, 8, []⟩, ⟨some 32, 9, []⟩, ⟨some 33, 10, []⟩, ⟨some 34, 11, []⟩, ⟨some 35, 12, []⟩, ⟨some 36, 13, []⟩]
    (fun w' => SheetM w' g h n s.1 s.2 M)
    (fun oq v _ _ _ _ => match oq with | 0 => v = .pointer (some ⟨g, 0, none⟩) | 1 => v = .pointer (some ⟨g, 0, none⟩) | 2 => v = .pointer (some ⟨g, 1, none⟩) | 3 => v = .slice (some ⟨h, 0, none⟩) (n * n) (n * n) | 4 => v = .int .i64 k | 5 => v = .pointer (some ⟨g, 0, none⟩) | 6 => v = .pointer (some ⟨g, 0, none⟩) | 7 => v = .pointer (some ⟨g, 1, none⟩) | 8 => v = .slice (some ⟨h, 0, none⟩) (n * n) (n * n) | 9 => v = .int .i64 k | 10 => v = .pointer (some ⟨h, k, none⟩) | 11 => v = .complex .f64 z1 z2 | 12 => v = .complex .f64 a b | 13 => ∃ r1 r2, v = Value.complex .f64 r1 r2 ∧ ck (r1, r2) = cadd (fc z1, fc z2) (fc a, fc b) | _ => True) (by kernel_rfl) ?hS (fun _ _ hb h => h.below hb) (fun _ _ _ _ _ _ _ _ _ h => h) ?hop ?hend
  case hS => exact HM.out.below (Below.refl _ _).drew
  case hop =>
    delta Owed
    simp only [fillD, Act.put, List.setIfInBounds_toArray, List.set_cons_zero, List.set_cons_succ]
    refine Each.cons rfl ?_ (Each.cons rfl ?_ (Each.cons rfl ?_ (Each.cons rfl ?_ (Each.cons rfl ?_ (Each.cons rfl ?_ (Each.cons rfl ?_ (Each.cons rfl ?_ (Each.cons rfl ?_ (Each.cons rfl ?_ (Each.cons rfl ?_ (Each.cons rfl ?_ (Each.cons rfl ?_ (Each.cons rfl ?_ Each.nil)))))))))))))
    · intro vs w2 hb2 hS2 hR2 K hK
      simp only [List.set_cons_zero, List.set_cons_succ] at hK ⊢
      go_simp
      exact hK.out _ _ (Below.refl _ _) rfl
    · intro vs w2 hb2 hS2 hR2 K hK
      have h0 : vs 0 = .pointer (some ⟨g, 0, none⟩) := by obtain ⟨_, _, _, h⟩ := hR2 0 (by kernel_rfl); exact h
      simp only [List.set_cons_zero, List.set_cons_succ] at hK ⊢
      simp only [h0] at hK ⊢
      go_simp
      exact hK.out _ _ (Below.refl _ _) rfl
    · intro vs w2 hb2 hS2 hR2 K hK
      have h1 : vs 1 = .pointer (some ⟨g, 0, none⟩) := by obtain ⟨_, _, _, h⟩ := hR2 1 (by kernel_rfl); exact h
      simp only [List.set_cons_zero, List.set_cons_succ] at hK ⊢
      simp only [h1] at hK ⊢
      go_simp
      exact hK.out _ _ (Below.refl _ _) rfl
    · intro vs w2 hb2 hS2 hR2 K hK
      have h2 : vs 2 = .pointer (some ⟨g, 1, none⟩) := by obtain ⟨_, _, _, h⟩ := hR2 2 (by kernel_rfl); exact h
      simp only [List.set_cons_zero, List.set_cons_succ] at hK ⊢
      have k1 := hS2.c1
      have kz := (cells_ofS hS2.row).1 k _ HZC.out
      simp only [h2] at hK ⊢
      go_simp
      exact hK.out _ _ (Below.refl _ _) rfl
    · intro vs w2 hb2 hS2 hR2 K hK
      simp only [List.set_cons_zero, List.set_cons_succ] at hK ⊢
      go_simp
      exact hK.out _ _ (Below.refl _ _) rfl
    · intro vs w2 hb2 hS2 hR2 K hK
      simp only [List.set_cons_zero, List.set_cons_succ] at hK ⊢
      go_simp
      exact hK.out _ _ (Below.refl _ _) rfl
    · intro vs w2 hb2 hS2 hR2 K hK
      have h5 : vs 5 = .pointer (some ⟨g, 0, none⟩) := by obtain ⟨_, _, _, h⟩ := hR2 5 (by kernel_rfl); exact h
      simp only [List.set_cons_zero, List.set_cons_succ] at hK ⊢
      simp only [h5] at hK ⊢
      go_simp
      exact hK.out _ _ (Below.refl _ _) rfl
    · intro vs w2 hb2 hS2 hR2 K hK
      have h6 : vs 6 = .pointer (some ⟨g, 0, none⟩) := by obtain ⟨_, _, _, h⟩ := hR2 6 (by kernel_rfl); exact h
      simp only [List.set_cons_zero, List.set_cons_succ] at hK ⊢
      simp only [h6] at hK ⊢
      go_simp
      exact hK.out _ _ (Below.refl _ _) rfl
    · intro vs w2 hb2 hS2 hR2 K hK
      have h7 : vs 7 = .pointer (some ⟨g, 1, none⟩) := by obtain ⟨_, _, _, h⟩ := hR2 7 (by kernel_rfl); exact h
      simp only [List.set_cons_zero, List.set_cons_succ] at hK ⊢
      have k1 := hS2.c1
      have kz := (cells_ofS hS2.row).1 k _ HZC.out
      simp only [h7] at hK ⊢
      go_simp
      exact hK.out _ _ (Below.refl _ _) rfl
    · intro vs w2 hb2 hS2 hR2 K hK
      simp only [List.set_cons_zero, List.set_cons_succ] at hK ⊢
      go_simp
      exact hK.out _ _ (Below.refl _ _) rfl
    · intro vs w2 hb2 hS2 hR2 K hK
      have h8 : vs 8 = .slice (some ⟨h, 0, none⟩) (n * n) (n * n) := by obtain ⟨_, _, _, h⟩ := hR2 8 (by kernel_rfl); exact h
      have h9 : vs 9 = .int .i64 k := by obtain ⟨_, _, _, h⟩ := hR2 9 (by kernel_rfl); exact h
      simp only [List.set_cons_zero, List.set_cons_succ] at hK ⊢
      have k1 := hS2.c1
      have kz := (cells_ofS hS2.row).1 k _ HZC.out
      simp only [h8, h9] at hK ⊢
      go_simp
      exact hK.out _ _ (Below.refl _ _) rfl
    · intro vs w2 hb2 hS2 hR2 K hK
      have h10 : vs 10 = .pointer (some ⟨h, k, none⟩) := by obtain ⟨_, _, _, h⟩ := hR2 10 (by kernel_rfl); exact h
      simp only [List.set_cons_zero, List.set_cons_succ] at hK ⊢
      have k1 := hS2.c1
      have kz := (cells_ofS hS2.row).1 k _ HZC.out
      simp only [h10] at hK ⊢
      go_simp
      exact hK.out _ _ (Below.refl _ _) rfl
    · intro vs w2 hb2 hS2 hR2 K hK
      simp only [List.set_cons_zero, List.set_cons_succ] at hK ⊢
      go_simp
      exact hK.out _ _ (Below.refl _ _) rfl
    · intro vs w2 hb2 hS2 hR2 K hK
      have h11 : vs 11 = .complex .f64 z1 z2 := by obtain ⟨_, _, _, h⟩ := hR2 11 (by kernel_rfl); exact h
      have h12 : vs 12 = .complex .f64 a b := by obtain ⟨_, _, _, h⟩ := hR2 12 (by kernel_rfl); exact h
      simp only [List.set_cons_zero, List.set_cons_succ] at hK ⊢
      simp only [h11, h12] at hK ⊢
      rw [if_pos (by rfl)]
      go_wp2_with (go_at_call 79; refine (radd_any z1 z2 a b _).mono ?_; rintro e w3 ⟨v, nn, rfl, he, r1, r2, rfl, hzz⟩; subst he)
      exact hK.out _ _ (below_n (Below.refl _ _) nn) ⟨r1, r2, rfl, hzz⟩
  case hend =>
    intro vs wx lo hiv hbx hSx hRx hdx
    have h0 : vs 0 = .pointer (some ⟨g, 0, none⟩) := (hRx 0 (by kernel_rfl)).1
    have h1 : vs 1 = .pointer (some ⟨g, 0, none⟩) := (hRx 1 (by kernel_rfl)).1
    have h2 : vs 2 = .pointer (some ⟨g, 1, none⟩) := (hRx 2 (by kernel_rfl)).1
    have h3 : vs 3 = .slice (some ⟨h, 0, none⟩) (n * n) (n * n) := (hRx 3 (by kernel_rfl)).1
    have h4 : vs 4 = .int .i64 k := (hRx 4 (by kernel_rfl)).1
    have h5 : vs 5 = .pointer (some ⟨g, 0, none⟩) := (hRx 5 (by kernel_rfl)).1
    have h6 : vs 6 = .pointer (some ⟨g, 0, none⟩) := (hRx 6 (by kernel_rfl)).1
    have h7 : vs 7 = .pointer (some ⟨g, 1, none⟩) := (hRx 7 (by kernel_rfl)).1
    have h8 : vs 8 = .slice (some ⟨h, 0, none⟩) (n * n) (n * n) := (hRx 8 (by kernel_rfl)).1
    have h9 : vs 9 = .int .i64 k := (hRx 9 (by kernel_rfl)).1
    have h10 : vs 10 = .pointer (some ⟨h, k, none⟩) := (hRx 10 (by kernel_rfl)).1
    have h11 : vs 11 = .complex .f64 z1 z2 := (hRx 11 (by kernel_rfl)).1
    have h12 : vs 12 = .complex .f64 a b := (hRx 12 (by kernel_rfl)).1
    have H13 := (hRx 13 (by kernel_rfl)).1
    obtain ⟨r1, r2, h13, hz13⟩ := H13
    simp only [fillD, Act.put, List.setIfInBounds_toArray, List.set_cons_zero, List.set_cons_succ, h0, h1, h2, h3, h4, h5, h6, h7, h8, h9, h10, h11, h12, h13]
    have HZZ := hid hz13
    have HD := hid (HM.out.below (below_drew_left hbx))
    have HB := hid (below_drew_left hbx)
    clear hz13 hbx hRx hdx hSx
    refine wpAny_one (i := 14) (by kernel_rfl) rfl (fun K hK => ?_)
    go_simp
    refine hK.out _ _ ?_
    clear hK
    have fz := (cells_ofS HD.out.row).2 k
    have cz := (cells_ofS HD.out.row).1 k _ HZC.out
    refine wpAny_one (i := 15) (by kernel_rfl) rfl (fun K hK => ?_)
    go_simp
    refine hK.out _ _ ?_
    clear hK fz cz
    have HD3 : Hid (SheetM (wx.setCell ⟨h, k, none⟩ (.complex .f64 r1 r2)) g h n (upd s.1 k (ck (r1, r2))) s.2 (M.set k (r1, r2))) := hid (HD.out.put HK.out (r1, r2))
    have HG3 := hid ((Grown2.of_below (g := g) (h := h) HB.out).trans (Grown2.right (g := g) (grown_setS wx h k (.complex .f64 r1 r2))))
    clear HD HB
    have HST := hid (show stZ n s.1 ⟨false, (i : Int), (j : Int), (fc a, fc b)⟩ = ck (r1, r2) by
      unfold stZ
      simp only [HIDX.out, Bool.false_eq_true, if_false]
      rw [← HZE.out]; exact HZZ.out.symm)
    generalize wx.setCell ⟨h, k, none⟩ (.complex .f64 r1 r2) = w3 at *
    refine wpAny_done (by kernel_rfl) ?_ _
    have c1 := HD3.out.c1
    have c2 := HD3.out.c2
    have f2 := (cells_ofS HD3.out.box).2 2
    have z3 : w3.cell? ⟨h, k, none⟩ = some (.complex .f64 r1 r2) := by
      have h1 := (cells_ofS HD3.out.row).1 k _ (row_at (by rw [HD3.out.len]; exact HK.out))
      rw [List.getD_eq_getElem?_getD, List.getElem?_set_self (by have := HD3.out.len; rw [List.length_set] at this; rw [this]; exact HK.out)] at h1
      exact h1
    rcases hov : s.2 with _ | _
    · rw [hov] at c2
      go_wp2_with (go_at_call 80; refine (rfin_any r1 r2 _).mono ?_; rintro e w4 ⟨v, nn4, rfl, he, rfl⟩; have hb4 : Below w3.heap.size w3 w4 := (by rw [he]; exact below_n (Below.refl _ _) nn4); have HD5 := hid (HD3.out.below hb4); have HG5 := hid (HG3.out.trans (Grown2.of_below hb4)); have f4 := (cells_ofS HD5.out.box).2 2; have c4 := HD5.out.c2; clear HD3 HG3 he hb4 c1 c2 f2 z3)
      (try rw [Exit.noGoto_ret])
      go_end0
      refine ⟨rfl, ⟨M.set k (r1, r2), ?_⟩, HG5.out.trans (Grown2.left (grown_setS _ _ _ _))⟩
      rw [HST.out, HIDX.out]
      (try rw [hov, Bool.false_or])
      exact HD5.out.mark _
    · rw [hov] at c2
      go_wp2
      (try rw [Exit.noGoto_ret])
      go_end0
      refine ⟨rfl, ⟨M.set k (r1, r2), ?_⟩, HG3.out.trans (Grown2.left (grown_setS _ _ _ _))⟩
      rw [HST.out, HIDX.out]
      (try rw [hov, Bool.true_or])
      exact HD3.out.mark _

set_option maxRecDepth 100000 in
set_option maxHeartbeats 1000000 in
theorem ssub_any (g h n : Nat) (s : StS) (i j : Int) (a b : Nat) (w : World) (H : SheetR w g h n s) (hn : n ≤ 64) (hi : i < n) (hj : j < n) :
    Calls Try.prog 60 #[.pointer (some ⟨g, 0, none⟩), .int .i64 i, .int .i64 j, .complex .f64 a b] w (RetSh g h n (st1 n s ⟨true, i, j, (fc a, fc b)⟩) w) := by
  by_cases hi0 : i < 0
  · have HH := hid H
    clear H
    go_enter Try.func60, Try.ntmps60
    go_wp2
    (try rw [Exit.noGoto_ret])
    go_end0
    exact ⟨rfl, by rw [st1_no (.inl hi0)]; exact HH.out, Grown2.of_below (Below.refl _ _)⟩
  by_cases hj0 : j < 0
  · have HH := hid H
    clear H
    go_enter Try.func60, Try.ntmps60
    go_wp2
    (try rw [Exit.noGoto_ret])
    go_end0
    exact ⟨rfl, by rw [st1_no (.inr hj0)]; exact HH.out, Grown2.of_below (Below.refl _ _)⟩
  rw [st1_yes (show ¬ (i < 0 ∨ j < 0) by omega)]
  obtain ⟨i, rfl⟩ := Int.eq_ofNat_of_zero_le (show 0 ≤ i by omega)
  obtain ⟨j, rfl⟩ := Int.eq_ofNat_of_zero_le (show 0 ≤ j by omega)
  have hk : i * n + j < n * n := by
    have h2 : (i + 1) * n ≤ n * n := Nat.mul_le_mul_right n (by omega)
    rw [Nat.succ_mul] at h2
    omega
  have hnn : n * n ≤ 4096 := Nat.mul_le_mul hn hn
  have hidx : (((i : Nat) : Int) * (n : Int) + ((j : Nat) : Int)).toNat = i * n + j := by
    rw [show (i : Int) * (n : Int) = ((i * n : Nat) : Int) by simp]; omega
  have HIDX := hid hidx
  obtain ⟨q, hq⟩ : ∃ q, i * n = q := ⟨_, rfl⟩
  obtain ⟨k, hkk⟩ : ∃ k, q + j = k := ⟨_, rfl⟩
  rw [hq, hkk] at hk
  have hw1 : IntKind.i64.wrap ((i : Int) * (n : Int)) = (q : Int) := by
    rw [show (i : Int) * (n : Int) = ((i * n : Nat) : Int) by simp, hq]
    rw [IntWalk.i64_in _ ⟨by omega, by omega⟩]
  have hw2 : IntKind.i64.wrap ((q : Int) + (j : Int)) = (k : Int) := by
    rw [IntWalk.i64_in _ ⟨by omega, by omega⟩]; omega
  rw [hq, hkk] at HIDX
  have hat : ∀ w', (Instr.indexAt 37 (.slice (some ⟨h, 0, none⟩) (n * n) (n * n)) (.int .i64 k)).run Try.prog w' = .ok (.pointer (some ⟨h, k, none⟩)) w' := fun w' => idx_at hk w'
  clear hidx hq hkk
  obtain ⟨M, hM⟩ := H
  have HM := hid hM
  have HK := hid hk
  have c1 := HM.out.c0
  clear hM hk hnn
  go_enter Try.func60, Try.ntmps60
  go_upto_region 2 with fail
  clear c1
  have HZE := hid (HM.out.num k HK.out)
  have HZC := hid (row_at (k := k) (M := M) (by rw [HM.out.len]; exact HK.out))
  generalize M.getD k (0, 0) = z at *
  obtain ⟨z1, z2⟩ := z
  refine wp_region_any (by kernel_rfl) ?_
  change wpAny _ _ _ _ _ _ _ (World.drew _)
  refine wpAny_makersD [⟨some 23, 0, []⟩, ⟨some 24, 1, []⟩, ⟨some 25, 2, []⟩, ⟨some 26, 3, []⟩, ⟨some 27, 4, []⟩, ⟨some 28, 5, []⟩, ⟨some 29, 6, []⟩, ⟨some 30, 7, []⟩, ⟨some 31, 8, []⟩, ⟨some 32, 9, []⟩, ⟨some 33, 10, []⟩, ⟨some 34, 11, []⟩, ⟨some 35, 12, []⟩, ⟨some 36, 13, []⟩]
    (fun w' => SheetM w' g h n s.1 s.2 M)
    (fun oq v _ _ _ _ => match oq with | 0 => v = .pointer (some ⟨g, 0, none⟩) | 1 => v = .pointer (some ⟨g, 0, none⟩) | 2 => v = .pointer (some ⟨g, 1, none⟩) | 3 => v = .slice (some ⟨h, 0, none⟩) (n * n) (n * n) | 4 => v = .int .i64 k | 5 => v = .pointer (some ⟨g, 0, none⟩) | 6 => v = .pointer (some ⟨g, 0, none⟩) | 7 => v = .pointer (some ⟨g, 1, none⟩) | 8 => v = .slice (some ⟨h, 0, none⟩) (n * n) (n * n) | 9 => v = .int .i64 k | 10 => v = .pointer (some ⟨h, k, none⟩) | 11 => v = .complex .f64 z1 z2 | 12 => v = .complex .f64 a b | 13 => ∃ r1 r2, v = Value.complex .f64 r1 r2 ∧ ck (r1, r2) = csub (fc z1, fc z2) (fc a, fc b) | _ => True) (by kernel_rfl) ?hS (fun _ _ hb h => h.below hb) (fun _ _ _ _ _ _ _ _ _ h => h) ?hop ?hend
  case hS => exact HM.out.below (Below.refl _ _).drew
  case hop =>
    delta Owed
    simp only [fillD, Act.put, List.setIfInBounds_toArray, List.set_cons_zero, List.set_cons_succ]
    refine Each.cons rfl ?_ (Each.cons rfl ?_ (Each.cons rfl ?_ (Each.cons rfl ?_ (Each.cons rfl ?_ (Each.cons rfl ?_ (Each.cons rfl ?_ (Each.cons rfl ?_ (Each.cons rfl ?_ (Each.cons rfl ?_ (Each.cons rfl ?_ (Each.cons rfl ?_ (Each.cons rfl ?_ (Each.cons rfl ?_ Each.nil)))))))))))))
    · intro vs w2 hb2 hS2 hR2 K hK
      simp only [List.set_cons_zero, List.set_cons_succ] at hK ⊢
      go_simp
      exact hK.out _ _ (Below.refl _ _) rfl
    · intro vs w2 hb2 hS2 hR2 K hK
      have h0 : vs 0 = .pointer (some ⟨g, 0, none⟩) := by obtain ⟨_, _, _, h⟩ := hR2 0 (by kernel_rfl); exact h
      simp only [List.set_cons_zero, List.set_cons_succ] at hK ⊢
      simp only [h0] at hK ⊢
      go_simp
      exact hK.out _ _ (Below.refl _ _) rfl
    · intro vs w2 hb2 hS2 hR2 K hK
      have h1 : vs 1 = .pointer (some ⟨g, 0, none⟩) := by obtain ⟨_, _, _, h⟩ := hR2 1 (by kernel_rfl); exact h
      simp only [List.set_cons_zero, List.set_cons_succ] at hK ⊢
      simp only [h1] at hK ⊢
      go_simp
      exact hK.out _ _ (Below.refl _ _) rfl
    · intro vs w2 hb2 hS2 hR2 K hK
      have h2 : vs 2 = .pointer (some ⟨g, 1, none⟩) := by obtain ⟨_, _, _, h⟩ := hR2 2 (by kernel_rfl); exact h
      simp only [List.set_cons_zero, List.set_cons_succ] at hK ⊢
      have k1 := hS2.c1
      have kz := (cells_ofS hS2.row).1 k _ HZC.out
      simp only [h2] at hK ⊢
      go_simp
      exact hK.out _ _ (Below.refl _ _) rfl
    · intro vs w2 hb2 hS2 hR2 K hK
      simp only [List.set_cons_zero, List.set_cons_succ] at hK ⊢
      go_simp
      exact hK.out _ _ (Below.refl _ _) rfl
    · intro vs w2 hb2 hS2 hR2 K hK
      simp only [List.set_cons_zero, List.set_cons_succ] at hK ⊢
      go_simp
      exact hK.out _ _ (Below.refl _ _) rfl
    · intro vs w2 hb2 hS2 hR2 K hK
      have h5 : vs 5 = .pointer (some ⟨g, 0, none⟩) := by obtain ⟨_, _, _, h⟩ := hR2 5 (by kernel_rfl); exact h
      simp only [List.set_cons_zero, List.set_cons_succ] at hK ⊢
      simp only [h5] at hK ⊢
      go_simp
      exact hK.out _ _ (Below.refl _ _) rfl
    · intro vs w2 hb2 hS2 hR2 K hK
      have h6 : vs 6 = .pointer (some ⟨g, 0, none⟩) := by obtain ⟨_, _, _, h⟩ := hR2 6 (by kernel_rfl); exact h
      simp only [List.set_cons_zero, List.set_cons_succ] at hK ⊢
      simp only [h6] at hK ⊢
      go_simp
      exact hK.out _ _ (Below.refl _ _) rfl
    · intro vs w2 hb2 hS2 hR2 K hK
      have h7 : vs 7 = .pointer (some ⟨g, 1, none⟩) := by obtain ⟨_, _, _, h⟩ := hR2 7 (by kernel_rfl); exact h
      simp only [List.set_cons_zero, List.set_cons_succ] at hK ⊢
      have k1 := hS2.c1
      have kz := (cells_ofS hS2.row).1 k _ HZC.out
      simp only [h7] at hK ⊢
      go_simp
      exact hK.out _ _ (Below.refl _ _) rfl
    · intro vs w2 hb2 hS2 hR2 K hK
      simp only [List.set_cons_zero, List.set_cons_succ] at hK ⊢
      go_simp
      exact hK.out _ _ (Below.refl _ _) rfl
    · intro vs w2 hb2 hS2 hR2 K hK
      have h8 : vs 8 = .slice (some ⟨h, 0, none⟩) (n * n) (n * n) := by obtain ⟨_, _, _, h⟩ := hR2 8 (by kernel_rfl); exact h
      have h9 : vs 9 = .int .i64 k := by obtain ⟨_, _, _, h⟩ := hR2 9 (by kernel_rfl); exact h
      simp only [List.set_cons_zero, List.set_cons_succ] at hK ⊢
      have k1 := hS2.c1
      have kz := (cells_ofS hS2.row).1 k _ HZC.out
      simp only [h8, h9] at hK ⊢
      go_simp
      exact hK.out _ _ (Below.refl _ _) rfl
    · intro vs w2 hb2 hS2 hR2 K hK
      have h10 : vs 10 = .pointer (some ⟨h, k, none⟩) := by obtain ⟨_, _, _, h⟩ := hR2 10 (by kernel_rfl); exact h
      simp only [List.set_cons_zero, List.set_cons_succ] at hK ⊢
      have k1 := hS2.c1
      have kz := (cells_ofS hS2.row).1 k _ HZC.out
      simp only [h10] at hK ⊢
      go_simp
      exact hK.out _ _ (Below.refl _ _) rfl
    · intro vs w2 hb2 hS2 hR2 K hK
      simp only [List.set_cons_zero, List.set_cons_succ] at hK ⊢
      go_simp
      exact hK.out _ _ (Below.refl _ _) rfl
    · intro vs w2 hb2 hS2 hR2 K hK
      have h11 : vs 11 = .complex .f64 z1 z2 := by obtain ⟨_, _, _, h⟩ := hR2 11 (by kernel_rfl); exact h
      have h12 : vs 12 = .complex .f64 a b := by obtain ⟨_, _, _, h⟩ := hR2 12 (by kernel_rfl); exact h
      simp only [List.set_cons_zero, List.set_cons_succ] at hK ⊢
      simp only [h11, h12] at hK ⊢
      rw [if_pos (by rfl)]
      go_wp2_with (go_at_call 81; refine (rsub_any z1 z2 a b _).mono ?_; rintro e w3 ⟨v, nn, rfl, he, r1, r2, rfl, hzz⟩; subst he)
      exact hK.out _ _ (below_n (Below.refl _ _) nn) ⟨r1, r2, rfl, hzz⟩
  case hend =>
    intro vs wx lo hiv hbx hSx hRx hdx
    have h0 : vs 0 = .pointer (some ⟨g, 0, none⟩) := (hRx 0 (by kernel_rfl)).1
    have h1 : vs 1 = .pointer (some ⟨g, 0, none⟩) := (hRx 1 (by kernel_rfl)).1
    have h2 : vs 2 = .pointer (some ⟨g, 1, none⟩) := (hRx 2 (by kernel_rfl)).1
    have h3 : vs 3 = .slice (some ⟨h, 0, none⟩) (n * n) (n * n) := (hRx 3 (by kernel_rfl)).1
    have h4 : vs 4 = .int .i64 k := (hRx 4 (by kernel_rfl)).1
    have h5 : vs 5 = .pointer (some ⟨g, 0, none⟩) := (hRx 5 (by kernel_rfl)).1
    have h6 : vs 6 = .pointer (some ⟨g, 0, none⟩) := (hRx 6 (by kernel_rfl)).1
    have h7 : vs 7 = .pointer (some ⟨g, 1, none⟩) := (hRx 7 (by kernel_rfl)).1
    have h8 : vs 8 = .slice (some ⟨h, 0, none⟩) (n * n) (n * n) := (hRx 8 (by kernel_rfl)).1
    have h9 : vs 9 = .int .i64 k := (hRx 9 (by kernel_rfl)).1
    have h10 : vs 10 = .pointer (some ⟨h, k, none⟩) := (hRx 10 (by kernel_rfl)).1
    have h11 : vs 11 = .complex .f64 z1 z2 := (hRx 11 (by kernel_rfl)).1
    have h12 : vs 12 = .complex .f64 a b := (hRx 12 (by kernel_rfl)).1
    have H13 := (hRx 13 (by kernel_rfl)).1
    obtain ⟨r1, r2, h13, hz13⟩ := H13
    simp only [fillD, Act.put, List.setIfInBounds_toArray, List.set_cons_zero, List.set_cons_succ, h0, h1, h2, h3, h4, h5, h6, h7, h8, h9, h10, h11, h12, h13]
    have HZZ := hid hz13
    have HD := hid (HM.out.below (below_drew_left hbx))
    have HB := hid (below_drew_left hbx)
    clear hz13 hbx hRx hdx hSx
    refine wpAny_one (i := 14) (by kernel_rfl) rfl (fun K hK => ?_)
    go_simp
    refine hK.out _ _ ?_
    clear hK
    have fz := (cells_ofS HD.out.row).2 k
    have cz := (cells_ofS HD.out.row).1 k _ HZC.out
    refine wpAny_one (i := 15) (by kernel_rfl) rfl (fun K hK => ?_)
    go_simp
    refine hK.out _ _ ?_
    clear hK fz cz
    have HD3 : Hid (SheetM (wx.setCell ⟨h, k, none⟩ (.complex .f64 r1 r2)) g h n (upd s.1 k (ck (r1, r2))) s.2 (M.set k (r1, r2))) := hid (HD.out.put HK.out (r1, r2))
    have HG3 := hid ((Grown2.of_below (g := g) (h := h) HB.out).trans (Grown2.right (g := g) (grown_setS wx h k (.complex .f64 r1 r2))))
    clear HD HB
    have HST := hid (show stZ n s.1 ⟨true, (i : Int), (j : Int), (fc a, fc b)⟩ = ck (r1, r2) by
      unfold stZ
      simp only [HIDX.out, if_true]
      rw [← HZE.out]; exact HZZ.out.symm)
    generalize wx.setCell ⟨h, k, none⟩ (.complex .f64 r1 r2) = w3 at *
    refine wpAny_done (by kernel_rfl) ?_ _
    have c1 := HD3.out.c1
    have c2 := HD3.out.c2
    have f2 := (cells_ofS HD3.out.box).2 2
    have z3 : w3.cell? ⟨h, k, none⟩ = some (.complex .f64 r1 r2) := by
      have h1 := (cells_ofS HD3.out.row).1 k _ (row_at (by rw [HD3.out.len]; exact HK.out))
      rw [List.getD_eq_getElem?_getD, List.getElem?_set_self (by have := HD3.out.len; rw [List.length_set] at this; rw [this]; exact HK.out)] at h1
      exact h1
    rcases hov : s.2 with _ | _
    · rw [hov] at c2
      go_wp2_with (go_at_call 80; refine (rfin_any r1 r2 _).mono ?_; rintro e w4 ⟨v, nn4, rfl, he, rfl⟩; have hb4 : Below w3.heap.size w3 w4 := (by rw [he]; exact below_n (Below.refl _ _) nn4); have HD5 := hid (HD3.out.below hb4); have HG5 := hid (HG3.out.trans (Grown2.of_below hb4)); have f4 := (cells_ofS HD5.out.box).2 2; have c4 := HD5.out.c2; clear HD3 HG3 he hb4 c1 c2 f2 z3)
      (try rw [Exit.noGoto_ret])
      go_end0
      refine ⟨rfl, ⟨M.set k (r1, r2), ?_⟩, HG5.out.trans (Grown2.left (grown_setS _ _ _ _))⟩
      rw [HST.out, HIDX.out]
      (try rw [hov, Bool.false_or])
      exact HD5.out.mark _
    · rw [hov] at c2
      go_wp2
      (try rw [Exit.noGoto_ret])
      go_end0
      refine ⟨rfl, ⟨M.set k (r1, r2), ?_⟩, HG3.out.trans (Grown2.left (grown_setS _ _ _ _))⟩
      rw [HST.out, HIDX.out]
      (try rw [hov, Bool.true_or])
      exact HD3.out.mark _
end Go.Proofs.Ytejooaeppcjhjaa
