/- a part of the proof of the last text -/
import Derived.Test.YtjeedckmkicnoaaGreatDoorZMRNone
namespace Go.Proofs.YtjeedckmkicnoaaGreatDoor
set_option linter.all false
set_option maxHeartbeats 4000000
set_option maxRecDepth 100000
open Go.RowKit
set_option maxRecDepth 100000 in
set_option maxHeartbeats 400000 in
theorem missing_any (p : Value) (l : List El) (w : World) (hp : NN w p l) (hn : has (l.map El.name) ⟨#[]⟩ = false) :
    Calls Tryz.prog 34 #[p] w (fun e w' => e = .returned (.bool (noNet p)) ∧ w = w') := by
  have HP := hid hp
  have HN := hid hn
  cases hq : noNet p
  all_goals
    have HQ := hid hq
    clear hq
    go_enter Tryz.func34, Tryz.ntmps34
    go_wp2_with (go_at_call 71; refine (nwithout_none _ l _ HP.out HN.out).mono ?_; rintro e w' ⟨rfl, rfl⟩; rw [HQ.out])
    go_ret
    exact ⟨rfl, rfl⟩
/-- What is wrong with a net and a solution. -/
def fitsS (b : Bool) (nv na k m : Nat) : Int := if b = true then 1 else if nv ≠ k ∨ na ≠ m then 4 else 0
theorem i_ne {a b : Nat} (h : a ≠ b) : ((a : Int) != (b : Int)) = true := by simp; omega
set_option maxRecDepth 100000 in
set_option maxHeartbeats 1000000 in
theorem fits_any2 (p : Value) (l : List El) (om nv cv na ca : Nat) (av aa : Option Addr) (w : World) (hp : NN w p l) (hg : NetG l) :
    Calls Tryz.prog 47 #[p, .agg #[.float .f64 om, .slice av nv cv, .slice aa na ca]] w (fun e w' => e = .returned (.int .i64 (fitsS (noNet p) nv na (nds l).length (brs l).length)) ∧ Below w.heap.size w w') := by
  have hb1 := (Below.refl w.heap.size w).alloc (Nat.le_refl _) (.cells #[.float .f64 om, .slice av nv cv, .slice aa na ca] 50)
  have HBO := hid hb1
  have HS := hid (heap_alloc_new w (.cells #[.float .f64 om, .slice av nv cv, .slice aa na ca] 50))
  have HP := hid (hp.below hb1 (Nat.le_refl _))
  have HG := hid hg
  obtain ⟨k, hk⟩ : ∃ k, (nds l).length = k := ⟨_, rfl⟩
  obtain ⟨m, hm⟩ : ∃ m, (brs l).length = m := ⟨_, rfl⟩
  rw [hk, hm]
  have HK := hid hk
  have HM := hid hm
  clear hp hg hb1 hk hm
  cases hq : noNet p
  rotate_left
  · have HQ := hid hq
    clear hq
    go_enter Tryz.func47, Tryz.ntmps47
    go_upto_region 1 with fail
    generalize w.alloc (.cells #[.float .f64 om, .slice av nv cv, .slice aa na ca] 50) = w1 at *
    go_wp2_with (go_at_call 34; refine (missing_any _ l _ HP.out HG.out.nm).mono ?_; rintro e w' ⟨rfl, rfl⟩; rw [HQ.out])
    (try simp only [Exit.inBlock, Exit.then])
    (try rw [Exit.noGoto_ret])
    go_ret
    exact ⟨by unfold fitsS; rw [if_pos rfl]; rfl, HBO.out⟩
  have HQ := hid hq
  clear hq
  by_cases h1 : nv = k
  rotate_left
  · have hb1 := i_ne h1
    have HW := hid (show fitsS false nv na k m = 4 by unfold fitsS; rw [if_neg (by simp), if_pos (.inl h1)])
    clear h1
    go_enter Tryz.func47, Tryz.ntmps47
    go_upto_region 1 with fail
    generalize w.alloc (.cells #[.float .f64 om, .slice av nv cv, .slice aa na ca] 50) = w1 at *
    obtain ⟨gs, hgs⟩ : ∃ gs, w.heap.size = gs := ⟨_, rfl⟩
    rw [hgs] at HS ⊢
    clear hgs
    go_upto_region 3 with (go_at_call 34; refine (missing_any _ l _ HP.out HG.out.nm).mono ?_; rintro e w' ⟨rfl, rfl⟩; rw [HQ.out])
    refine wp_region_any (by kernel_rfl) ?_
    change wpAny _ _ _ _ _ _ _ (World.drew _)
    refine wpAny_makersD [⟨some 9, 0, []⟩, ⟨some 10, 1, []⟩, ⟨some 11, 2, []⟩, ⟨some 12, 3, []⟩, ⟨some 13, 4, []⟩, ⟨some 14, 5, []⟩, ⟨some 15, 6, []⟩, ⟨some 16, 7, []⟩, ⟨some 17, 8, []⟩, ⟨some 18, 9, []⟩, ⟨some 19, 10, []⟩, ⟨some 20, 11, []⟩, ⟨some 21, 12, []⟩, ⟨some 22, 13, []⟩, ⟨some 23, 14, []⟩, ⟨some 24, 15, []⟩]
      (fun w' => w'.heap[gs]? = some (.cells #[.float .f64 om, .slice av nv cv, .slice aa na ca] 50 (0, 0)) ∧ NN w' p l)
      (fun oq v _ _ _ _ => match oq with | 0 => v = .pointer (some ⟨gs, 1, none⟩) | 1 => v = .slice av nv cv | 2 => v = .int .i64 nv | 3 => v = p | 4 => ∃ a c, v = .slice a k c | 5 => v = .int .i64 k | 6 => v = .bool true | 7 => v = .bool true | 8 => v = undef | 9 => v = undef | 10 => v = undef | 11 => v = undef | 12 => v = undef | 13 => v = undef | 14 => v = undef | 15 => v = .bool true | _ => True) (by kernel_rfl) ?hSm (fun _ _ hb h => ⟨heap_next hb h.1, h.2.below' hb⟩) (fun _ _ _ _ _ _ _ _ _ h => h) ?hopm ?hendm
    case hSm => exact ⟨heap_next (Below.refl _ _).drew HS.out, HP.out.below (Below.refl _ _).drew (Nat.le_refl _)⟩
    case hopm =>
      delta Owed
      simp only [fillD, Act.put, List.setIfInBounds_toArray, List.set_cons_zero, List.set_cons_succ]
      refine Each.cons rfl ?_ (Each.cons rfl ?_ (Each.cons rfl ?_ (Each.cons rfl ?_ (Each.cons rfl ?_ (Each.cons rfl ?_ (Each.cons rfl ?_ (Each.cons rfl ?_ (Each.cons rfl ?_ (Each.cons rfl ?_ (Each.cons rfl ?_ (Each.cons rfl ?_ (Each.cons rfl ?_ (Each.cons rfl ?_ (Each.cons rfl ?_ (Each.cons rfl ?_ Each.nil)))))))))))))))
      · intro vs w2 hb2 hS2 hR2 K hK
        simp only [List.set_cons_zero, List.set_cons_succ] at hK ⊢
        go_simp
        exact hK.out _ _ (Below.refl _ _) rfl
      · intro vs w2 hb2 hS2 hR2 K hK
        have h0 : vs 0 = .pointer (some ⟨gs, 1, none⟩) := by obtain ⟨_, _, _, h⟩ := hR2 0 (by kernel_rfl); exact h
        simp only [List.set_cons_zero, List.set_cons_succ] at hK ⊢
        have k0 := (cells_ofS hS2.1).1 1 _ rfl
        have k1 := (cells_ofS hS2.1).1 2 _ rfl
        simp only [h0] at hK ⊢
        go_simp
        exact hK.out _ _ (Below.refl _ _) rfl
      · intro vs w2 hb2 hS2 hR2 K hK
        have h1 : vs 1 = .slice av nv cv := by obtain ⟨_, _, _, h⟩ := hR2 1 (by kernel_rfl); exact h
        simp only [List.set_cons_zero, List.set_cons_succ] at hK ⊢
        simp only [h1] at hK ⊢
        go_simp
        exact hK.out _ _ (Below.refl _ _) rfl
      · intro vs w2 hb2 hS2 hR2 K hK
        simp only [List.set_cons_zero, List.set_cons_succ] at hK ⊢
        go_simp
        exact hK.out _ _ (Below.refl _ _) rfl
      · intro vs w2 hb2 hS2 hR2 K hK
        have h3 : vs 3 = p := by obtain ⟨_, _, _, h⟩ := hR2 3 (by kernel_rfl); exact h
        simp only [List.set_cons_zero, List.set_cons_succ] at hK ⊢
        simp only [h3] at hK ⊢
        rw [if_pos (by rfl)]
        go_wp2_with (go_at_call 74; refine (nnodes_any p l _ hS2.2 (by have := HG.out.len; omega)).mono ?_; rintro e w3 ⟨v, xs, rfl, hown, _, hb⟩; obtain ⟨ar, cr, rfl⟩ := (IsSl.of_own hown).form; clear hown; rw [HK.out])
        exact hK.out _ _ hb ⟨ar, cr, rfl⟩
      · intro vs w2 hb2 hS2 hR2 K hK
        obtain ⟨_, _, _, H4⟩ := hR2 4 (by kernel_rfl)
        obtain ⟨a4, c4, h4⟩ := H4
        simp only [List.set_cons_zero, List.set_cons_succ] at hK ⊢
        simp only [h4] at hK ⊢
        go_simp
        exact hK.out _ _ (Below.refl _ _) rfl
      · intro vs w2 hb2 hS2 hR2 K hK
        have h2 : vs 2 = .int .i64 nv := by obtain ⟨_, _, _, h⟩ := hR2 2 (by kernel_rfl); exact h
        have h5 : vs 5 = .int .i64 k := by obtain ⟨_, _, _, h⟩ := hR2 5 (by kernel_rfl); exact h
        simp only [List.set_cons_zero, List.set_cons_succ] at hK ⊢
        simp only [h2, h5] at hK ⊢
        go_simp
        exact hK.out _ _ (Below.refl _ _) rfl
      · intro vs w2 hb2 hS2 hR2 K hK
        have h6 : vs 6 = .bool true := by obtain ⟨_, _, _, h⟩ := hR2 6 (by kernel_rfl); exact h
        simp only [List.set_cons_zero, List.set_cons_succ] at hK ⊢
        simp only [h6] at hK ⊢
        go_simp
        exact hK.out _ _ (Below.refl _ _) rfl
      · intro vs w2 hb2 hS2 hR2 K hK
        have h7 : vs 7 = .bool true := by obtain ⟨_, _, _, h⟩ := hR2 7 (by kernel_rfl); exact h
        simp only [List.set_cons_zero, List.set_cons_succ] at hK ⊢
        simp only [h7] at hK ⊢
        rw [if_neg (by intro hh; exact absurd (show false = true from hh) (by decide))]
        exact hK.out _ _ (Below.refl _ _) rfl
      · intro vs w2 hb2 hS2 hR2 K hK
        have h7 : vs 7 = .bool true := by obtain ⟨_, _, _, h⟩ := hR2 7 (by kernel_rfl); exact h
        have h8 : vs 8 = undef := by obtain ⟨_, _, _, h⟩ := hR2 8 (by kernel_rfl); exact h
        simp only [List.set_cons_zero, List.set_cons_succ] at hK ⊢
        have k0 := (cells_ofS hS2.1).1 1 _ rfl
        have k1 := (cells_ofS hS2.1).1 2 _ rfl
        simp only [h7, h8] at hK ⊢
        rw [if_neg (by intro hh; exact absurd (show false = true from hh) (by decide))]
        exact hK.out _ _ (Below.refl _ _) rfl
      · intro vs w2 hb2 hS2 hR2 K hK
        have h7 : vs 7 = .bool true := by obtain ⟨_, _, _, h⟩ := hR2 7 (by kernel_rfl); exact h
        have h9 : vs 9 = undef := by obtain ⟨_, _, _, h⟩ := hR2 9 (by kernel_rfl); exact h
        simp only [List.set_cons_zero, List.set_cons_succ] at hK ⊢
        simp only [h7, h9] at hK ⊢
        rw [if_neg (by intro hh; exact absurd (show false = true from hh) (by decide))]
        exact hK.out _ _ (Below.refl _ _) rfl
      · intro vs w2 hb2 hS2 hR2 K hK
        have h7 : vs 7 = .bool true := by obtain ⟨_, _, _, h⟩ := hR2 7 (by kernel_rfl); exact h
        simp only [List.set_cons_zero, List.set_cons_succ] at hK ⊢
        simp only [h7] at hK ⊢
        rw [if_neg (by intro hh; exact absurd (show false = true from hh) (by decide))]
        exact hK.out _ _ (Below.refl _ _) rfl
      · intro vs w2 hb2 hS2 hR2 K hK
        have h7 : vs 7 = .bool true := by obtain ⟨_, _, _, h⟩ := hR2 7 (by kernel_rfl); exact h
        have h11 : vs 11 = undef := by obtain ⟨_, _, _, h⟩ := hR2 11 (by kernel_rfl); exact h
        simp only [List.set_cons_zero, List.set_cons_succ] at hK ⊢
        simp only [h7, h11] at hK ⊢
        rw [if_neg (by intro hh; exact absurd (show false = true from hh) (by decide))]
        exact hK.out _ _ (Below.refl _ _) rfl
      · intro vs w2 hb2 hS2 hR2 K hK
        have h7 : vs 7 = .bool true := by obtain ⟨_, _, _, h⟩ := hR2 7 (by kernel_rfl); exact h
        have h12 : vs 12 = undef := by obtain ⟨_, _, _, h⟩ := hR2 12 (by kernel_rfl); exact h
        simp only [List.set_cons_zero, List.set_cons_succ] at hK ⊢
        simp only [h7, h12] at hK ⊢
        rw [if_neg (by intro hh; exact absurd (show false = true from hh) (by decide))]
        exact hK.out _ _ (Below.refl _ _) rfl
      · intro vs w2 hb2 hS2 hR2 K hK
        have h7 : vs 7 = .bool true := by obtain ⟨_, _, _, h⟩ := hR2 7 (by kernel_rfl); exact h
        have h10 : vs 10 = undef := by obtain ⟨_, _, _, h⟩ := hR2 10 (by kernel_rfl); exact h
        have h13 : vs 13 = undef := by obtain ⟨_, _, _, h⟩ := hR2 13 (by kernel_rfl); exact h
        simp only [List.set_cons_zero, List.set_cons_succ] at hK ⊢
        simp only [h7, h10, h13] at hK ⊢
        rw [if_neg (by intro hh; exact absurd (show false = true from hh) (by decide))]
        exact hK.out _ _ (Below.refl _ _) rfl
      · intro vs w2 hb2 hS2 hR2 K hK
        have h7 : vs 7 = .bool true := by obtain ⟨_, _, _, h⟩ := hR2 7 (by kernel_rfl); exact h
        have h14 : vs 14 = undef := by obtain ⟨_, _, _, h⟩ := hR2 14 (by kernel_rfl); exact h
        simp only [List.set_cons_zero, List.set_cons_succ] at hK ⊢
        simp only [h7, h14] at hK ⊢
        go_simp
        exact hK.out _ _ (Below.refl _ _) rfl
    case hendm =>
      intro vs wx lo hiv hbx hSx hRx hdx
      have h0 : vs 0 = .pointer (some ⟨gs, 1, none⟩) := (hRx 0 (by kernel_rfl)).1
      have h1 : vs 1 = .slice av nv cv := (hRx 1 (by kernel_rfl)).1
      have h2 : vs 2 = .int .i64 nv := (hRx 2 (by kernel_rfl)).1
      have h3 : vs 3 = p := (hRx 3 (by kernel_rfl)).1
      have H4 := (hRx 4 (by kernel_rfl)).1
      obtain ⟨a4, c4, h4⟩ := H4
      have h5 : vs 5 = .int .i64 k := (hRx 5 (by kernel_rfl)).1
      have h6 : vs 6 = .bool true := (hRx 6 (by kernel_rfl)).1
      have h7 : vs 7 = .bool true := (hRx 7 (by kernel_rfl)).1
      have h8 : vs 8 = undef := (hRx 8 (by kernel_rfl)).1
      have h9 : vs 9 = undef := (hRx 9 (by kernel_rfl)).1
      have h10 : vs 10 = undef := (hRx 10 (by kernel_rfl)).1
      have h11 : vs 11 = undef := (hRx 11 (by kernel_rfl)).1
      have h12 : vs 12 = undef := (hRx 12 (by kernel_rfl)).1
      have h13 : vs 13 = undef := (hRx 13 (by kernel_rfl)).1
      have h14 : vs 14 = undef := (hRx 14 (by kernel_rfl)).1
      have h15 : vs 15 = .bool true := (hRx 15 (by kernel_rfl)).1
      simp only [fillD, Act.put, List.setIfInBounds_toArray, List.set_cons_zero, List.set_cons_succ, h0, h1, h2, h3, h4, h5, h6, h7, h8, h9, h10, h11, h12, h13, h14, h15]
      clear hRx hdx
      have hb := below_drew_left hbx
      have HB2 := hid (below_next HBO.out hb)
      refine wpAny_one (i := 16) (by kernel_rfl) rfl (fun K hK => ?_)
      go_simp
      refine hK.out _ _ ?_
      clear hK
      refine wpAny_done (by kernel_rfl) ?_ _
      go_wp2
      (try simp only [Exit.inBlock, Exit.then])
      (try rw [Exit.noGoto_ret])
      go_ret
      exact ⟨by rw [HW.out]; rfl, HB2.out⟩
  subst h1
  by_cases h2 : na = m
  rotate_left
  · have hb1 := i_ne h2
    have HW := hid (show fitsS false nv na nv m = 4 by unfold fitsS; rw [if_neg (by simp), if_pos (.inr h2)])
    clear h2
    go_enter Tryz.func47, Tryz.ntmps47
    go_upto_region 1 with fail
    generalize w.alloc (.cells #[.float .f64 om, .slice av nv cv, .slice aa na ca] 50) = w1 at *
    obtain ⟨gs, hgs⟩ : ∃ gs, w.heap.size = gs := ⟨_, rfl⟩
    rw [hgs] at HS ⊢
    clear hgs
    go_upto_region 3 with (go_at_call 34; refine (missing_any _ l _ HP.out HG.out.nm).mono ?_; rintro e w' ⟨rfl, rfl⟩; rw [HQ.out])
    refine wp_region_any (by kernel_rfl) ?_
    change wpAny _ _ _ _ _ _ _ (World.drew _)
    refine wpAny_makersD [⟨some 9, 0, []⟩, ⟨some 10, 1, []⟩, ⟨some 11, 2, []⟩, ⟨some 12, 3, []⟩, ⟨some 13, 4, []⟩, ⟨some 14, 5, []⟩, ⟨some 15, 6, []⟩, ⟨some 16, 7, []⟩, ⟨some 17, 8, []⟩, ⟨some 18, 9, []⟩, ⟨some 19, 10, []⟩, ⟨some 20, 11, []⟩, ⟨some 21, 12, []⟩, ⟨some 22, 13, []⟩, ⟨some 23, 14, []⟩, ⟨some 24, 15, []⟩]
      (fun w' => w'.heap[gs]? = some (.cells #[.float .f64 om, .slice av nv cv, .slice aa na ca] 50 (0, 0)) ∧ NN w' p l)
      (fun oq v _ _ _ _ => match oq with | 0 => v = .pointer (some ⟨gs, 1, none⟩) | 1 => v = .slice av nv cv | 2 => v = .int .i64 nv | 3 => v = p | 4 => ∃ a c, v = .slice a nv c | 5 => v = .int .i64 nv | 6 => v = .bool false | 7 => v = .bool false | 8 => v = .pointer (some ⟨gs, 2, none⟩) | 9 => v = .slice aa na ca | 10 => v = .int .i64 na | 11 => v = p | 12 => ∃ a c, v = .slice a m c | 13 => v = .int .i64 m | 14 => v = .bool true | 15 => v = .bool true | _ => True) (by kernel_rfl) ?hSm (fun _ _ hb h => ⟨heap_next hb h.1, h.2.below' hb⟩) (fun _ _ _ _ _ _ _ _ _ h => h) ?hopm ?hendm
    case hSm => exact ⟨heap_next (Below.refl _ _).drew HS.out, HP.out.below (Below.refl _ _).drew (Nat.le_refl _)⟩
    case hopm =>
      delta Owed
      simp only [fillD, Act.put, List.setIfInBounds_toArray, List.set_cons_zero, List.set_cons_succ]
      refine Each.cons rfl ?_ (Each.cons rfl ?_ (Each.cons rfl ?_ (Each.cons rfl ?_ (Each.cons rfl ?_ (Each.cons rfl ?_ (Each.cons rfl ?_ (Each.cons rfl ?_ (Each.cons rfl ?_ (Each.cons rfl ?_ (Each.cons rfl ?_ (Each.cons rfl ?_ (Each.cons rfl ?_ (Each.cons rfl ?_ (Each.cons rfl ?_ (Each.cons rfl ?_ Each.nil)))))))))))))))
      · intro vs w2 hb2 hS2 hR2 K hK
        simp only [List.set_cons_zero, List.set_cons_succ] at hK ⊢
        go_simp
        exact hK.out _ _ (Below.refl _ _) rfl
      · intro vs w2 hb2 hS2 hR2 K hK
        have h0 : vs 0 = .pointer (some ⟨gs, 1, none⟩) := by obtain ⟨_, _, _, h⟩ := hR2 0 (by kernel_rfl); exact h
        simp only [List.set_cons_zero, List.set_cons_succ] at hK ⊢
        have k0 := (cells_ofS hS2.1).1 1 _ rfl
        have k1 := (cells_ofS hS2.1).1 2 _ rfl
        simp only [h0] at hK ⊢
        go_simp
        exact hK.out _ _ (Below.refl _ _) rfl
      · intro vs w2 hb2 hS2 hR2 K hK
        have h1 : vs 1 = .slice av nv cv := by obtain ⟨_, _, _, h⟩ := hR2 1 (by kernel_rfl); exact h
        simp only [List.set_cons_zero, List.set_cons_succ] at hK ⊢
        simp only [h1] at hK ⊢
        go_simp
        exact hK.out _ _ (Below.refl _ _) rfl
      · intro vs w2 hb2 hS2 hR2 K hK
        simp only [List.set_cons_zero, List.set_cons_succ] at hK ⊢
        go_simp
        exact hK.out _ _ (Below.refl _ _) rfl
      · intro vs w2 hb2 hS2 hR2 K hK
        have h3 : vs 3 = p := by obtain ⟨_, _, _, h⟩ := hR2 3 (by kernel_rfl); exact h
        simp only [List.set_cons_zero, List.set_cons_succ] at hK ⊢
        simp only [h3] at hK ⊢
        rw [if_pos (by rfl)]
        go_wp2_with (go_at_call 74; refine (nnodes_any p l _ hS2.2 (by have := HG.out.len; omega)).mono ?_; rintro e w3 ⟨v, xs, rfl, hown, _, hb⟩; obtain ⟨ar, cr, rfl⟩ := (IsSl.of_own hown).form; clear hown; rw [HK.out])
        exact hK.out _ _ hb ⟨ar, cr, rfl⟩
      · intro vs w2 hb2 hS2 hR2 K hK
        obtain ⟨_, _, _, H4⟩ := hR2 4 (by kernel_rfl)
        obtain ⟨a4, c4, h4⟩ := H4
        simp only [List.set_cons_zero, List.set_cons_succ] at hK ⊢
        simp only [h4] at hK ⊢
        go_simp
        exact hK.out _ _ (Below.refl _ _) rfl
      · intro vs w2 hb2 hS2 hR2 K hK
        have h2 : vs 2 = .int .i64 nv := by obtain ⟨_, _, _, h⟩ := hR2 2 (by kernel_rfl); exact h
        have h5 : vs 5 = .int .i64 nv := by obtain ⟨_, _, _, h⟩ := hR2 5 (by kernel_rfl); exact h
        simp only [List.set_cons_zero, List.set_cons_succ] at hK ⊢
        simp only [h2, h5] at hK ⊢
        go_simp
        exact hK.out _ _ (Below.refl _ _) rfl
      · intro vs w2 hb2 hS2 hR2 K hK
        have h6 : vs 6 = .bool false := by obtain ⟨_, _, _, h⟩ := hR2 6 (by kernel_rfl); exact h
        simp only [List.set_cons_zero, List.set_cons_succ] at hK ⊢
        simp only [h6] at hK ⊢
        go_simp
        exact hK.out _ _ (Below.refl _ _) rfl
      · intro vs w2 hb2 hS2 hR2 K hK
        have h7 : vs 7 = .bool false := by obtain ⟨_, _, _, h⟩ := hR2 7 (by kernel_rfl); exact h
        simp only [List.set_cons_zero, List.set_cons_succ] at hK ⊢
        simp only [h7] at hK ⊢
        rw [if_pos (by rfl)]
        go_simp
        exact hK.out _ _ (Below.refl _ _) rfl
      · intro vs w2 hb2 hS2 hR2 K hK
        have h7 : vs 7 = .bool false := by obtain ⟨_, _, _, h⟩ := hR2 7 (by kernel_rfl); exact h
        have h8 : vs 8 = .pointer (some ⟨gs, 2, none⟩) := by obtain ⟨_, _, _, h⟩ := hR2 8 (by kernel_rfl); exact h
        simp only [List.set_cons_zero, List.set_cons_succ] at hK ⊢
        have k0 := (cells_ofS hS2.1).1 1 _ rfl
        have k1 := (cells_ofS hS2.1).1 2 _ rfl
        simp only [h7, h8] at hK ⊢
        rw [if_pos (by rfl)]
        go_simp
        exact hK.out _ _ (Below.refl _ _) rfl
      · intro vs w2 hb2 hS2 hR2 K hK
        have h7 : vs 7 = .bool false := by obtain ⟨_, _, _, h⟩ := hR2 7 (by kernel_rfl); exact h
        have h9 : vs 9 = .slice aa na ca := by obtain ⟨_, _, _, h⟩ := hR2 9 (by kernel_rfl); exact h
        simp only [List.set_cons_zero, List.set_cons_succ] at hK ⊢
        simp only [h7, h9] at hK ⊢
        rw [if_pos (by rfl)]
        go_simp
        exact hK.out _ _ (Below.refl _ _) rfl
      · intro vs w2 hb2 hS2 hR2 K hK
        have h7 : vs 7 = .bool false := by obtain ⟨_, _, _, h⟩ := hR2 7 (by kernel_rfl); exact h
        simp only [List.set_cons_zero, List.set_cons_succ] at hK ⊢
        simp only [h7] at hK ⊢
        rw [if_pos (by rfl)]
        go_simp
        exact hK.out _ _ (Below.refl _ _) rfl
      · intro vs w2 hb2 hS2 hR2 K hK
        have h7 : vs 7 = .bool false := by obtain ⟨_, _, _, h⟩ := hR2 7 (by kernel_rfl); exact h
        have h11 : vs 11 = p := by obtain ⟨_, _, _, h⟩ := hR2 11 (by kernel_rfl); exact h
        simp only [List.set_cons_zero, List.set_cons_succ] at hK ⊢
        simp only [h7, h11] at hK ⊢
        rw [if_pos (by rfl)]
        go_wp2_with (go_at_call 75; refine (nbranches_any p l _ hS2.2 (by have := HG.out.len; omega)).mono ?_; rintro e w3 ⟨v, xs, rfl, hown, _, hb⟩; obtain ⟨ar, cr, rfl⟩ := (IsSl.of_own hown).form; clear hown; rw [HM.out])
        exact hK.out _ _ hb ⟨ar, cr, rfl⟩
      · intro vs w2 hb2 hS2 hR2 K hK
        have h7 : vs 7 = .bool false := by obtain ⟨_, _, _, h⟩ := hR2 7 (by kernel_rfl); exact h
        obtain ⟨_, _, _, H12⟩ := hR2 12 (by kernel_rfl)
        obtain ⟨a12, c12, h12⟩ := H12
        simp only [List.set_cons_zero, List.set_cons_succ] at hK ⊢
        simp only [h7, h12] at hK ⊢
        rw [if_pos (by rfl)]
        go_simp
        exact hK.out _ _ (Below.refl _ _) rfl
      · intro vs w2 hb2 hS2 hR2 K hK
        have h7 : vs 7 = .bool false := by obtain ⟨_, _, _, h⟩ := hR2 7 (by kernel_rfl); exact h
        have h10 : vs 10 = .int .i64 na := by obtain ⟨_, _, _, h⟩ := hR2 10 (by kernel_rfl); exact h
        have h13 : vs 13 = .int .i64 m := by obtain ⟨_, _, _, h⟩ := hR2 13 (by kernel_rfl); exact h
        simp only [List.set_cons_zero, List.set_cons_succ] at hK ⊢
        simp only [h7, h10, h13] at hK ⊢
        rw [if_pos (by rfl)]
        go_simp
        exact hK.out _ _ (Below.refl _ _) rfl
      · intro vs w2 hb2 hS2 hR2 K hK
        have h7 : vs 7 = .bool false := by obtain ⟨_, _, _, h⟩ := hR2 7 (by kernel_rfl); exact h
        have h14 : vs 14 = .bool true := by obtain ⟨_, _, _, h⟩ := hR2 14 (by kernel_rfl); exact h
        simp only [List.set_cons_zero, List.set_cons_succ] at hK ⊢
        simp only [h7, h14] at hK ⊢
        go_simp
        exact hK.out _ _ (Below.refl _ _) rfl
    case hendm =>
      intro vs wx lo hiv hbx hSx hRx hdx
      have h0 : vs 0 = .pointer (some ⟨gs, 1, none⟩) := (hRx 0 (by kernel_rfl)).1
      have h1 : vs 1 = .slice av nv cv := (hRx 1 (by kernel_rfl)).1
      have h2 : vs 2 = .int .i64 nv := (hRx 2 (by kernel_rfl)).1
      have h3 : vs 3 = p := (hRx 3 (by kernel_rfl)).1
      have H4 := (hRx 4 (by kernel_rfl)).1
      obtain ⟨a4, c4, h4⟩ := H4
      have h5 : vs 5 = .int .i64 nv := (hRx 5 (by kernel_rfl)).1
      have h6 : vs 6 = .bool false := (hRx 6 (by kernel_rfl)).1
      have h7 : vs 7 = .bool false := (hRx 7 (by kernel_rfl)).1
      have h8 : vs 8 = .pointer (some ⟨gs, 2, none⟩) := (hRx 8 (by kernel_rfl)).1
      have h9 : vs 9 = .slice aa na ca := (hRx 9 (by kernel_rfl)).1
      have h10 : vs 10 = .int .i64 na := (hRx 10 (by kernel_rfl)).1
      have h11 : vs 11 = p := (hRx 11 (by kernel_rfl)).1
      have H12 := (hRx 12 (by kernel_rfl)).1
      obtain ⟨a12, c12, h12⟩ := H12
      have h13 : vs 13 = .int .i64 m := (hRx 13 (by kernel_rfl)).1
      have h14 : vs 14 = .bool true := (hRx 14 (by kernel_rfl)).1
      have h15 : vs 15 = .bool true := (hRx 15 (by kernel_rfl)).1
      simp only [fillD, Act.put, List.setIfInBounds_toArray, List.set_cons_zero, List.set_cons_succ, h0, h1, h2, h3, h4, h5, h6, h7, h8, h9, h10, h11, h12, h13, h14, h15]
      clear hRx hdx
      have hb := below_drew_left hbx
      have HB2 := hid (below_next HBO.out hb)
      refine wpAny_one (i := 16) (by kernel_rfl) rfl (fun K hK => ?_)
      go_simp
      refine hK.out _ _ ?_
      clear hK
      refine wpAny_done (by kernel_rfl) ?_ _
      go_wp2
      (try simp only [Exit.inBlock, Exit.then])
      (try rw [Exit.noGoto_ret])
      go_ret
      exact ⟨by rw [HW.out]; rfl, HB2.out⟩
  subst h2
  have HW := hid (show fitsS false nv na nv na = 0 by unfold fitsS; rw [if_neg (by simp), if_neg (by simp)])
  go_enter Tryz.func47, Tryz.ntmps47
  go_upto_region 1 with fail
  generalize w.alloc (.cells #[.float .f64 om, .slice av nv cv, .slice aa na ca] 50) = w1 at *
  obtain ⟨gs, hgs⟩ : ∃ gs, w.heap.size = gs := ⟨_, rfl⟩
  rw [hgs] at HS ⊢
  clear hgs
  go_upto_region 3 with (go_at_call 34; refine (missing_any _ l _ HP.out HG.out.nm).mono ?_; rintro e w' ⟨rfl, rfl⟩; rw [HQ.out])
  refine wp_region_any (by kernel_rfl) ?_
  change wpAny _ _ _ _ _ _ _ (World.drew _)
  refine wpAny_makersD [⟨some 9, 0, []⟩, ⟨some 10, 1, []⟩, ⟨some 11, 2, []⟩, ⟨some 12, 3, []⟩, ⟨some 13, 4, []⟩, ⟨some 14, 5, []⟩, ⟨some 15, 6, []⟩, ⟨some 16, 7, []⟩, ⟨some 17, 8, []⟩, ⟨some 18, 9, []⟩, ⟨some 19, 10, []⟩, ⟨some 20, 11, []⟩, ⟨some 21, 12, []⟩, ⟨some 22, 13, []⟩, ⟨some 23, 14, []⟩, ⟨some 24, 15, []⟩]
    (fun w' => w'.heap[gs]? = some (.cells #[.float .f64 om, .slice av nv cv, .slice aa na ca] 50 (0, 0)) ∧ NN w' p l)
    (fun oq v _ _ _ _ => match oq with | 0 => v = .pointer (some ⟨gs, 1, none⟩) | 1 => v = .slice av nv cv | 2 => v = .int .i64 nv | 3 => v = p | 4 => ∃ a c, v = .slice a nv c | 5 => v = .int .i64 nv | 6 => v = .bool false | 7 => v = .bool false | 8 => v = .pointer (some ⟨gs, 2, none⟩) | 9 => v = .slice aa na ca | 10 => v = .int .i64 na | 11 => v = p | 12 => ∃ a c, v = .slice a na c | 13 => v = .int .i64 na | 14 => v = .bool false | 15 => v = .bool false | _ => True) (by kernel_rfl) ?hSm (fun _ _ hb h => ⟨heap_next hb h.1, h.2.below' hb⟩) (fun _ _ _ _ _ _ _ _ _ h => h) ?hopm ?hendm
  case hSm => exact ⟨heap_next (Below.refl _ _).drew HS.out, HP.out.below (Below.refl _ _).drew (Nat.le_refl _)⟩
  case hopm =>
    delta Owed
    simp only [fillD, Act.put, List.setIfInBounds_toArray, List.set_cons_zero, List.set_cons_succ]
    refine Each.cons rfl ?_ (Each.cons rfl ?_ (Each.cons rfl ?_ (Each.cons rfl ?_ (Each.cons rfl ?_ (Each.cons rfl ?_ (Each.cons rfl ?_ (Each.cons rfl ?_ (Each.cons rfl ?_ (Each.cons rfl ?_ (Each.cons rfl ?_ (Each.cons rfl ?_ (Each.cons rfl ?_ (Each.cons rfl ?_ (Each.cons rfl ?_ (Each.cons rfl ?_ Each.nil)))))))))))))))
    · intro vs w2 hb2 hS2 hR2 K hK
      simp only [List.set_cons_zero, List.set_cons_succ] at hK ⊢
      go_simp
      exact hK.out _ _ (Below.refl _ _) rfl
    · intro vs w2 hb2 hS2 hR2 K hK
      have h0 : vs 0 = .pointer (some ⟨gs, 1, none⟩) := by obtain ⟨_, _, _, h⟩ := hR2 0 (by kernel_rfl); exact h
      simp only [List.set_cons_zero, List.set_cons_succ] at hK ⊢
      have k0 := (cells_ofS hS2.1).1 1 _ rfl
      have k1 := (cells_ofS hS2.1).1 2 _ rfl
      simp only [h0] at hK ⊢
      go_simp
      exact hK.out _ _ (Below.refl _ _) rfl
    · intro vs w2 hb2 hS2 hR2 K hK
      have h1 : vs 1 = .slice av nv cv := by obtain ⟨_, _, _, h⟩ := hR2 1 (by kernel_rfl); exact h
      simp only [List.set_cons_zero, List.set_cons_succ] at hK ⊢
      simp only [h1] at hK ⊢
      go_simp
      exact hK.out _ _ (Below.refl _ _) rfl
    · intro vs w2 hb2 hS2 hR2 K hK
      simp only [List.set_cons_zero, List.set_cons_succ] at hK ⊢
      go_simp
      exact hK.out _ _ (Below.refl _ _) rfl
    · intro vs w2 hb2 hS2 hR2 K hK
      have h3 : vs 3 = p := by obtain ⟨_, _, _, h⟩ := hR2 3 (by kernel_rfl); exact h
      simp only [List.set_cons_zero, List.set_cons_succ] at hK ⊢
      simp only [h3] at hK ⊢
      rw [if_pos (by rfl)]
      go_wp2_with (go_at_call 74; refine (nnodes_any p l _ hS2.2 (by have := HG.out.len; omega)).mono ?_; rintro e w3 ⟨v, xs, rfl, hown, _, hb⟩; obtain ⟨ar, cr, rfl⟩ := (IsSl.of_own hown).form; clear hown; rw [HK.out])
      exact hK.out _ _ hb ⟨ar, cr, rfl⟩
    · intro vs w2 hb2 hS2 hR2 K hK
      obtain ⟨_, _, _, H4⟩ := hR2 4 (by kernel_rfl)
      obtain ⟨a4, c4, h4⟩ := H4
      simp only [List.set_cons_zero, List.set_cons_succ] at hK ⊢
      simp only [h4] at hK ⊢
      go_simp
      exact hK.out _ _ (Below.refl _ _) rfl
    · intro vs w2 hb2 hS2 hR2 K hK
      have h2 : vs 2 = .int .i64 nv := by obtain ⟨_, _, _, h⟩ := hR2 2 (by kernel_rfl); exact h
      have h5 : vs 5 = .int .i64 nv := by obtain ⟨_, _, _, h⟩ := hR2 5 (by kernel_rfl); exact h
      simp only [List.set_cons_zero, List.set_cons_succ] at hK ⊢
      simp only [h2, h5] at hK ⊢
      go_simp
      exact hK.out _ _ (Below.refl _ _) rfl
    · intro vs w2 hb2 hS2 hR2 K hK
      have h6 : vs 6 = .bool false := by obtain ⟨_, _, _, h⟩ := hR2 6 (by kernel_rfl); exact h
      simp only [List.set_cons_zero, List.set_cons_succ] at hK ⊢
      simp only [h6] at hK ⊢
      go_simp
      exact hK.out _ _ (Below.refl _ _) rfl
    · intro vs w2 hb2 hS2 hR2 K hK
      have h7 : vs 7 = .bool false := by obtain ⟨_, _, _, h⟩ := hR2 7 (by kernel_rfl); exact h
      simp only [List.set_cons_zero, List.set_cons_succ] at hK ⊢
      simp only [h7] at hK ⊢
      rw [if_pos (by rfl)]
      go_simp
      exact hK.out _ _ (Below.refl _ _) rfl
    · intro vs w2 hb2 hS2 hR2 K hK
      have h7 : vs 7 = .bool false := by obtain ⟨_, _, _, h⟩ := hR2 7 (by kernel_rfl); exact h
      have h8 : vs 8 = .pointer (some ⟨gs, 2, none⟩) := by obtain ⟨_, _, _, h⟩ := hR2 8 (by kernel_rfl); exact h
      simp only [List.set_cons_zero, List.set_cons_succ] at hK ⊢
      have k0 := (cells_ofS hS2.1).1 1 _ rfl
      have k1 := (cells_ofS hS2.1).1 2 _ rfl
      simp only [h7, h8] at hK ⊢
      rw [if_pos (by rfl)]
      go_simp
      exact hK.out _ _ (Below.refl _ _) rfl
    · intro vs w2 hb2 hS2 hR2 K hK
      have h7 : vs 7 = .bool false := by obtain ⟨_, _, _, h⟩ := hR2 7 (by kernel_rfl); exact h
      have h9 : vs 9 = .slice aa na ca := by obtain ⟨_, _, _, h⟩ := hR2 9 (by kernel_rfl); exact h
      simp only [List.set_cons_zero, List.set_cons_succ] at hK ⊢
      simp only [h7, h9] at hK ⊢
      rw [if_pos (by rfl)]
      go_simp
      exact hK.out _ _ (Below.refl _ _) rfl
    · intro vs w2 hb2 hS2 hR2 K hK
      have h7 : vs 7 = .bool false := by obtain ⟨_, _, _, h⟩ := hR2 7 (by kernel_rfl); exact h
      simp only [List.set_cons_zero, List.set_cons_succ] at hK ⊢
      simp only [h7] at hK ⊢
      rw [if_pos (by rfl)]
      go_simp
      exact hK.out _ _ (Below.refl _ _) rfl
    · intro vs w2 hb2 hS2 hR2 K hK
      have h7 : vs 7 = .bool false := by obtain ⟨_, _, _, h⟩ := hR2 7 (by kernel_rfl); exact h
      have h11 : vs 11 = p := by obtain ⟨_, _, _, h⟩ := hR2 11 (by kernel_rfl); exact h
      simp only [List.set_cons_zero, List.set_cons_succ] at hK ⊢
      simp only [h7, h11] at hK ⊢
      rw [if_pos (by rfl)]
      go_wp2_with (go_at_call 75; refine (nbranches_any p l _ hS2.2 (by have := HG.out.len; omega)).mono ?_; rintro e w3 ⟨v, xs, rfl, hown, _, hb⟩; obtain ⟨ar, cr, rfl⟩ := (IsSl.of_own hown).form; clear hown; rw [HM.out])
      exact hK.out _ _ hb ⟨ar, cr, rfl⟩
    · intro vs w2 hb2 hS2 hR2 K hK
      have h7 : vs 7 = .bool false := by obtain ⟨_, _, _, h⟩ := hR2 7 (by kernel_rfl); exact h
      obtain ⟨_, _, _, H12⟩ := hR2 12 (by kernel_rfl)
      obtain ⟨a12, c12, h12⟩ := H12
      simp only [List.set_cons_zero, List.set_cons_succ] at hK ⊢
      simp only [h7, h12] at hK ⊢
      rw [if_pos (by rfl)]
      go_simp
      exact hK.out _ _ (Below.refl _ _) rfl
    · intro vs w2 hb2 hS2 hR2 K hK
      have h7 : vs 7 = .bool false := by obtain ⟨_, _, _, h⟩ := hR2 7 (by kernel_rfl); exact h
      have h10 : vs 10 = .int .i64 na := by obtain ⟨_, _, _, h⟩ := hR2 10 (by kernel_rfl); exact h
      have h13 : vs 13 = .int .i64 na := by obtain ⟨_, _, _, h⟩ := hR2 13 (by kernel_rfl); exact h
      simp only [List.set_cons_zero, List.set_cons_succ] at hK ⊢
      simp only [h7, h10, h13] at hK ⊢
      rw [if_pos (by rfl)]
      go_simp
      exact hK.out _ _ (Below.refl _ _) rfl
    · intro vs w2 hb2 hS2 hR2 K hK
      have h7 : vs 7 = .bool false := by obtain ⟨_, _, _, h⟩ := hR2 7 (by kernel_rfl); exact h
      have h14 : vs 14 = .bool false := by obtain ⟨_, _, _, h⟩ := hR2 14 (by kernel_rfl); exact h
      simp only [List.set_cons_zero, List.set_cons_succ] at hK ⊢
      simp only [h7, h14] at hK ⊢
      go_simp
      exact hK.out _ _ (Below.refl _ _) rfl
  case hendm =>
    intro vs wx lo hiv hbx hSx hRx hdx
    have h0 : vs 0 = .pointer (some ⟨gs, 1, none⟩) := (hRx 0 (by kernel_rfl)).1
    have h1 : vs 1 = .slice av nv cv := (hRx 1 (by kernel_rfl)).1
    have h2 : vs 2 = .int .i64 nv := (hRx 2 (by kernel_rfl)).1
    have h3 : vs 3 = p := (hRx 3 (by kernel_rfl)).1
    have H4 := (hRx 4 (by kernel_rfl)).1
    obtain ⟨a4, c4, h4⟩ := H4
    have h5 : vs 5 = .int .i64 nv := (hRx 5 (by kernel_rfl)).1
    have h6 : vs 6 = .bool false := (hRx 6 (by kernel_rfl)).1
    have h7 : vs 7 = .bool false := (hRx 7 (by kernel_rfl)).1
    have h8 : vs 8 = .pointer (some ⟨gs, 2, none⟩) := (hRx 8 (by kernel_rfl)).1
    have h9 : vs 9 = .slice aa na ca := (hRx 9 (by kernel_rfl)).1
    have h10 : vs 10 = .int .i64 na := (hRx 10 (by kernel_rfl)).1
    have h11 : vs 11 = p := (hRx 11 (by kernel_rfl)).1
    have H12 := (hRx 12 (by kernel_rfl)).1
    obtain ⟨a12, c12, h12⟩ := H12
    have h13 : vs 13 = .int .i64 na := (hRx 13 (by kernel_rfl)).1
    have h14 : vs 14 = .bool false := (hRx 14 (by kernel_rfl)).1
    have h15 : vs 15 = .bool false := (hRx 15 (by kernel_rfl)).1
    simp only [fillD, Act.put, List.setIfInBounds_toArray, List.set_cons_zero, List.set_cons_succ, h0, h1, h2, h3, h4, h5, h6, h7, h8, h9, h10, h11, h12, h13, h14, h15]
    clear hRx hdx
    have hb := below_drew_left hbx
    have HB2 := hid (below_next HBO.out hb)
    refine wpAny_one (i := 16) (by kernel_rfl) rfl (fun K hK => ?_)
    go_simp
    refine hK.out _ _ ?_
    clear hK
    refine wpAny_done (by kernel_rfl) ?_ _
    go_wp2
    (try simp only [Exit.inBlock, Exit.then])
    (try rw [Exit.noGoto_ret])
    go_ret
    exact ⟨by rw [HW.out]; rfl, HB2.out⟩
set_option maxRecDepth 100000 in
set_option maxHeartbeats 400000 in
theorem at_any (f : FuncId) (cap v : Value) (j : Nat) (b : Bool) (xs : List Cx) (s : ByteArray) (w : World) (hv : IsSl w 1 v xs.length (xs.map mkC)) (hj : b = true → j < xs.length)
    (hcl : ∀ (args : Array Value) (w' : World), (callFunc f args).run Tryz.prog w' = .ok (.enter f args) w')
    (hf : Calls Tryz.prog f #[cap, .string s] w fun e w'' => e = .returned (.tuple #[.int .i64 j, .bool b]) ∧ w = w'') :
    Calls Tryz.prog 48 #[.func (.func f) #[cap] #[], v, .string s] w fun e w' => e = .returned (.tuple #[mkC (if b = true then xs.getD j (0, 0) else (0, 0)), .bool b]) ∧ Below w.heap.size w w' := by
  obtain ⟨i0, hi, hz0, hz1, hz2⟩ := info_parts infoC
  obtain ⟨a, c, rfl⟩ := hv.form
  have HF := hid hf
  clear hf
  cases b
  · go_enter Tryz.func48, Tryz.ntmps48
    go_wp2_with (first | (refine HF.out.mono ?_; rintro e w' ⟨rfl, rfl⟩) | (go_simp; refine HF.out.mono ?_; rintro e w' ⟨rfl, rfl⟩))
    (try rw [Exit.noGoto_ret])
    refine bodyPost_ret (v := .tuple #[.complex .f64 0 0, .bool false]) ?_ rfl ⟨rfl, Below.refl _ _⟩
    rw [results_tmp2 rfl]; rfl
  · obtain ⟨g, o, x0, hidx, hg, hc, hx0⟩ := IsSl.at1 Tryz.underlying47 hi hz1 hv (hj rfl)
    obtain ⟨x, hx, rfl⟩ := map_getElem? hx0
    clear hj
    have HX := hid (show xs.getD j (0, 0) = x by rw [List.getD_eq_getElem?_getD, hx]; rfl)
    unfold mkC at hc
    clear hx hx0
    go_enter Tryz.func48, Tryz.ntmps48
    go_wp2_with (first | (refine HF.out.mono ?_; rintro e w' ⟨rfl, rfl⟩) | (go_simp; refine HF.out.mono ?_; rintro e w' ⟨rfl, rfl⟩))
    (try rw [Exit.noGoto_ret])
    refine bodyPost_ret (v := .tuple #[mkC x, .bool true]) ?_ rfl ⟨by rw [← HX.out]; simp, Below.refl _ _⟩
    rw [results_tmp2 rfl]; rfl
theorem enter_Place (args : Array Value) (w : World) : (callFunc 49 args).run Tryz.prog w = .ok (.enter 49 args) w := by
  have h : (Tryz.f49.name == "runtime.NumGoroutine") = false := by kernel_rfl
  have h2 : Tryz.f49.body.isNone = false := by kernel_rfl
  simp only [callFunc, Sem.run_bind, run_program, Result.andThen_ok, Tryz.func49, h, h2, Bool.false_eq_true, if_false, Sem.run_pure]
/-- A node's volts of a solution; the error. -/
def vltS (b : Bool) (l : List El) (xs : List Cx) (na : Nat) (t : ByteArray) : Cx × Int :=
  if fitsS b xs.length na (nds l).length (brs l).length ≠ 0 then ((0, 0), fitsS b xs.length na (nds l).length (brs l).length)
  else if has (nds l) t = true then (xs.getD (plI (nds l) t).toNat (0, 0), 0) else if t.toList = [48] then ((0, 0), 0) else ((0, 0), 10)
theorem fits_zero {b : Bool} {nv na k m : Nat} (h : fitsS b nv na k m = 0) : b = false ∧ nv = k ∧ na = m := by
  unfold fitsS at h
  cases b
  · rw [if_neg (by simp)] at h
    by_cases h2 : nv ≠ k ∨ na ≠ m
    · rw [if_pos h2] at h; cases h
    · exact ⟨rfl, by omega, by omega⟩
  · rw [if_pos rfl] at h; cases h
theorem pl_in2 {l : List ByteArray} {s : ByteArray} (h : has l s = true) : ∃ k : Nat, plI l s = (k : Int) ∧ k < l.length := by
  refine ⟨l.findIdx fun u => u.toList == s.toList, by unfold plI; rw [if_pos h], ?_⟩
  rw [List.findIdx_lt_length]
  obtain ⟨u, hu, h2⟩ := List.any_eq_true.1 h
  exact ⟨u, hu, h2⟩
set_option maxRecDepth 100000 in
set_option maxHeartbeats 1000000 in
theorem volt_any (p v va : Value) (l : List El) (om : Nat) (xs ys : List Cx) (t : ByteArray) (w : World) (hp : NN w p l) (hg : NetG l) (hv : IsSl w 1 v xs.length (xs.map mkC)) (ha : IsSl w 1 va ys.length (ys.map mkC)) (ht : t.size ≤ maxLen) :
    Calls Tryz.prog 19 #[p, .agg #[.float .f64 om, v, va], .string t] w (fun e w' => e = .returned (.tuple #[mkC (vltS (noNet p) l xs ys.length t).1, .int .i64 (vltS (noNet p) l xs ys.length t).2]) ∧ Below w.heap.size w w') := by
  obtain ⟨av, cv, rfl⟩ := hv.form
  obtain ⟨aa, ca, rfl⟩ := ha.form
  have hb1 := (Below.refl w.heap.size w).alloc (Nat.le_refl _) (.cells #[.float .f64 om, .slice av xs.length cv, .slice aa ys.length ca] 50)
  have HBO := hid hb1
  have HS := hid (heap_alloc_new w (.cells #[.float .f64 om, .slice av xs.length cv, .slice aa ys.length ca] 50))
  have HP := hid (hp.below hb1 (Nat.le_refl _))
  have HV := hid (hv.below hb1 (Nat.le_refl _))
  have HG := hid hg
  have HTL := hid ht
  clear hp hg hv ha hb1 ht
  obtain ⟨fe, hfe⟩ : ∃ fe, fitsS (noNet p) xs.length ys.length (nds l).length (brs l).length = fe := ⟨_, rfl⟩
  have HFE := hid hfe
  clear hfe
  have START : True := trivial
  go_enter Tryz.func19, Tryz.ntmps19
  go_upto_region 1 with fail
  generalize w.alloc (.cells #[.float .f64 om, .slice av xs.length cv, .slice aa ys.length ca] 50) = w1 at *
  obtain ⟨gs, hgs⟩ : ∃ gs, w.heap.size = gs := ⟨_, rfl⟩
  rw [hgs] at HS ⊢
  clear hgs
  have hbk := block_cells HS.out
  have s0 := hbk.1 0 _ rfl
  have s1 := hbk.1 1 _ rfl
  have s2 := hbk.1 2 _ rfl
  clear hbk
  go_upto_region 2 with (go_at_call 47; refine (fits_any2 p l om _ _ _ _ _ _ _ HP.out HG.out).mono ?_; rintro e w2 ⟨rfl, hb⟩; rw [HFE.out]; have HP2 := hid (HP.out.below' hb); have HS2 := hid (heap_later2 hb HS.out); have HV2 := hid (HV.out.below hb (Nat.le_refl _)); have HB2 := hid (below_next HBO.out hb); clear hb)
  clear s0 s1 s2 HP HS HV HBO START
  have hbk := block_cells HS2.out
  have s1 := hbk.1 1 _ rfl
  clear hbk
  by_cases h0 : fe = 0
  rotate_left
  · have hb0 : (fe == 0) = false := by simpa using h0
    have hb1 : (fe != 0) = true := by simpa using h0
    have HW := hid (show vltS (noNet p) l xs ys.length t = ((0, 0), fe) by unfold vltS; rw [HFE.out, if_pos h0])
    go_wp2
    (try rw [Exit.noGoto_ret])
    refine bodyPost_ret (v := .tuple #[.complex .f64 0 0, .int .i64 fe]) ?_ rfl ⟨by rw [HW.out], HB2.out⟩
    rw [results_tmp2 rfl]; rfl
  subst h0
  obtain ⟨hn, hk, hm⟩ := fits_zero HFE.out
  have HK := hid hk
  clear hn hk hm
  cases hh : has (nds l) t
  · have HH := hid hh
    by_cases hz : t.toList = [48]
    · have HW := hid (show vltS (noNet p) l xs ys.length t = ((0, 0), 0) by unfold vltS; rw [HFE.out, if_neg (fun h => h rfl), if_neg (by rw [hh]; simp), if_pos hz])
      clear hh
      go_upto_region 5 with (go_at_call 48; refine (at_any _ _ _ 0 false xs _ _ HV2.out (fun h => by cases h) enter_Place ((nplace_any p l t _ HP2.out HTL.out).mono (by rintro e w' ⟨rfl, rfl⟩; exact ⟨by rw [HH.out, plI_no HH.out]; rfl, rfl⟩))).mono ?_; rintro e w3 ⟨rfl, hb⟩; have HB3 := hid (below_next HB2.out hb); clear hb)
      clear s1
      have hz1 : (t.toList == [48]) = true := by rw [hz]; rfl
      go_wp2
      (try rw [Exit.noGoto_ret])
      refine bodyPost_ret (v := .tuple #[.complex .f64 0 0, .int .i64 0]) ?_ rfl ⟨by rw [HW.out], HB3.out⟩
      rw [results_tmp2 rfl]; rfl
    · have HW := hid (show vltS (noNet p) l xs ys.length t = ((0, 0), 10) by unfold vltS; rw [HFE.out, if_neg (fun h => h rfl), if_neg (by rw [hh]; simp), if_neg hz])
      clear hh
      go_upto_region 5 with (go_at_call 48; refine (at_any _ _ _ 0 false xs _ _ HV2.out (fun h => by cases h) enter_Place ((nplace_any p l t _ HP2.out HTL.out).mono (by rintro e w' ⟨rfl, rfl⟩; exact ⟨by rw [HH.out, plI_no HH.out]; rfl, rfl⟩))).mono ?_; rintro e w3 ⟨rfl, hb⟩; have HB3 := hid (below_next HB2.out hb); clear hb)
      clear s1
      have hz1 : (t.toList == [48]) = false := by cases h : (t.toList == [48]) <;> simp_all
      go_wp2
      (try rw [Exit.noGoto_ret])
      refine bodyPost_ret (v := .tuple #[.complex .f64 0 0, .int .i64 10]) ?_ rfl ⟨by rw [HW.out], HB3.out⟩
      rw [results_tmp2 rfl]; rfl
  · obtain ⟨j, hj, hj2⟩ := pl_in2 hh
    have HJ := hid hj
    have HH := hid hh
    have HJ2 := hid (show j < xs.length by rw [HK.out]; exact hj2)
    have HW := hid (show vltS (noNet p) l xs ys.length t = (xs.getD j (0, 0), 0) by unfold vltS; rw [HFE.out, if_neg (fun h => h rfl), if_pos hh, hj]; simp)
    obtain ⟨z, hz⟩ : ∃ z, xs.getD j (0, 0) = z := ⟨_, rfl⟩
    have HZ := hid hz
    clear hh hj hj2 hz
    go_upto_region 5 with (go_at_call 48; refine (at_any _ _ _ j true xs _ _ HV2.out (fun _ => HJ2.out) enter_Place ((nplace_any p l t _ HP2.out HTL.out).mono (by rintro e w' ⟨rfl, rfl⟩; exact ⟨by rw [HH.out, HJ.out], rfl⟩))).mono ?_; rintro e w3 ⟨rfl, hb⟩; rw [if_pos rfl, HZ.out]; have HB3 := hid (below_next HB2.out hb); clear hb)
    clear s1
    go_wp2
    (try rw [Exit.noGoto_ret])
    refine bodyPost_ret (v := .tuple #[mkC z, .int .i64 0]) ?_ rfl ⟨by rw [HW.out, HZ.out], HB3.out⟩
    rw [results_tmp2 rfl]; rfl
end Go.Proofs.YtjeedckmkicnoaaGreatDoor
