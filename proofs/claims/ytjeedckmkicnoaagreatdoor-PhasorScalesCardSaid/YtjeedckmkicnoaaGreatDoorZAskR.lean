/- a part of the proof of the last text -/
import Derived.Test.YtjeedckmkicnoaaGreatDoorZFits
import Derived.Test.YtjeedckmkicnoaaGreatDoorZMGr1
namespace Go.Proofs.YtjeedckmkicnoaaGreatDoor
set_option linter.all false
set_option maxHeartbeats 4000000
set_option maxRecDepth 100000
open Go.RowKit
theorem find_none {i : Int} {l : List El} {s : ByteArray} (h : (i = -1 ∧ findE l s = none) ∨ ∃ (k : Nat) (x : El), i = (k : Int) ∧ l[k]? = some x ∧ findE l s = some x) (h2 : findE l s = none) : i = -1 := by
  rcases h with ⟨h, _⟩ | ⟨_, _, _, _, h⟩
  · exact h
  · rw [h2] at h; cases h
theorem find_some {i : Int} {l : List El} {s : ByteArray} {y : El} (h : (i = -1 ∧ findE l s = none) ∨ ∃ (k : Nat) (x : El), i = (k : Int) ∧ l[k]? = some x ∧ findE l s = some x) (h2 : findE l s = some y) : ∃ k : Nat, i = (k : Int) := by
  rcases h with ⟨_, h⟩ | ⟨k, _, h, _, _⟩
  · rw [h2] at h; cases h
  · exact ⟨k, h⟩
theorem ref_net (p : Value) {l : List El} {w : World} (h : RN w p l) : noRef p = noNet p := by
  rcases h with ⟨rfl, rfl⟩ | ⟨g, v, rfl, _⟩ <;> rfl
set_option maxRecDepth 100000 in
set_option maxHeartbeats 1000000 in
theorem rfits_any (p : Value) (l : List El) (om nv cv na ca : Nat) (av aa : Option Addr) (w : World) (hp : RN w p l) (hg : l.length ≤ 256) :
    Calls Tryz.prog 53 #[p, .agg #[.float .f64 om, .slice av nv cv, .slice aa na ca]] w (fun e w' => e = .returned (.int .i64 (fitsS (noRef p) nv na (nds l).length (brs l).length)) ∧ Below w.heap.size w w') := by
  have hb1 := (Below.refl w.heap.size w).alloc (Nat.le_refl _) (.cells #[.float .f64 om, .slice av nv cv, .slice aa na ca] 50)
  have HBO := hid hb1
  have HS := hid (heap_alloc_new w (.cells #[.float .f64 om, .slice av nv cv, .slice aa na ca] 50))
  have HP := hid (hp.below hb1 (Nat.le_refl _))
  have HG := hid hg
  obtain ⟨k, hk⟩ : ∃ k, (nds l).length = k := ⟨_, rfl⟩
  obtain ⟨m, hm⟩ : ∃ m, (brs l).length = m := ⟨_, rfl⟩
  rw [hk, hm]
  have HK := hid hk
  have HM := hid hm
  clear hp hg hb1 hk hm
  cases hq : noRef p
  rotate_left
  · have HQ := hid hq
    clear hq
    go_enter Tryz.func53, Tryz.ntmps53
    go_upto_region 1 with fail
    generalize w.alloc (.cells #[.float .f64 om, .slice av nv cv, .slice aa na ca] 50) = w1 at *
    go_wp2_with (go_at_call 38; refine (rnone20_any _ l _ HP.out).mono ?_; rintro e w' ⟨rfl, rfl⟩; rw [HQ.out])
    (try simp only [Exit.inBlock, Exit.then])
    (try rw [Exit.noGoto_ret])
    go_ret
    exact ⟨by unfold fitsS; rw [if_pos rfl]; rfl, HBO.out⟩
  have HQ := hid hq
  clear hq
  by_cases h1 : nv = k
  rotate_left
  · have hb1 := i_ne h1
    have HW := hid (show fitsS false nv na k m = 4 by unfold fitsS; rw [if_neg (by simp), if_pos (.inl h1)])
    clear h1
    go_enter Tryz.func53, Tryz.ntmps53
    go_upto_region 1 with fail
    generalize w.alloc (.cells #[.float .f64 om, .slice av nv cv, .slice aa na ca] 50) = w1 at *
    obtain ⟨gs, hgs⟩ : ∃ gs, w.heap.size = gs := ⟨_, rfl⟩
    rw [hgs] at HS ⊢
    clear hgs
    go_upto_region 3 with (go_at_call 38; refine (rnone20_any _ l _ HP.out).mono ?_; rintro e w' ⟨rfl, rfl⟩; rw [HQ.out])
    refine wp_region_any (by kernel_rfl) ?_
    change wpAny _ _ _ _ _ _ _ (World.drew _)
    refine wpAny_makersD [⟨some 7, 0, []⟩, ⟨some 8, 1, []⟩, ⟨some 9, 2, []⟩, ⟨some 10, 3, []⟩, ⟨some 11, 4, []⟩, ⟨some 12, 5, []⟩, ⟨some 13, 6, []⟩, ⟨some 14, 7, []⟩, ⟨some 15, 8, []⟩, ⟨some 16, 9, []⟩, ⟨some 17, 10, []⟩, ⟨some 18, 11, []⟩, ⟨some 19, 12, []⟩, ⟨some 20, 13, []⟩, ⟨some 21, 14, []⟩, ⟨some 22, 15, []⟩]
      (fun w' => w'.heap[gs]? = some (.cells #[.float .f64 om, .slice av nv cv, .slice aa na ca] 50 (0, 0)) ∧ RN w' p l)
      (fun oq v _ _ _ _ => match oq with | 0 => v = .pointer (some ⟨gs, 1, none⟩) | 1 => v = .slice av nv cv | 2 => v = .int .i64 nv | 3 => v = p | 4 => ∃ a c, v = .slice a k c | 5 => v = .int .i64 k | 6 => v = .bool true | 7 => v = .bool true | 8 => v = undef | 9 => v = undef | 10 => v = undef | 11 => v = undef | 12 => v = undef | 13 => v = undef | 14 => v = undef | 15 => v = .bool true | _ => True) (by kernel_rfl) ?hSm (fun _ _ hb h => ⟨heap_next hb h.1, h.2.below' hb⟩) (fun _ _ _ _ _ _ _ _ _ h => h) ?hopm ?hendm
    case hSm => exact ⟨heap_next (Below.refl _ _).drew HS.out, HP.out.below (Below.refl _ _).drew (Nat.le_refl _)⟩
    case hopm =>
      delta Owed
      simp only [fillD, Act.put, List.setIfInBounds_toArray, List.set_cons_zero, List.set_cons_succ]
      refine Each.cons rfl ?_ (Each.cons rfl ?_ (Each.cons rfl ?_ (Each.cons rfl ?_ (Each.cons rfl ?_ (Each.cons rfl ?_ (Each.cons rfl ?_ (Each.cons rfl ?_ (Each.cons rfl ?_ (Each.cons rfl ?_ (Each.cons rfl ?_ (Each.cons rfl ?_ (Each.cons rfl ?_ (Each.cons rfl ?_ (Each.cons rfl ?_ (Each.cons rfl ?_ Each.nil)))))))))))))))
      · intro vs w2 hb2 hS2 hR2 K hK
        simp only [List.set_cons_zero, List.set_cons_succ] at hK ⊢
        go_simp
        exact hK.out _ _ (Below.refl _ _) rfl
      · intro vs w2 hb2 hS2 hR2 K hK
        have h0 : vs 0 = .pointer (some ⟨gs, 1, none⟩) := by obtain ⟨_, _, _, h⟩ := hR2 0 (by kernel_rfl); exact h
        simp only [List.set_cons_zero, List.set_cons_succ] at hK ⊢
        have k0 := (cells_ofS hS2.1).1 1 _ rfl
        have k1 := (cells_ofS hS2.1).1 2 _ rfl
        simp only [h0] at hK ⊢
        go_simp
        exact hK.out _ _ (Below.refl _ _) rfl
      · intro vs w2 hb2 hS2 hR2 K hK
        have h1 : vs 1 = .slice av nv cv := by obtain ⟨_, _, _, h⟩ := hR2 1 (by kernel_rfl); exact h
        simp only [List.set_cons_zero, List.set_cons_succ] at hK ⊢
        simp only [h1] at hK ⊢
        go_simp
        exact hK.out _ _ (Below.refl _ _) rfl
      · intro vs w2 hb2 hS2 hR2 K hK
        simp only [List.set_cons_zero, List.set_cons_succ] at hK ⊢
        go_simp
        exact hK.out _ _ (Below.refl _ _) rfl
      · intro vs w2 hb2 hS2 hR2 K hK
        have h3 : vs 3 = p := by obtain ⟨_, _, _, h⟩ := hR2 3 (by kernel_rfl); exact h
        simp only [List.set_cons_zero, List.set_cons_succ] at hK ⊢
        simp only [h3] at hK ⊢
        rw [if_pos (by rfl)]
        go_wp2_with (go_at_call 54; refine (rnodes_any p l _ hS2.2 (by have := HG.out; omega)).mono ?_; rintro e w3 ⟨v, xs, rfl, hown, _, hb⟩; obtain ⟨ar, cr, rfl⟩ := (IsSl.of_own hown).form; clear hown; rw [HK.out])
        exact hK.out _ _ hb ⟨ar, cr, rfl⟩
      · intro vs w2 hb2 hS2 hR2 K hK
        obtain ⟨_, _, _, H4⟩ := hR2 4 (by kernel_rfl)
        obtain ⟨a4, c4, h4⟩ := H4
        simp only [List.set_cons_zero, List.set_cons_succ] at hK ⊢
        simp only [h4] at hK ⊢
        go_simp
        exact hK.out _ _ (Below.refl _ _) rfl
      · intro vs w2 hb2 hS2 hR2 K hK
        have h2 : vs 2 = .int .i64 nv := by obtain ⟨_, _, _, h⟩ := hR2 2 (by kernel_rfl); exact h
        have h5 : vs 5 = .int .i64 k := by obtain ⟨_, _, _, h⟩ := hR2 5 (by kernel_rfl); exact h
        simp only [List.set_cons_zero, List.set_cons_succ] at hK ⊢
        simp only [h2, h5] at hK ⊢
        go_simp
        exact hK.out _ _ (Below.refl _ _) rfl
      · intro vs w2 hb2 hS2 hR2 K hK
        have h6 : vs 6 = .bool true := by obtain ⟨_, _, _, h⟩ := hR2 6 (by kernel_rfl); exact h
        simp only [List.set_cons_zero, List.set_cons_succ] at hK ⊢
        simp only [h6] at hK ⊢
        go_simp
        exact hK.out _ _ (Below.refl _ _) rfl
      · intro vs w2 hb2 hS2 hR2 K hK
        have h7 : vs 7 = .bool true := by obtain ⟨_, _, _, h⟩ := hR2 7 (by kernel_rfl); exact h
        simp only [List.set_cons_zero, List.set_cons_succ] at hK ⊢
        simp only [h7] at hK ⊢
        rw [if_neg (by intro hh; exact absurd (show false = true from hh) (by decide))]
        exact hK.out _ _ (Below.refl _ _) rfl
      · intro vs w2 hb2 hS2 hR2 K hK
        have h7 : vs 7 = .bool true := by obtain ⟨_, _, _, h⟩ := hR2 7 (by kernel_rfl); exact h
        have h8 : vs 8 = undef := by obtain ⟨_, _, _, h⟩ := hR2 8 (by kernel_rfl); exact h
        simp only [List.set_cons_zero, List.set_cons_succ] at hK ⊢
        have k0 := (cells_ofS hS2.1).1 1 _ rfl
        have k1 := (cells_ofS hS2.1).1 2 _ rfl
        simp only [h7, h8] at hK ⊢
        rw [if_neg (by intro hh; exact absurd (show false = true from hh) (by decide))]
        exact hK.out _ _ (Below.refl _ _) rfl
      · intro vs w2 hb2 hS2 hR2 K hK
        have h7 : vs 7 = .bool true := by obtain ⟨_, _, _, h⟩ := hR2 7 (by kernel_rfl); exact h
        have h9 : vs 9 = undef := by obtain ⟨_, _, _, h⟩ := hR2 9 (by kernel_rfl); exact h
        simp only [List.set_cons_zero, List.set_cons_succ] at hK ⊢
        simp only [h7, h9] at hK ⊢
        rw [if_neg (by intro hh; exact absurd (show false = true from hh) (by decide))]
        exact hK.out _ _ (Below.refl _ _) rfl
      · intro vs w2 hb2 hS2 hR2 K hK
        have h7 : vs 7 = .bool true := by obtain ⟨_, _, _, h⟩ := hR2 7 (by kernel_rfl); exact h
        simp only [List.set_cons_zero, List.set_cons_succ] at hK ⊢
        simp only [h7] at hK ⊢
        rw [if_neg (by intro hh; exact absurd (show false = true from hh) (by decide))]
        exact hK.out _ _ (Below.refl _ _) rfl
      · intro vs w2 hb2 hS2 hR2 K hK
        have h7 : vs 7 = .bool true := by obtain ⟨_, _, _, h⟩ := hR2 7 (by kernel_rfl); exact h
        have h11 : vs 11 = undef := by obtain ⟨_, _, _, h⟩ := hR2 11 (by kernel_rfl); exact h
        simp only [List.set_cons_zero, List.set_cons_succ] at hK ⊢
        simp only [h7, h11] at hK ⊢
        rw [if_neg (by intro hh; exact absurd (show false = true from hh) (by decide))]
        exact hK.out _ _ (Below.refl _ _) rfl
      · intro vs w2 hb2 hS2 hR2 K hK
        have h7 : vs 7 = .bool true := by obtain ⟨_, _, _, h⟩ := hR2 7 (by kernel_rfl); exact h
        have h12 : vs 12 = undef := by obtain ⟨_, _, _, h⟩ := hR2 12 (by kernel_rfl); exact h
        simp only [List.set_cons_zero, List.set_cons_succ] at hK ⊢
        simp only [h7, h12] at hK ⊢
        rw [if_neg (by intro hh; exact absurd (show false = true from hh) (by decide))]
        exact hK.out _ _ (Below.refl _ _) rfl
      · intro vs w2 hb2 hS2 hR2 K hK
        have h7 : vs 7 = .bool true := by obtain ⟨_, _, _, h⟩ := hR2 7 (by kernel_rfl); exact h
        have h10 : vs 10 = undef := by obtain ⟨_, _, _, h⟩ := hR2 10 (by kernel_rfl); exact h
        have h13 : vs 13 = undef := by obtain ⟨_, _, _, h⟩ := hR2 13 (by kernel_rfl); exact h
        simp only [List.set_cons_zero, List.set_cons_succ] at hK ⊢
        simp only [h7, h10, h13] at hK ⊢
        rw [if_neg (by intro hh; exact absurd (show false = true from hh) (by decide))]
        exact hK.out _ _ (Below.refl _ _) rfl
      · intro vs w2 hb2 hS2 hR2 K hK
        have h7 : vs 7 = .bool true := by obtain ⟨_, _, _, h⟩ := hR2 7 (by kernel_rfl); exact h
        have h14 : vs 14 = undef := by obtain ⟨_, _, _, h⟩ := hR2 14 (by kernel_rfl); exact h
        simp only [List.set_cons_zero, List.set_cons_succ] at hK ⊢
        simp only [h7, h14] at hK ⊢
        go_simp
        exact hK.out _ _ (Below.refl _ _) rfl
    case hendm =>
      intro vs wx lo hiv hbx hSx hRx hdx
      have h0 : vs 0 = .pointer (some ⟨gs, 1, none⟩) := (hRx 0 (by kernel_rfl)).1
      have h1 : vs 1 = .slice av nv cv := (hRx 1 (by kernel_rfl)).1
      have h2 : vs 2 = .int .i64 nv := (hRx 2 (by kernel_rfl)).1
      have h3 : vs 3 = p := (hRx 3 (by kernel_rfl)).1
      have H4 := (hRx 4 (by kernel_rfl)).1
      obtain ⟨a4, c4, h4⟩ := H4
      have h5 : vs 5 = .int .i64 k := (hRx 5 (by kernel_rfl)).1
      have h6 : vs 6 = .bool true := (hRx 6 (by kernel_rfl)).1
      have h7 : vs 7 = .bool true := (hRx 7 (by kernel_rfl)).1
      have h8 : vs 8 = undef := (hRx 8 (by kernel_rfl)).1
      have h9 : vs 9 = undef := (hRx 9 (by kernel_rfl)).1
      have h10 : vs 10 = undef := (hRx 10 (by kernel_rfl)).1
      have h11 : vs 11 = undef := (hRx 11 (by kernel_rfl)).1
      have h12 : vs 12 = undef := (hRx 12 (by kernel_rfl)).1
      have h13 : vs 13 = undef := (hRx 13 (by kernel_rfl)).1
      have h14 : vs 14 = undef := (hRx 14 (by kernel_rfl)).1
      have h15 : vs 15 = .bool true := (hRx 15 (by kernel_rfl)).1
      simp only [fillD, Act.put, List.setIfInBounds_toArray, List.set_cons_zero, List.set_cons_succ, h0, h1, h2, h3, h4, h5, h6, h7, h8, h9, h10, h11, h12, h13, h14, h15]
      clear hRx hdx
      have hb := below_drew_left hbx
      have HB2 := hid (below_next HBO.out hb)
      refine wpAny_done (by kernel_rfl) ?_ _
      go_wp2
      (try simp only [Exit.inBlock, Exit.then])
      (try rw [Exit.noGoto_ret])
      go_ret
      exact ⟨by rw [HW.out]; rfl, HB2.out⟩
  subst h1
  by_cases h2 : na = m
  rotate_left
  · have hb1 := i_ne h2
    have HW := hid (show fitsS false nv na nv m = 4 by unfold fitsS; rw [if_neg (by simp), if_pos (.inr h2)])
    clear h2
    go_enter Tryz.func53, Tryz.ntmps53
    go_upto_region 1 with fail
    generalize w.alloc (.cells #[.float .f64 om, .slice av nv cv, .slice aa na ca] 50) = w1 at *
    obtain ⟨gs, hgs⟩ : ∃ gs, w.heap.size = gs := ⟨_, rfl⟩
    rw [hgs] at HS ⊢
    clear hgs
    go_upto_region 3 with (go_at_call 38; refine (rnone20_any _ l _ HP.out).mono ?_; rintro e w' ⟨rfl, rfl⟩; rw [HQ.out])
    refine wp_region_any (by kernel_rfl) ?_
    change wpAny _ _ _ _ _ _ _ (World.drew _)
    refine wpAny_makersD [⟨some 7, 0, []⟩, ⟨some 8, 1, []⟩, ⟨some 9, 2, []⟩, ⟨some 10, 3, []⟩, ⟨some 11, 4, []⟩, ⟨some 12, 5, []⟩, ⟨some 13, 6, []⟩, ⟨some 14, 7, []⟩, ⟨some 15, 8, []⟩, ⟨some 16, 9, []⟩, ⟨some 17, 10, []⟩, ⟨some 18, 11, []⟩, ⟨some 19, 12, []⟩, ⟨some 20, 13, []⟩, ⟨some 21, 14, []⟩, ⟨some 22, 15, []⟩]
      (fun w' => w'.heap[gs]? = some (.cells #[.float .f64 om, .slice av nv cv, .slice aa na ca] 50 (0, 0)) ∧ RN w' p l)
      (fun oq v _ _ _ _ => match oq with | 0 => v = .pointer (some ⟨gs, 1, none⟩) | 1 => v = .slice av nv cv | 2 => v = .int .i64 nv | 3 => v = p | 4 => ∃ a c, v = .slice a nv c | 5 => v = .int .i64 nv | 6 => v = .bool false | 7 => v = .bool false | 8 => v = .pointer (some ⟨gs, 2, none⟩) | 9 => v = .slice aa na ca | 10 => v = .int .i64 na | 11 => v = p | 12 => ∃ a c, v = .slice a m c | 13 => v = .int .i64 m | 14 => v = .bool true | 15 => v = .bool true | _ => True) (by kernel_rfl) ?hSm (fun _ _ hb h => ⟨heap_next hb h.1, h.2.below' hb⟩) (fun _ _ _ _ _ _ _ _ _ h => h) ?hopm ?hendm
    case hSm => exact ⟨heap_next (Below.refl _ _).drew HS.out, HP.out.below (Below.refl _ _).drew (Nat.le_refl _)⟩
    case hopm =>
      delta Owed
      simp only [fillD, Act.put, List.setIfInBounds_toArray, List.set_cons_zero, List.set_cons_succ]
      refine Each.cons rfl ?_ (Each.cons rfl ?_ (Each.cons rfl ?_ (Each.cons rfl ?_ (Each.cons rfl ?_ (Each.cons rfl ?_ (Each.cons rfl ?_ (Each.cons rfl ?_ (Each.cons rfl ?_ (Each.cons rfl ?_ (Each.cons rfl ?_ (Each.cons rfl ?_ (Each.cons rfl ?_ (Each.cons rfl ?_ (Each.cons rfl ?_ (Each.cons rfl ?_ Each.nil)))))))))))))))
      · intro vs w2 hb2 hS2 hR2 K hK
        simp only [List.set_cons_zero, List.set_cons_succ] at hK ⊢
        go_simp
        exact hK.out _ _ (Below.refl _ _) rfl
      · intro vs w2 hb2 hS2 hR2 K hK
        have h0 : vs 0 = .pointer (some ⟨gs, 1, none⟩) := by obtain ⟨_, _, _, h⟩ := hR2 0 (by kernel_rfl); exact h
        simp only [List.set_cons_zero, List.set_cons_succ] at hK ⊢
        have k0 := (cells_ofS hS2.1).1 1 _ rfl
        have k1 := (cells_ofS hS2.1).1 2 _ rfl
        simp only [h0] at hK ⊢
        go_simp
        exact hK.out _ _ (Below.refl _ _) rfl
      · intro vs w2 hb2 hS2 hR2 K hK
        have h1 : vs 1 = .slice av nv cv := by obtain ⟨_, _, _, h⟩ := hR2 1 (by kernel_rfl); exact h
        simp only [List.set_cons_zero, List.set_cons_succ] at hK ⊢
        simp only [h1] at hK ⊢
        go_simp
        exact hK.out _ _ (Below.refl _ _) rfl
      · intro vs w2 hb2 hS2 hR2 K hK
        simp only [List.set_cons_zero, List.set_cons_succ] at hK ⊢
        go_simp
        exact hK.out _ _ (Below.refl _ _) rfl
      · intro vs w2 hb2 hS2 hR2 K hK
        have h3 : vs 3 = p := by obtain ⟨_, _, _, h⟩ := hR2 3 (by kernel_rfl); exact h
        simp only [List.set_cons_zero, List.set_cons_succ] at hK ⊢
        simp only [h3] at hK ⊢
        rw [if_pos (by rfl)]
        go_wp2_with (go_at_call 54; refine (rnodes_any p l _ hS2.2 (by have := HG.out; omega)).mono ?_; rintro e w3 ⟨v, xs, rfl, hown, _, hb⟩; obtain ⟨ar, cr, rfl⟩ := (IsSl.of_own hown).form; clear hown; rw [HK.out])
        exact hK.out _ _ hb ⟨ar, cr, rfl⟩
      · intro vs w2 hb2 hS2 hR2 K hK
        obtain ⟨_, _, _, H4⟩ := hR2 4 (by kernel_rfl)
        obtain ⟨a4, c4, h4⟩ := H4
        simp only [List.set_cons_zero, List.set_cons_succ] at hK ⊢
        simp only [h4] at hK ⊢
        go_simp
        exact hK.out _ _ (Below.refl _ _) rfl
      · intro vs w2 hb2 hS2 hR2 K hK
        have h2 : vs 2 = .int .i64 nv := by obtain ⟨_, _, _, h⟩ := hR2 2 (by kernel_rfl); exact h
        have h5 : vs 5 = .int .i64 nv := by obtain ⟨_, _, _, h⟩ := hR2 5 (by kernel_rfl); exact h
        simp only [List.set_cons_zero, List.set_cons_succ] at hK ⊢
        simp only [h2, h5] at hK ⊢
        go_simp
        exact hK.out _ _ (Below.refl _ _) rfl
      · intro vs w2 hb2 hS2 hR2 K hK
        have h6 : vs 6 = .bool false := by obtain ⟨_, _, _, h⟩ := hR2 6 (by kernel_rfl); exact h
        simp only [List.set_cons_zero, List.set_cons_succ] at hK ⊢
        simp only [h6] at hK ⊢
        go_simp
        exact hK.out _ _ (Below.refl _ _) rfl
      · intro vs w2 hb2 hS2 hR2 K hK
        have h7 : vs 7 = .bool false := by obtain ⟨_, _, _, h⟩ := hR2 7 (by kernel_rfl); exact h
        simp only [List.set_cons_zero, List.set_cons_succ] at hK ⊢
        simp only [h7] at hK ⊢
        rw [if_pos (by rfl)]
        go_simp
        exact hK.out _ _ (Below.refl _ _) rfl
      · intro vs w2 hb2 hS2 hR2 K hK
        have h7 : vs 7 = .bool false := by obtain ⟨_, _, _, h⟩ := hR2 7 (by kernel_rfl); exact h
        have h8 : vs 8 = .pointer (some ⟨gs, 2, none⟩) := by obtain ⟨_, _, _, h⟩ := hR2 8 (by kernel_rfl); exact h
        simp only [List.set_cons_zero, List.set_cons_succ] at hK ⊢
        have k0 := (cells_ofS hS2.1).1 1 _ rfl
        have k1 := (cells_ofS hS2.1).1 2 _ rfl
        simp only [h7, h8] at hK ⊢
        rw [if_pos (by rfl)]
        go_simp
        exact hK.out _ _ (Below.refl _ _) rfl
      · intro vs w2 hb2 hS2 hR2 K hK
        have h7 : vs 7 = .bool false := by obtain ⟨_, _, _, h⟩ := hR2 7 (by kernel_rfl); exact h
        have h9 : vs 9 = .slice aa na ca := by obtain ⟨_, _, _, h⟩ := hR2 9 (by kernel_rfl); exact h
        simp only [List.set_cons_zero, List.set_cons_succ] at hK ⊢
        simp only [h7, h9] at hK ⊢
        rw [if_pos (by rfl)]
        go_simp
        exact hK.out _ _ (Below.refl _ _) rfl
      · intro vs w2 hb2 hS2 hR2 K hK
        have h7 : vs 7 = .bool false := by obtain ⟨_, _, _, h⟩ := hR2 7 (by kernel_rfl); exact h
        simp only [List.set_cons_zero, List.set_cons_succ] at hK ⊢
        simp only [h7] at hK ⊢
        rw [if_pos (by rfl)]
        go_simp
        exact hK.out _ _ (Below.refl _ _) rfl
      · intro vs w2 hb2 hS2 hR2 K hK
        have h7 : vs 7 = .bool false := by obtain ⟨_, _, _, h⟩ := hR2 7 (by kernel_rfl); exact h
        have h11 : vs 11 = p := by obtain ⟨_, _, _, h⟩ := hR2 11 (by kernel_rfl); exact h
        simp only [List.set_cons_zero, List.set_cons_succ] at hK ⊢
        simp only [h7, h11] at hK ⊢
        rw [if_pos (by rfl)]
        go_wp2_with (go_at_call 57; refine (rbranches_any p l _ hS2.2 (by have := HG.out; omega)).mono ?_; rintro e w3 ⟨v, xs, rfl, hown, _, hb⟩; obtain ⟨ar, cr, rfl⟩ := (IsSl.of_own hown).form; clear hown; rw [HM.out])
        exact hK.out _ _ hb ⟨ar, cr, rfl⟩
      · intro vs w2 hb2 hS2 hR2 K hK
        have h7 : vs 7 = .bool false := by obtain ⟨_, _, _, h⟩ := hR2 7 (by kernel_rfl); exact h
        obtain ⟨_, _, _, H12⟩ := hR2 12 (by kernel_rfl)
        obtain ⟨a12, c12, h12⟩ := H12
        simp only [List.set_cons_zero, List.set_cons_succ] at hK ⊢
        simp only [h7, h12] at hK ⊢
        rw [if_pos (by rfl)]
        go_simp
        exact hK.out _ _ (Below.refl _ _) rfl
      · intro vs w2 hb2 hS2 hR2 K hK
        have h7 : vs 7 = .bool false := by obtain ⟨_, _, _, h⟩ := hR2 7 (by kernel_rfl); exact h
        have h10 : vs 10 = .int .i64 na := by obtain ⟨_, _, _, h⟩ := hR2 10 (by kernel_rfl); exact h
        have h13 : vs 13 = .int .i64 m := by obtain ⟨_, _, _, h⟩ := hR2 13 (by kernel_rfl); exact h
        simp only [List.set_cons_zero, List.set_cons_succ] at hK ⊢
        simp only [h7, h10, h13] at hK ⊢
        rw [if_pos (by rfl)]
        go_simp
        exact hK.out _ _ (Below.refl _ _) rfl
      · intro vs w2 hb2 hS2 hR2 K hK
        have h7 : vs 7 = .bool false := by obtain ⟨_, _, _, h⟩ := hR2 7 (by kernel_rfl); exact h
        have h14 : vs 14 = .bool true := by obtain ⟨_, _, _, h⟩ := hR2 14 (by kernel_rfl); exact h
        simp only [List.set_cons_zero, List.set_cons_succ] at hK ⊢
        simp only [h7, h14] at hK ⊢
        go_simp
        exact hK.out _ _ (Below.refl _ _) rfl
    case hendm =>
      intro vs wx lo hiv hbx hSx hRx hdx
      have h0 : vs 0 = .pointer (some ⟨gs, 1, none⟩) := (hRx 0 (by kernel_rfl)).1
      have h1 : vs 1 = .slice av nv cv := (hRx 1 (by kernel_rfl)).1
      have h2 : vs 2 = .int .i64 nv := (hRx 2 (by kernel_rfl)).1
      have h3 : vs 3 = p := (hRx 3 (by kernel_rfl)).1
      have H4 := (hRx 4 (by kernel_rfl)).1
      obtain ⟨a4, c4, h4⟩ := H4
      have h5 : vs 5 = .int .i64 nv := (hRx 5 (by kernel_rfl)).1
      have h6 : vs 6 = .bool false := (hRx 6 (by kernel_rfl)).1
      have h7 : vs 7 = .bool false := (hRx 7 (by kernel_rfl)).1
      have h8 : vs 8 = .pointer (some ⟨gs, 2, none⟩) := (hRx 8 (by kernel_rfl)).1
      have h9 : vs 9 = .slice aa na ca := (hRx 9 (by kernel_rfl)).1
      have h10 : vs 10 = .int .i64 na := (hRx 10 (by kernel_rfl)).1
      have h11 : vs 11 = p := (hRx 11 (by kernel_rfl)).1
      have H12 := (hRx 12 (by kernel_rfl)).1
      obtain ⟨a12, c12, h12⟩ := H12
      have h13 : vs 13 = .int .i64 m := (hRx 13 (by kernel_rfl)).1
      have h14 : vs 14 = .bool true := (hRx 14 (by kernel_rfl)).1
      have h15 : vs 15 = .bool true := (hRx 15 (by kernel_rfl)).1
      simp only [fillD, Act.put, List.setIfInBounds_toArray, List.set_cons_zero, List.set_cons_succ, h0, h1, h2, h3, h4, h5, h6, h7, h8, h9, h10, h11, h12, h13, h14, h15]
      clear hRx hdx
      have hb := below_drew_left hbx
      have HB2 := hid (below_next HBO.out hb)
      refine wpAny_done (by kernel_rfl) ?_ _
      go_wp2
      (try simp only [Exit.inBlock, Exit.then])
      (try rw [Exit.noGoto_ret])
      go_ret
      exact ⟨by rw [HW.out]; rfl, HB2.out⟩
  subst h2
  have HW := hid (show fitsS false nv na nv na = 0 by unfold fitsS; rw [if_neg (by simp), if_neg (by simp)])
  go_enter Tryz.func53, Tryz.ntmps53
  go_upto_region 1 with fail
  generalize w.alloc (.cells #[.float .f64 om, .slice av nv cv, .slice aa na ca] 50) = w1 at *
  obtain ⟨gs, hgs⟩ : ∃ gs, w.heap.size = gs := ⟨_, rfl⟩
  rw [hgs] at HS ⊢
  clear hgs
  go_upto_region 3 with (go_at_call 38; refine (rnone20_any _ l _ HP.out).mono ?_; rintro e w' ⟨rfl, rfl⟩; rw [HQ.out])
  refine wp_region_any (by kernel_rfl) ?_
  change wpAny _ _ _ _ _ _ _ (World.drew _)
  refine wpAny_makersD [⟨some 7, 0, []⟩, ⟨some 8, 1, []⟩, ⟨some 9, 2, []⟩, ⟨some 10, 3, []⟩, ⟨some 11, 4, []⟩, ⟨some 12, 5, []⟩, ⟨some 13, 6, []⟩, ⟨some 14, 7, []⟩, ⟨some 15, 8, []⟩, ⟨some 16, 9, []⟩, ⟨some 17, 10, []⟩, ⟨some 18, 11, []⟩, ⟨some 19, 12, []⟩, ⟨some 20, 13, []⟩, ⟨some 21, 14, []⟩, ⟨some 22, 15, []⟩]
    (fun w' => w'.heap[gs]? = some (.cells #[.float .f64 om, .slice av nv cv, .slice aa na ca] 50 (0, 0)) ∧ RN w' p l)
    (fun oq v _ _ _ _ => match oq with | 0 => v = .pointer (some ⟨gs, 1, none⟩) | 1 => v = .slice av nv cv | 2 => v = .int .i64 nv | 3 => v = p | 4 => ∃ a c, v = .slice a nv c | 5 => v = .int .i64 nv | 6 => v = .bool false | 7 => v = .bool false | 8 => v = .pointer (some ⟨gs, 2, none⟩) | 9 => v = .slice aa na ca | 10 => v = .int .i64 na | 11 => v = p | 12 => ∃ a c, v = .slice a na c | 13 => v = .int .i64 na | 14 => v = .bool false | 15 => v = .bool false | _ => True) (by kernel_rfl) ?hSm (fun _ _ hb h => ⟨heap_next hb h.1, h.2.below' hb⟩) (fun _ _ _ _ _ _ _ _ _ h => h) ?hopm ?hendm
  case hSm => exact ⟨heap_next (Below.refl _ _).drew HS.out, HP.out.below (Below.refl _ _).drew (Nat.le_refl _)⟩
  case hopm =>
    delta Owed
    simp only [fillD, Act.put, List.setIfInBounds_toArray, List.set_cons_zero, List.set_cons_succ]
    refine Each.cons rfl ?_ (Each.cons rfl ?_ (Each.cons rfl ?_ (Each.cons rfl ?_ (Each.cons rfl ?_ (Each.cons rfl ?_ (Each.cons rfl ?_ (Each.cons rfl ?_ (Each.cons rfl ?_ (Each.cons rfl ?_ (Each.cons rfl ?_ (Each.cons rfl ?_ (Each.cons rfl ?_ (Each.cons rfl ?_ (Each.cons rfl ?_ (Each.cons rfl ?_ Each.nil)))))))))))))))
    · intro vs w2 hb2 hS2 hR2 K hK
      simp only [List.set_cons_zero, List.set_cons_succ] at hK ⊢
      go_simp
      exact hK.out _ _ (Below.refl _ _) rfl
    · intro vs w2 hb2 hS2 hR2 K hK
      have h0 : vs 0 = .pointer (some ⟨gs, 1, none⟩) := by obtain ⟨_, _, _, h⟩ := hR2 0 (by kernel_rfl); exact h
      simp only [List.set_cons_zero, List.set_cons_succ] at hK ⊢
      have k0 := (cells_ofS hS2.1).1 1 _ rfl
      have k1 := (cells_ofS hS2.1).1 2 _ rfl
      simp only [h0] at hK ⊢
      go_simp
      exact hK.out _ _ (Below.refl _ _) rfl
    · intro vs w2 hb2 hS2 hR2 K hK
      have h1 : vs 1 = .slice av nv cv := by obtain ⟨_, _, _, h⟩ := hR2 1 (by kernel_rfl); exact h
      simp only [List.set_cons_zero, List.set_cons_succ] at hK ⊢
      simp only [h1] at hK ⊢
      go_simp
      exact hK.out _ _ (Below.refl _ _) rfl
    · intro vs w2 hb2 hS2 hR2 K hK
      simp only [List.set_cons_zero, List.set_cons_succ] at hK ⊢
      go_simp
      exact hK.out _ _ (Below.refl _ _) rfl
    · intro vs w2 hb2 hS2 hR2 K hK
      have h3 : vs 3 = p := by obtain ⟨_, _, _, h⟩ := hR2 3 (by kernel_rfl); exact h
      simp only [List.set_cons_zero, List.set_cons_succ] at hK ⊢
      simp only [h3] at hK ⊢
      rw [if_pos (by rfl)]
      go_wp2_with (go_at_call 54; refine (rnodes_any p l _ hS2.2 (by have := HG.out; omega)).mono ?_; rintro e w3 ⟨v, xs, rfl, hown, _, hb⟩; obtain ⟨ar, cr, rfl⟩ := (IsSl.of_own hown).form; clear hown; rw [HK.out])
      exact hK.out _ _ hb ⟨ar, cr, rfl⟩
    · intro vs w2 hb2 hS2 hR2 K hK
      obtain ⟨_, _, _, H4⟩ := hR2 4 (by kernel_rfl)
      obtain ⟨a4, c4, h4⟩ := H4
      simp only [List.set_cons_zero, List.set_cons_succ] at hK ⊢
      simp only [h4] at hK ⊢
      go_simp
      exact hK.out _ _ (Below.refl _ _) rfl
    · intro vs w2 hb2 hS2 hR2 K hK
      have h2 : vs 2 = .int .i64 nv := by obtain ⟨_, _, _, h⟩ := hR2 2 (by kernel_rfl); exact h
      have h5 : vs 5 = .int .i64 nv := by obtain ⟨_, _, _, h⟩ := hR2 5 (by kernel_rfl); exact h
      simp only [List.set_cons_zero, List.set_cons_succ] at hK ⊢
      simp only [h2, h5] at hK ⊢
      go_simp
      exact hK.out _ _ (Below.refl _ _) rfl
    · intro vs w2 hb2 hS2 hR2 K hK
      have h6 : vs 6 = .bool false := by obtain ⟨_, _, _, h⟩ := hR2 6 (by kernel_rfl); exact h
      simp only [List.set_cons_zero, List.set_cons_succ] at hK ⊢
      simp only [h6] at hK ⊢
      go_simp
      exact hK.out _ _ (Below.refl _ _) rfl
    · intro vs w2 hb2 hS2 hR2 K hK
      have h7 : vs 7 = .bool false := by obtain ⟨_, _, _, h⟩ := hR2 7 (by kernel_rfl); exact h
      simp only [List.set_cons_zero, List.set_cons_succ] at hK ⊢
      simp only [h7] at hK ⊢
      rw [if_pos (by rfl)]
      go_simp
      exact hK.out _ _ (Below.refl _ _) rfl
    · intro vs w2 hb2 hS2 hR2 K hK
      have h7 : vs 7 = .bool false := by obtain ⟨_, _, _, h⟩ := hR2 7 (by kernel_rfl); exact h
      have h8 : vs 8 = .pointer (some ⟨gs, 2, none⟩) := by obtain ⟨_, _, _, h⟩ := hR2 8 (by kernel_rfl); exact h
      simp only [List.set_cons_zero, List.set_cons_succ] at hK ⊢
      have k0 := (cells_ofS hS2.1).1 1 _ rfl
      have k1 := (cells_ofS hS2.1).1 2 _ rfl
      simp only [h7, h8] at hK ⊢
      rw [if_pos (by rfl)]
      go_simp
      exact hK.out _ _ (Below.refl _ _) rfl
    · intro vs w2 hb2 hS2 hR2 K hK
      have h7 : vs 7 = .bool false := by obtain ⟨_, _, _, h⟩ := hR2 7 (by kernel_rfl); exact h
      have h9 : vs 9 = .slice aa na ca := by obtain ⟨_, _, _, h⟩ := hR2 9 (by kernel_rfl); exact h
      simp only [List.set_cons_zero, List.set_cons_succ] at hK ⊢
      simp only [h7, h9] at hK ⊢
      rw [if_pos (by rfl)]
      go_simp
      exact hK.out _ _ (Below.refl _ _) rfl
    · intro vs w2 hb2 hS2 hR2 K hK
      have h7 : vs 7 = .bool false := by obtain ⟨_, _, _, h⟩ := hR2 7 (by kernel_rfl); exact h
      simp only [List.set_cons_zero, List.set_cons_succ] at hK ⊢
      simp only [h7] at hK ⊢
      rw [if_pos (by rfl)]
      go_simp
      exact hK.out _ _ (Below.refl _ _) rfl
    · intro vs w2 hb2 hS2 hR2 K hK
      have h7 : vs 7 = .bool false := by obtain ⟨_, _, _, h⟩ := hR2 7 (by kernel_rfl); exact h
      have h11 : vs 11 = p := by obtain ⟨_, _, _, h⟩ := hR2 11 (by kernel_rfl); exact h
      simp only [List.set_cons_zero, List.set_cons_succ] at hK ⊢
      simp only [h7, h11] at hK ⊢
      rw [if_pos (by rfl)]
      go_wp2_with (go_at_call 57; refine (rbranches_any p l _ hS2.2 (by have := HG.out; omega)).mono ?_; rintro e w3 ⟨v, xs, rfl, hown, _, hb⟩; obtain ⟨ar, cr, rfl⟩ := (IsSl.of_own hown).form; clear hown; rw [HM.out])
      exact hK.out _ _ hb ⟨ar, cr, rfl⟩
    · intro vs w2 hb2 hS2 hR2 K hK
      have h7 : vs 7 = .bool false := by obtain ⟨_, _, _, h⟩ := hR2 7 (by kernel_rfl); exact h
      obtain ⟨_, _, _, H12⟩ := hR2 12 (by kernel_rfl)
      obtain ⟨a12, c12, h12⟩ := H12
      simp only [List.set_cons_zero, List.set_cons_succ] at hK ⊢
      simp only [h7, h12] at hK ⊢
      rw [if_pos (by rfl)]
      go_simp
      exact hK.out _ _ (Below.refl _ _) rfl
    · intro vs w2 hb2 hS2 hR2 K hK
      have h7 : vs 7 = .bool false := by obtain ⟨_, _, _, h⟩ := hR2 7 (by kernel_rfl); exact h
      have h10 : vs 10 = .int .i64 na := by obtain ⟨_, _, _, h⟩ := hR2 10 (by kernel_rfl); exact h
      have h13 : vs 13 = .int .i64 na := by obtain ⟨_, _, _, h⟩ := hR2 13 (by kernel_rfl); exact h
      simp only [List.set_cons_zero, List.set_cons_succ] at hK ⊢
      simp only [h7, h10, h13] at hK ⊢
      rw [if_pos (by rfl)]
      go_simp
      exact hK.out _ _ (Below.refl _ _) rfl
    · intro vs w2 hb2 hS2 hR2 K hK
      have h7 : vs 7 = .bool false := by obtain ⟨_, _, _, h⟩ := hR2 7 (by kernel_rfl); exact h
      have h14 : vs 14 = .bool false := by obtain ⟨_, _, _, h⟩ := hR2 14 (by kernel_rfl); exact h
      simp only [List.set_cons_zero, List.set_cons_succ] at hK ⊢
      simp only [h7, h14] at hK ⊢
      go_simp
      exact hK.out _ _ (Below.refl _ _) rfl
  case hendm =>
    intro vs wx lo hiv hbx hSx hRx hdx
    have h0 : vs 0 = .pointer (some ⟨gs, 1, none⟩) := (hRx 0 (by kernel_rfl)).1
    have h1 : vs 1 = .slice av nv cv := (hRx 1 (by kernel_rfl)).1
    have h2 : vs 2 = .int .i64 nv := (hRx 2 (by kernel_rfl)).1
    have h3 : vs 3 = p := (hRx 3 (by kernel_rfl)).1
    have H4 := (hRx 4 (by kernel_rfl)).1
    obtain ⟨a4, c4, h4⟩ := H4
    have h5 : vs 5 = .int .i64 nv := (hRx 5 (by kernel_rfl)).1
    have h6 : vs 6 = .bool false := (hRx 6 (by kernel_rfl)).1
    have h7 : vs 7 = .bool false := (hRx 7 (by kernel_rfl)).1
    have h8 : vs 8 = .pointer (some ⟨gs, 2, none⟩) := (hRx 8 (by kernel_rfl)).1
    have h9 : vs 9 = .slice aa na ca := (hRx 9 (by kernel_rfl)).1
    have h10 : vs 10 = .int .i64 na := (hRx 10 (by kernel_rfl)).1
    have h11 : vs 11 = p := (hRx 11 (by kernel_rfl)).1
    have H12 := (hRx 12 (by kernel_rfl)).1
    obtain ⟨a12, c12, h12⟩ := H12
    have h13 : vs 13 = .int .i64 na := (hRx 13 (by kernel_rfl)).1
    have h14 : vs 14 = .bool false := (hRx 14 (by kernel_rfl)).1
    have h15 : vs 15 = .bool false := (hRx 15 (by kernel_rfl)).1
    simp only [fillD, Act.put, List.setIfInBounds_toArray, List.set_cons_zero, List.set_cons_succ, h0, h1, h2, h3, h4, h5, h6, h7, h8, h9, h10, h11, h12, h13, h14, h15]
    clear hRx hdx
    have hb := below_drew_left hbx
    have HB2 := hid (below_next HBO.out hb)
    refine wpAny_done (by kernel_rfl) ?_ _
    go_wp2
    (try simp only [Exit.inBlock, Exit.then])
    (try rw [Exit.noGoto_ret])
    go_ret
    exact ⟨by rw [HW.out]; rfl, HB2.out⟩
/-- An element's place; -1. -/
def RetFi (l : List El) (s : ByteArray) (w : World) (e : Ending) (w' : World) : Prop :=
  ∃ i : Int, e = .returned (.int .i64 i) ∧ Below w.heap.size w w' ∧ ((i = -1 ∧ findE l s = none) ∨ ∃ (k : Nat) (x : El), i = (k : Int) ∧ l[k]? = some x ∧ findE l s = some x)
set_option maxRecDepth 100000 in
set_option maxHeartbeats 2000000 in
theorem rfindi_any (p : Value) (l : List El) (s : ByteArray) (w : World) (hp : RN w p l) (hl : l.length ≤ 100000) :
    Calls Tryz.prog 55 #[p, .string s] w (RetFi l s w) := by
  obtain ⟨i0, hi, hz0, hz1, hz2⟩ := info_parts infoEa
  have HP := hid hp
  clear hp
  go_enter Tryz.func55, Tryz.ntmps55
  go_upto_region 2 with (go_at_call 11; refine (relements_any _ l _ HP.out (by omega)).mono ?_; rintro e w1 ⟨v1, xs, rfl, hown1, rfl, hb1⟩; obtain ⟨a1, c1, rfl⟩ := (IsSl.of_own hown1).form)
  have HI := hid (IsSl.of_own hown1)
  have HB1 := hid hb1
  clear hb1 hown1
  go_wp2
  go_loopw [6] (fun i wr => ∃ k : Nat, k ≤ l.length ∧ i = .int .i64 k ∧ named (l.take k) s = false ∧ wr = w1) (fun i _ => l.length - (intOf i).toNat)
  case atStart => exact ⟨0, Nat.zero_le _, rfl, rfl, rfl⟩
  case round =>
    obtain ⟨k, hk, rfl, hn, rfl⟩ := hrel
    have HN := hid hn
    clear hn
    by_cases hlt : k < l.length
    · obtain ⟨g, o, x, hidx, hg, hx, hcell⟩ := IsSl.atF Tryz.underlying37 hi hz1 ea_len HI.out rfl hlt
      have c1 := hcell 1 _ rfl
      have HX := hid hx
      cases hb : (x.name.toList == s.toList)
      · have HB := hid hb
        clear hcell hx
        go_wp2_with fail
        go_roundw
        case rel => exact ⟨k + 1, by omega, by go_num, by rw [named_snoc HX.out, HN.out, HB.out]; rfl, by first | rfl | trivial⟩
        case measure => simp [intOf]; omega
      · have HB := hid hb
        clear hcell hx
        go_wp2_with fail
        (try simp only [Exit.inBlock, Exit.then])
        (try rw [Exit.noGoto_ret])
        go_ret
        exact ⟨_, rfl, HB1.out, .inr ⟨k, x, rfl, HX.out, (findE_at HN.out HX.out HB.out).1⟩⟩
    · obtain rfl : k = l.length := by omega
      go_wp2
      (try simp only [Exit.inBlock, Exit.then])
      (try rw [Exit.noGoto_ret])
      go_ret
      have h := HN.out
      rw [List.take_length] at h
      exact ⟨_, rfl, HB1.out, .inl ⟨rfl, findE_no h⟩⟩
theorem nds_48 (l : List El) {t : ByteArray} (h : t.toList = [48]) : has (nds l) t = false := nds_gnd (by unfold gnd; rw [h]; rfl) l [] rfl
set_option maxRecDepth 100000 in
set_option maxHeartbeats 2000000 in
theorem rvolt20_any (p v va : Value) (l : List El) (om : Nat) (xs ys : List Cx) (t : ByteArray) (w : World) (hp : RN w p l) (hg : l.length ≤ 256) (hv : IsSl w 1 v xs.length (xs.map mkC)) (ha : IsSl w 1 va ys.length (ys.map mkC)) :
    Calls Tryz.prog 22 #[p, .agg #[.float .f64 om, v, va], .string t] w (fun e w' => e = .returned (.tuple #[mkC (vltS (noRef p) l xs ys.length t).1, .int .i64 (vltS (noRef p) l xs ys.length t).2]) ∧ Below w.heap.size w w') := by
  obtain ⟨av, cv, rfl⟩ := hv.form
  obtain ⟨aa, ca, rfl⟩ := ha.form
  obtain ⟨i0, hi, hz0, hz1, hz2⟩ := info_parts infoC
  obtain ⟨iu, hiu, hu0, hu1, hu2⟩ := info_parts infoSt
  obtain ⟨ie, hie, he0, he1, he2⟩ := info_parts infoEa
  have hb1 := (Below.refl w.heap.size w).alloc (Nat.le_refl _) (.cells #[.float .f64 om, .slice av xs.length cv, .slice aa ys.length ca] 50)
  have HBO := hid hb1
  have HS := hid (heap_alloc_new w (.cells #[.float .f64 om, .slice av xs.length cv, .slice aa ys.length ca] 50))
  have HP := hid (hp.below hb1 (Nat.le_refl _))
  have HV := hid (hv.below hb1 (Nat.le_refl _))
  have HA := hid (ha.below hb1 (Nat.le_refl _))
  have HG := hid hg
  clear hp hg hv ha hb1
  obtain ⟨fe, hfe⟩ : ∃ fe, fitsS (noRef p) xs.length ys.length (nds l).length (brs l).length = fe := ⟨_, rfl⟩
  have HFE := hid hfe
  clear hfe
  go_enter Tryz.func22, Tryz.ntmps22
  go_upto_region 1 with fail
  generalize w.alloc (.cells #[.float .f64 om, .slice av xs.length cv, .slice aa ys.length ca] 50) = w1 at *
  obtain ⟨gs, hgs⟩ : ∃ gs, w.heap.size = gs := ⟨_, rfl⟩
  rw [hgs] at HS ⊢
  clear hgs
  have hbk := block_cells HS.out
  have s0 := hbk.1 0 _ rfl
  have s1 := hbk.1 1 _ rfl
  have s2 := hbk.1 2 _ rfl
  clear hbk
  go_upto_region 2 with (go_at_call 53; refine (rfits_any p l om _ _ _ _ _ _ _ HP.out HG.out).mono ?_; rintro e w2 ⟨rfl, hb⟩; have HS1 := hid (heap_later2 hb HS.out); have HP1 := hid (HP.out.below' hb); have HV1 := hid (HV.out.below hb (Nat.le_refl _)); have HA1 := hid (HA.out.below hb (Nat.le_refl _)); have HB1 := hid (below_next HBO.out hb); rw [HFE.out]; clear hb )
  clear HS HP HV HA HBO
  clear s0 s1 s2
  by_cases h0 : fe = 0
  rotate_left
  · have hb0 : (fe == 0) = false := by simpa using h0
    have hb1 : (fe != 0) = true := by simpa using h0
    have HW := hid (show vltS (noRef p) l xs ys.length t = ((0, 0), fe) by unfold vltS; rw [HFE.out, if_pos h0])
    go_wp2
    (try simp only [Exit.inBlock, Exit.then])
    (try rw [Exit.noGoto_ret])
    refine bodyPost_ret (v := .tuple #[.complex .f64 0 0, .int .i64 fe]) ?_ rfl ⟨by rw [HW.out], HB1.out⟩
    rw [results_tmp2 rfl]; rfl
  subst h0
  obtain ⟨hn, hk, hm⟩ := fits_zero HFE.out
  have HK := hid hk
  clear hn hk hm
  by_cases hz : t.toList = [48]
  · have HW := hid (show vltS (noRef p) l xs ys.length t = ((0, 0), 0) by unfold vltS; rw [HFE.out, if_neg (fun h => h rfl), if_neg (by rw [nds_48 l hz]; simp), if_pos hz])
    have hzt : (t.toList == [48]) = true := by rw [hz]; rfl
    go_wp2
    (try simp only [Exit.inBlock, Exit.then])
    (try rw [Exit.noGoto_ret])
    refine bodyPost_ret (v := .tuple #[.complex .f64 0 0, .int .i64 0]) ?_ rfl ⟨by rw [HW.out], HB1.out⟩
    rw [results_tmp2 rfl]; rfl
  have hzt : (t.toList == [48]) = false := by cases h : (t.toList == [48]) <;> simp_all
  have HZ := hid hz
  clear hz
  go_upto_region 7 with (go_at_call 54; refine (rnodes_any _ l _ HP1.out (by have := HG.out; omega)).mono ?_; rintro e w3 ⟨v3, ws, rfl, hown, rfl, hb⟩; have HS2 := hid (heap_later2 hb HS1.out); have HP2 := hid (HP1.out.below' hb); have HV2 := hid (HV1.out.below hb (Nat.le_refl _)); have HA2 := hid (HA1.out.below hb (Nat.le_refl _)); have HB2 := hid (below_next HB1.out hb); have HO := hid (IsSl.of_own hown); obtain ⟨ao, co, rfl⟩ := HO.out.form; clear hown; clear hb )
  clear HS1 HP1 HV1 HA1 HB1
  go_wp2
  go_loopw [10] (fun i wr => ∃ k : Nat, k ≤ (nds l).length ∧ i = .int .i64 k ∧ has ((nds l).take k) t = false ∧ wr = w3) (fun i _ => (nds l).length - (intOf i).toNat)
  case atStart => exact ⟨0, Nat.zero_le _, rfl, rfl, rfl⟩
  case round =>
    obtain ⟨k, hk, rfl, hn, rfl⟩ := hrel
    have HN := hid hn
    clear hn
    have hnd := nds_len l
    have hg0 := HG.out
    by_cases hlt : k < (nds l).length
    · obtain ⟨g, o, y, hidx, hg, hc, hy⟩ := IsSl.at1 Tryz.underlying86 hiu hu1 HO.out hlt
      obtain ⟨u, hu, rfl⟩ := sts_get hy
      have HT := hid hu
      clear hu hy hg
      cases hb : (u.toList == t.toList)
      · have HB := hid hb
        go_wp2_with fail
        go_roundw
        case rel => exact ⟨k + 1, by omega, by go_num, by rw [has_snoc HT.out, HN.out, HB.out]; rfl, by first | rfl | trivial⟩
        case measure => simp [intOf]; omega
      · have HB := hid hb
        obtain ⟨q1, q2⟩ := plI_at HN.out HT.out HB.out
        have hlx : k < xs.length := by rw [HK.out]; exact hlt
        obtain ⟨g2, o2, x2, hidx2, hg2, hc2, hx2⟩ := IsSl.at1 Tryz.underlying47 hi hz1 HV2.out hlx
        obtain ⟨z, hz, rfl⟩ := map_getElem? hx2
        have HW := hid (show vltS (noRef p) l xs ys.length t = (z, 0) by unfold vltS; rw [HFE.out, if_neg (fun h => h rfl), if_pos q1, q2]; simp [List.getD_eq_getElem?_getD, hz])
        unfold mkC at hc2
        clear hx2 hz q1 q2
        have hbk := block_cells HS2.out
        have s1 := hbk.1 1 _ rfl
        clear hbk
        go_wp2_with fail
        (try simp only [Exit.inBlock, Exit.then])
        (try rw [Exit.noGoto_ret])
        refine bodyPost_ret (v := .tuple #[mkC z, .int .i64 0]) ?_ rfl ⟨by rw [HW.out], HB2.out⟩
        rw [results_tmp2 rfl]; rfl
    · obtain rfl : k = (nds l).length := by omega
      have h := HN.out
      rw [List.take_length] at h
      have HW := hid (show vltS (noRef p) l xs ys.length t = ((0, 0), 10) by unfold vltS; rw [HFE.out, if_neg (fun h => h rfl), if_neg (by rw [h]; simp), if_neg HZ.out])
      clear h
      go_wp2
      (try simp only [Exit.inBlock, Exit.then])
      (try rw [Exit.noGoto_ret])
      refine bodyPost_ret (v := .tuple #[.complex .f64 0 0, .int .i64 10]) ?_ rfl ⟨by rw [HW.out], HB2.out⟩
      rw [results_tmp2 rfl]; rfl
/-- The volts of an element's A above its B; the error. -/
def acrS (b : Bool) (l : List El) (xs : List Cx) (na : Nat) (t : ByteArray) : Cx × Int :=
  if fitsS b xs.length na (nds l).length (brs l).length ≠ 0 then ((0, 0), fitsS b xs.length na (nds l).length (brs l).length)
  else match findE l t with
    | none => ((0, 0), 10)
    | some x => (csub (ck (vltS b l xs na x.a).1) (ck (vltS b l xs na x.b).1), 0)
/-- The amperes of a branch; the error. -/
def brnS (b : Bool) (l : List El) (nv : Nat) (ys : List Cx) (t : ByteArray) : Cx × Int :=
  if fitsS b nv ys.length (nds l).length (brs l).length ≠ 0 then ((0, 0), fitsS b nv ys.length (nds l).length (brs l).length)
  else match findE l t with
    | none => ((0, 0), 10)
    | some _ => if has (brs l) t = true then (ys.getD (plI (brs l) t).toNat (0, 0), 0) else ((0, 0), 2)
theorem acr_bad {b : Bool} {l : List El} {xs : List Cx} {na : Nat} {t : ByteArray} {fe : Int} (h : fitsS b xs.length na (nds l).length (brs l).length = fe) (h0 : ¬ fe = 0) : acrS b l xs na t = ((0, 0), fe) := by unfold acrS; rw [h, if_pos h0]
theorem acr_none {b : Bool} {l : List El} {xs : List Cx} {na : Nat} {t : ByteArray} (h : fitsS b xs.length na (nds l).length (brs l).length = 0) (h2 : findE l t = none) : acrS b l xs na t = ((0, 0), 10) := by unfold acrS; rw [h, if_neg (fun h => h rfl), h2]
theorem acr_some {b : Bool} {l : List El} {xs : List Cx} {na : Nat} {t : ByteArray} {x : El} (h : fitsS b xs.length na (nds l).length (brs l).length = 0) (h2 : findE l t = some x) : acrS b l xs na t = (csub (ck (vltS b l xs na x.a).1) (ck (vltS b l xs na x.b).1), 0) := by unfold acrS; rw [h, if_neg (fun h => h rfl), h2]
theorem brn_bad {b : Bool} {l : List El} {ys : List Cx} {nv : Nat} {t : ByteArray} {fe : Int} (h : fitsS b nv ys.length (nds l).length (brs l).length = fe) (h0 : ¬ fe = 0) : brnS b l nv ys t = ((0, 0), fe) := by unfold brnS; rw [h, if_pos h0]
theorem brn_none {b : Bool} {l : List El} {ys : List Cx} {nv : Nat} {t : ByteArray} (h : fitsS b nv ys.length (nds l).length (brs l).length = 0) (h2 : findE l t = none) : brnS b l nv ys t = ((0, 0), 10) := by unfold brnS; rw [h, if_neg (fun h => h rfl), h2]
theorem brn_no {b : Bool} {l : List El} {ys : List Cx} {nv : Nat} {t : ByteArray} {x : El} (h : fitsS b nv ys.length (nds l).length (brs l).length = 0) (h2 : findE l t = some x) (h3 : has (brs l) t = false) : brnS b l nv ys t = ((0, 0), 2) := by unfold brnS; rw [h, if_neg (fun h => h rfl), h2]; dsimp only; rw [if_neg (by rw [h3]; simp)]
theorem brn_yes {b : Bool} {l : List El} {ys : List Cx} {nv : Nat} {t : ByteArray} {x : El} (h : fitsS b nv ys.length (nds l).length (brs l).length = 0) (h2 : findE l t = some x) (h3 : has (brs l) t = true) : brnS b l nv ys t = (ys.getD (plI (brs l) t).toNat (0, 0), 0) := by unfold brnS; rw [h, if_neg (fun h => h rfl), h2]; dsimp only; rw [if_pos h3]
/-- A number and an error. -/
def RetCE (S : Cx × Int) (w : World) (e : Ending) (w' : World) : Prop := ∃ r i, e = .returned (.tuple #[.complex .f64 r i, .int .i64 S.2]) ∧ (fc r, fc i) = S.1 ∧ Below w.heap.size w w'
theorem RetCE.of {S : Cx × Int} {w w' : World} {r i : Nat} {k : Int} (h : S = ((fc r, fc i), k)) (hb : Below w.heap.size w w') : RetCE S w (.returned (.tuple #[.complex .f64 r i, .int .i64 k])) w' := ⟨r, i, by rw [h], by rw [h], hb⟩
theorem ck0 : ((0 : Nat), (0 : Nat)) = (fc 0, fc 0) := by rw [fc_zero]
set_option maxRecDepth 100000 in
set_option maxHeartbeats 2000000 in
theorem racross_any (p v va : Value) (l : List El) (om : Nat) (xs ys : List Cx) (t : ByteArray) (w : World) (hp : RN w p l) (hg : l.length ≤ 256) (hv : IsSl w 1 v xs.length (xs.map mkC)) (ha : IsSl w 1 va ys.length (ys.map mkC)) :
    Calls Tryz.prog 23 #[p, .agg #[.float .f64 om, v, va], .string t] w (RetCE (acrS (noRef p) l xs ys.length t) w) := by
  obtain ⟨av, cv, rfl⟩ := hv.form
  obtain ⟨aa, ca, rfl⟩ := ha.form
  obtain ⟨i0, hi, hz0, hz1, hz2⟩ := info_parts infoC
  obtain ⟨iu, hiu, hu0, hu1, hu2⟩ := info_parts infoSt
  obtain ⟨ie, hie, he0, he1, he2⟩ := info_parts infoEa
  have hb1 := (Below.refl w.heap.size w).alloc (Nat.le_refl _) (.cells #[.float .f64 om, .slice av xs.length cv, .slice aa ys.length ca] 50)
  have HBO := hid hb1
  have HS := hid (heap_alloc_new w (.cells #[.float .f64 om, .slice av xs.length cv, .slice aa ys.length ca] 50))
  have HP := hid (hp.below hb1 (Nat.le_refl _))
  have HV := hid (hv.below hb1 (Nat.le_refl _))
  have HA := hid (ha.below hb1 (Nat.le_refl _))
  have HG := hid hg
  clear hp hg hv ha hb1
  obtain ⟨fe, hfe⟩ : ∃ fe, fitsS (noRef p) xs.length ys.length (nds l).length (brs l).length = fe := ⟨_, rfl⟩
  have HFE := hid hfe
  clear hfe
  go_enter Tryz.func23, Tryz.ntmps23
  go_upto_region 1 with fail
  generalize w.alloc (.cells #[.float .f64 om, .slice av xs.length cv, .slice aa ys.length ca] 50) = w1 at *
  obtain ⟨gs, hgs⟩ : ∃ gs, w.heap.size = gs := ⟨_, rfl⟩
  rw [hgs] at HS ⊢
  clear hgs
  have hbk := block_cells HS.out
  have s0 := hbk.1 0 _ rfl
  have s1 := hbk.1 1 _ rfl
  have s2 := hbk.1 2 _ rfl
  clear hbk
  go_upto_region 2 with (go_at_call 53; refine (rfits_any p l om _ _ _ _ _ _ _ HP.out HG.out).mono ?_; rintro e w2 ⟨rfl, hb⟩; have HS1 := hid (heap_later2 hb HS.out); have HP1 := hid (HP.out.below' hb); have HV1 := hid (HV.out.below hb (Nat.le_refl _)); have HA1 := hid (HA.out.below hb (Nat.le_refl _)); have HB1 := hid (below_next HBO.out hb); rw [HFE.out]; clear hb )
  clear HS HP HV HA HBO
  clear s0 s1 s2
  by_cases h0 : fe = 0
  rotate_left
  · have hb0 : (fe == 0) = false := by simpa using h0
    have hb1 : (fe != 0) = true := by simpa using h0
    have HW := hid (acr_bad (t := t) HFE.out h0)
    go_wp2
    (try simp only [Exit.inBlock, Exit.then])
    (try rw [Exit.noGoto_ret])
    refine bodyPost_ret (v := .tuple #[.complex .f64 0 0, .int .i64 fe]) ?_ rfl (RetCE.of (by rw [HW.out, ck0]) HB1.out)
    rw [results_tmp2 rfl]; rfl
  subst h0
  go_upto_region 5 with (go_at_call 55; refine (rfindi_any _ l t _ HP1.out (by have := HG.out; omega)).mono ?_; rintro e w4 ⟨i, rfl, hb, hi4⟩; have HS2 := hid (heap_later2 hb HS1.out); have HP2 := hid (HP1.out.below' hb); have HV2 := hid (HV1.out.below hb (Nat.le_refl _)); have HA2 := hid (HA1.out.below hb (Nat.le_refl _)); have HB2 := hid (below_next HB1.out hb); have HI4 := hid hi4; clear hi4; clear hb )
  clear HS1 HP1 HV1 HA1 HB1
  rcases HI4.out with ⟨rfl, hf⟩ | ⟨k, x, rfl, hx, hf⟩
  · have HW := hid (acr_none HFE.out hf)
    clear hf
    go_wp2
    (try simp only [Exit.inBlock, Exit.then])
    (try rw [Exit.noGoto_ret])
    refine bodyPost_ret (v := .tuple #[.complex .f64 0 0, .int .i64 10]) ?_ rfl (RetCE.of (by rw [HW.out, ck0]) HB2.out)
    rw [results_tmp2 rfl]; rfl
  have HW := hid (acr_some HFE.out hf)
  have HX := hid hx
  clear hf hx HI4
  have hge : ¬ (k : Int) < 0 := by omega
  have hlt : k < l.length := (List.getElem?_eq_some_iff.1 HX.out).1
  go_upto_region 8 with (go_at_call 11; refine (relements_any _ l _ HP2.out (by have := HG.out; omega)).mono ?_; rintro e w5 ⟨v5, ws, rfl, hown, rfl, hb⟩; have HS3 := hid (heap_later2 hb HS2.out); have HP3 := hid (HP2.out.below' hb); have HV3 := hid (HV2.out.below hb (Nat.le_refl _)); have HA3 := hid (HA2.out.below hb (Nat.le_refl _)); have HB3 := hid (below_next HB2.out hb); have HO := hid (IsSl.of_own hown); obtain ⟨ao, co, rfl⟩ := HO.out.form; obtain ⟨g, o, x', hidx, hg, hx', hcell⟩ := IsSl.atF Tryz.underlying37 hie he1 ea_len HO.out rfl hlt; obtain rfl : x' = x := Option.some.inj (hx'.symm.trans HX.out); have c0 := hcell 0 _ rfl; have c1 := hcell 1 _ rfl; have c2 := hcell 2 _ rfl; have c3 := hcell 3 _ rfl; have c4 := hcell 4 _ rfl; have c5 := hcell 5 _ rfl; have c6 := hcell 6 _ rfl; have c7 := hcell 7 _ rfl; rw [Nat.add_zero] at c0; clear hown hcell hx'; clear hb )
  clear HS2 HP2 HV2 HA2 HB2
  have HS4 := hid (heap_later2 ((Below.refl w5.heap.size w5).alloc (Nat.le_refl _) (.cells #[.int .u8 x'.kind, .string x'.name, .string x'.a, .string x'.b, .string x'.c, .string x'.d, .float .f64 x'.val, .int .i64 x'.ph] 81)) HS3.out)
  have HP4 := hid (HP3.out.below' ((Below.refl w5.heap.size w5).alloc (Nat.le_refl _) (.cells #[.int .u8 x'.kind, .string x'.name, .string x'.a, .string x'.b, .string x'.c, .string x'.d, .float .f64 x'.val, .int .i64 x'.ph] 81)))
  have HV4 := hid (HV3.out.below ((Below.refl w5.heap.size w5).alloc (Nat.le_refl _) (.cells #[.int .u8 x'.kind, .string x'.name, .string x'.a, .string x'.b, .string x'.c, .string x'.d, .float .f64 x'.val, .int .i64 x'.ph] 81)) (Nat.le_refl _))
  have HA4 := hid (HA3.out.below ((Below.refl w5.heap.size w5).alloc (Nat.le_refl _) (.cells #[.int .u8 x'.kind, .string x'.name, .string x'.a, .string x'.b, .string x'.c, .string x'.d, .float .f64 x'.val, .int .i64 x'.ph] 81)) (Nat.le_refl _))
  have HB4 := hid (below_next HB3.out ((Below.refl w5.heap.size w5).alloc (Nat.le_refl _) (.cells #[.int .u8 x'.kind, .string x'.name, .string x'.a, .string x'.b, .string x'.c, .string x'.d, .float .f64 x'.val, .int .i64 x'.ph] 81)))
  have HE := hid (heap_alloc_new w5 (.cells #[.int .u8 x'.kind, .string x'.name, .string x'.a, .string x'.b, .string x'.c, .string x'.d, .float .f64 x'.val, .int .i64 x'.ph] 81))
  clear HS3 HP3 HV3 HA3 HB3
  generalize w5.alloc (.cells #[.int .u8 x'.kind, .string x'.name, .string x'.a, .string x'.b, .string x'.c, .string x'.d, .float .f64 x'.val, .int .i64 x'.ph] 81) = w6 at *
  obtain ⟨ge, hge⟩ : ∃ ge, w5.heap.size = ge := ⟨_, rfl⟩
  rw [hge] at HE ⊢
  clear hge hidx c0 c1 c2 c3 c4 c5 c6 c7
  have hbk := block_cells HS4.out
  have s0 := hbk.1 0 _ rfl
  have s1 := hbk.1 1 _ rfl
  have s2 := hbk.1 2 _ rfl
  clear hbk
  have hbk := block_cells HE.out
  have e2 := hbk.1 2 _ rfl
  have e3 := hbk.1 3 _ rfl
  clear hbk
  go_upto_region 9 with (go_at_call 22; refine (rvolt20_any p _ _ l om xs ys x'.a _ HP4.out HG.out HV4.out HA4.out).mono ?_; rintro e w7 ⟨rfl, hb⟩; have HS5 := hid (heap_later2 hb HS4.out); have HP5 := hid (HP4.out.below' hb); have HV5 := hid (HV4.out.below hb (Nat.le_refl _)); have HA5 := hid (HA4.out.below hb (Nat.le_refl _)); have HE5 := hid (heap_later2 hb HE.out); have HB5 := hid (below_next HB4.out hb); (obtain ⟨za, ka, hza⟩ : ∃ z k, vltS (noRef p) l xs ys.length x'.a = (z, k) := ⟨_, _, rfl⟩); rw [hza]; have HZa := hid hza; clear hza; (try dsimp only); clear hb )
  clear HS4 HP4 HV4 HA4 HE HB4
  clear s0 s1 s2 e2 e3
  have hbk := block_cells HS5.out
  have s0 := hbk.1 0 _ rfl
  have s1 := hbk.1 1 _ rfl
  have s2 := hbk.1 2 _ rfl
  clear hbk
  have hbk := block_cells HE5.out
  have e2 := hbk.1 2 _ rfl
  have e3 := hbk.1 3 _ rfl
  clear hbk
  go_upto_region 10 with (go_at_call 22; refine (rvolt20_any p _ _ l om xs ys x'.b _ HP5.out HG.out HV5.out HA5.out).mono ?_; rintro e w8 ⟨rfl, hb⟩; have HS6 := hid (heap_later2 hb HS5.out); have HP6 := hid (HP5.out.below' hb); have HV6 := hid (HV5.out.below hb (Nat.le_refl _)); have HA6 := hid (HA5.out.below hb (Nat.le_refl _)); have HE6 := hid (heap_later2 hb HE5.out); have HB6 := hid (below_next HB5.out hb); (obtain ⟨zb, kb, hzb⟩ : ∃ z k, vltS (noRef p) l xs ys.length x'.b = (z, k) := ⟨_, _, rfl⟩); rw [hzb]; have HZb := hid hzb; clear hzb; (try dsimp only); clear hb )
  clear HS5 HP5 HV5 HA5 HE5 HB5
  clear s0 s1 s2 e2 e3
  go_wp2_with (go_at_call 56; refine (rsub_any _ _ _ _ _).mono ?_; rintro e w' ⟨_, n, rfl, rfl, r, i, rfl, hz⟩)
  have HR := hid (show acrS (noRef p) l xs ys.length t = ((fc r, fc i), 0) by rw [HW.out, HZa.out, HZb.out]; exact Prod.ext hz.symm rfl)
  (try simp only [Exit.inBlock, Exit.then])
  (try rw [Exit.noGoto_ret])
  refine bodyPost_ret (v := .tuple #[.complex .f64 r i, .int .i64 0]) ?_ rfl (RetCE.of HR.out (below_n HB6.out _))
  rw [results_tmp2 rfl]; rfl
set_option maxRecDepth 100000 in
set_option maxHeartbeats 2000000 in
theorem rbranch20_any (p v va : Value) (l : List El) (om : Nat) (xs ys : List Cx) (t : ByteArray) (w : World) (hp : RN w p l) (hg : l.length ≤ 256) (hv : IsSl w 1 v xs.length (xs.map mkC)) (ha : IsSl w 1 va ys.length (ys.map mkC)) :
    Calls Tryz.prog 24 #[p, .agg #[.float .f64 om, v, va], .string t] w (RetCE ((ck (brnS (noRef p) l xs.length ys t).1), (brnS (noRef p) l xs.length ys t).2) w) := by
  obtain ⟨av, cv, rfl⟩ := hv.form
  obtain ⟨aa, ca, rfl⟩ := ha.form
  obtain ⟨i0, hi, hz0, hz1, hz2⟩ := info_parts infoC
  obtain ⟨iu, hiu, hu0, hu1, hu2⟩ := info_parts infoSt
  obtain ⟨ie, hie, he0, he1, he2⟩ := info_parts infoEa
  have hb1 := (Below.refl w.heap.size w).alloc (Nat.le_refl _) (.cells #[.float .f64 om, .slice av xs.length cv, .slice aa ys.length ca] 50)
  have HBO := hid hb1
  have HS := hid (heap_alloc_new w (.cells #[.float .f64 om, .slice av xs.length cv, .slice aa ys.length ca] 50))
  have HP := hid (hp.below hb1 (Nat.le_refl _))
  have HV := hid (hv.below hb1 (Nat.le_refl _))
  have HA := hid (ha.below hb1 (Nat.le_refl _))
  have HG := hid hg
  clear hp hg hv ha hb1
  obtain ⟨fe, hfe⟩ : ∃ fe, fitsS (noRef p) xs.length ys.length (nds l).length (brs l).length = fe := ⟨_, rfl⟩
  have HFE := hid hfe
  clear hfe
  go_enter Tryz.func24, Tryz.ntmps24
  go_upto_region 1 with fail
  generalize w.alloc (.cells #[.float .f64 om, .slice av xs.length cv, .slice aa ys.length ca] 50) = w1 at *
  obtain ⟨gs, hgs⟩ : ∃ gs, w.heap.size = gs := ⟨_, rfl⟩
  rw [hgs] at HS ⊢
  clear hgs
  have hbk := block_cells HS.out
  have s0 := hbk.1 0 _ rfl
  have s1 := hbk.1 1 _ rfl
  have s2 := hbk.1 2 _ rfl
  clear hbk
  go_upto_region 2 with (go_at_call 53; refine (rfits_any p l om _ _ _ _ _ _ _ HP.out HG.out).mono ?_; rintro e w2 ⟨rfl, hb⟩; have HS1 := hid (heap_later2 hb HS.out); have HP1 := hid (HP.out.below' hb); have HV1 := hid (HV.out.below hb (Nat.le_refl _)); have HA1 := hid (HA.out.below hb (Nat.le_refl _)); have HB1 := hid (below_next HBO.out hb); rw [HFE.out]; clear hb )
  clear HS HP HV HA HBO
  clear s0 s1 s2
  by_cases h0 : fe = 0
  rotate_left
  · have hb0 : (fe == 0) = false := by simpa using h0
    have hb1 : (fe != 0) = true := by simpa using h0
    have HW := hid (brn_bad (t := t) HFE.out h0)
    go_wp2
    (try simp only [Exit.inBlock, Exit.then])
    (try rw [Exit.noGoto_ret])
    refine bodyPost_ret (v := .tuple #[.complex .f64 0 0, .int .i64 fe]) ?_ rfl (RetCE.of (by rw [HW.out]; rfl) HB1.out)
    rw [results_tmp2 rfl]; rfl
  subst h0
  obtain ⟨hn, hk, hm⟩ := fits_zero HFE.out
  have HM := hid hm
  clear hn hk hm
  cases hf : findE l t
  · have HW := hid (brn_none HFE.out hf)
    have HFN := hid hf
    clear hf
    go_wp2_with (go_at_call 55; refine (rfindi_any _ l t _ HP1.out (by have := HG.out; omega)).mono ?_; rintro e w4 ⟨i, rfl, hb, hi4⟩; have HS2 := hid (heap_later2 hb HS1.out); have HP2 := hid (HP1.out.below' hb); have HV2 := hid (HV1.out.below hb (Nat.le_refl _)); have HA2 := hid (HA1.out.below hb (Nat.le_refl _)); have HB2 := hid (below_next HB1.out hb); have hi5 := find_none hi4 HFN.out; subst hi5; clear hi4; clear hb )
    (try simp only [Exit.inBlock, Exit.then])
    (try rw [Exit.noGoto_ret])
    refine bodyPost_ret (v := .tuple #[.complex .f64 0 0, .int .i64 10]) ?_ rfl (RetCE.of (by rw [HW.out]; rfl) HB2.out)
    rw [results_tmp2 rfl]; rfl
  rename_i x
  have HF := hid hf
  clear hf
  go_upto_region 6 with (go_at_call 55; refine (rfindi_any _ l t _ HP1.out (by have := HG.out; omega)).mono ?_; rintro e w4 ⟨i, rfl, hb, hi4⟩; have HS2 := hid (heap_later2 hb HS1.out); have HP2 := hid (HP1.out.below' hb); have HV2 := hid (HV1.out.below hb (Nat.le_refl _)); have HA2 := hid (HA1.out.below hb (Nat.le_refl _)); have HB2 := hid (below_next HB1.out hb); obtain ⟨kk, rfl⟩ := find_some hi4 HF.out; have hge : ¬ (kk : Int) < 0 := (by omega); clear hi4; clear hb )
  clear HS1 HP1 HV1 HA1 HB1
  go_upto_region 7 with (go_at_call 57; refine (rbranches_any _ l _ HP2.out (by have := HG.out; omega)).mono ?_; rintro e w5 ⟨v3, ws, rfl, hown, rfl, hb⟩; have HS3 := hid (heap_later2 hb HS2.out); have HP3 := hid (HP2.out.below' hb); have HV3 := hid (HV2.out.below hb (Nat.le_refl _)); have HA3 := hid (HA2.out.below hb (Nat.le_refl _)); have HB3 := hid (below_next HB2.out hb); have HO := hid (IsSl.of_own hown); obtain ⟨ao, co, rfl⟩ := HO.out.form; clear hown; clear hb )
  clear HS2 HP2 HV2 HA2 HB2
  go_wp2
  go_loopw [10] (fun i wr => ∃ k : Nat, k ≤ (brs l).length ∧ i = .int .i64 k ∧ has ((brs l).take k) t = false ∧ wr = w5) (fun i _ => (brs l).length - (intOf i).toNat)
  case atStart => exact ⟨0, Nat.zero_le _, rfl, rfl, rfl⟩
  case round =>
    obtain ⟨k, hk, rfl, hn, rfl⟩ := hrel
    have HN := hid hn
    clear hn
    have hnd := brs_len l
    have hg0 := HG.out
    by_cases hlt : k < (brs l).length
    · obtain ⟨g, o, y, hidx, hg, hc, hy⟩ := IsSl.at1 Tryz.underlying86 hiu hu1 HO.out hlt
      obtain ⟨u, hu, rfl⟩ := sts_get hy
      have HT := hid hu
      clear hu hy hg
      cases hb : (u.toList == t.toList)
      · have HB := hid hb
        go_wp2_with fail
        go_roundw
        case rel => exact ⟨k + 1, by omega, by go_num, by rw [has_snoc HT.out, HN.out, HB.out]; rfl, by first | rfl | trivial⟩
        case measure => simp [intOf]; omega
      · have HB := hid hb
        obtain ⟨q1, q2⟩ := plI_at HN.out HT.out HB.out
        have hlx : k < ys.length := by rw [HM.out]; exact hlt
        obtain ⟨g2, o2, x2, hidx2, hg2, hc2, hx2⟩ := IsSl.at1 Tryz.underlying47 hi hz1 HA3.out hlx
        obtain ⟨z, hz, rfl⟩ := map_getElem? hx2
        have HW := hid (show brnS (noRef p) l xs.length ys t = (z, 0) by rw [brn_yes HFE.out HF.out q1, q2]; simp [List.getD_eq_getElem?_getD, hz])
        unfold mkC at hc2
        clear hx2 hz q1 q2
        have hbk := block_cells HS3.out
        have s2 := hbk.1 2 _ rfl
        clear hbk
        go_wp2_with fail
        (try simp only [Exit.inBlock, Exit.then])
        (try rw [Exit.noGoto_ret])
        refine bodyPost_ret (v := .tuple #[mkC z, .int .i64 0]) ?_ rfl (RetCE.of (by rw [HW.out]; rfl) HB3.out)
        rw [results_tmp2 rfl]; rfl
    · obtain rfl : k = (brs l).length := by omega
      have h := HN.out
      rw [List.take_length] at h
      have HW := hid (brn_no HFE.out HF.out h)
      clear h
      go_wp2
      (try simp only [Exit.inBlock, Exit.then])
      (try rw [Exit.noGoto_ret])
      refine bodyPost_ret (v := .tuple #[.complex .f64 0 0, .int .i64 2]) ?_ rfl (RetCE.of (by rw [HW.out]; rfl) HB3.out)
      rw [results_tmp2 rfl]; rfl
end Go.Proofs.YtjeedckmkicnoaaGreatDoor
