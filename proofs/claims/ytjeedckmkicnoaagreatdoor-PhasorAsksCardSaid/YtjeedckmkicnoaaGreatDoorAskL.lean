/- PhasorAsks walked: of any net, any solution, any names: Volt, Across, Branch; the solution stays. -/
import Derived.Test.YtjeedckmkicnoaaGreatDoorMRd20
import Derived.Test.YtjeedckmkicnoaaGreatDoorAsk2
import Derived.Test.YtjeedckmkicnoaaGreatDoorLent
import Derived.Test.YtjeedckmkicnoaaGreatDoorMElements
namespace Go.Proofs.YtjeedckmkicnoaaGreatDoor
open Go.RowKit

theorem sn_any (a b c d : Nat) (w : World) : Calls Tryz.prog 25 #[.complex .f64 a b, .complex .f64 c d] w fun e w' => e = .returned (.bool (ck (a, b) == ck (c, d))) ∧ w = w' := samenumber_any (a, b) (c, d) w
theorem own_row {w : World} {a : Option Addr} {c : Nat} {V M : List Cx} (h : IsSl w 1 (.slice a (V.length + 6) c) (V.length + 6) ((V ++ M).map mkC)) : IsSl w 1 (.slice a V.length c) V.length (V.map mkC) := by
  have h2 := h.take (k := V.length) (by omega)
  rwa [Nat.mul_one, List.map_append, List.take_left' (by simp)] at h2
theorem ce_same {S : Cx} {r i r2 i2 : Nat} (h1 : (fc r, fc i) = S) (h2 : (fc r2, fc i2) = S) : (ck (r, i) == ck (r2, i2)) = true := by
  have : ck (r, i) = ck (r2, i2) := h1.trans h2.symm
  rw [this]; simp
def ZSol (v : Value) (w : World) (lo hi : Nat) : Prop := BlkD (.cells #[.float .f64 0, .slice none 0 0, .slice none 0 0] 50) v w lo hi
theorem ZSol.later {v : Value} {w w' : World} {lo hi : Nat} (h : ZSol v w lo hi) (hb : Below w.heap.size w w') : ZSol v w' lo hi := BlkD.later h hb
def RowC (l : List Cx) (v : Value) (w : World) (lo hi : Nat) : Prop := RowD 54 1 l.length (l.map mkC) v w lo hi
theorem RowC.later {l : List Cx} {v : Value} {w w' : World} {lo hi : Nat} (h : RowC l v w lo hi) (hb : Below w.heap.size w w') : RowC l v w' lo hi := RowD.later h hb
set_option maxRecDepth 100000 in
set_option maxHeartbeats 4000000 in
theorem asks_walk (v vz az : Value) (l : List El) (V A : List Cx) (node nm : ByteArray) (w : World) (hlv : ∀ w' : World, Below w.heap.size w w' → Calls Tryz.prog 6 #[] w' fun e w'' => e = .returned (.bool true) ∧ Below w'.heap.size w' w'')
    (hv : InSl w 8 v l.length (l.flatMap ez)) (hok : ∀ e ∈ l, e.Ok) (hz : InSl w 2 vz V.length (V.flatMap zc)) (ha : InSl w 2 az A.length (A.flatMap zc)) (hzl : V.length * 16 ≤ 140737488351232) (hal : A.length * 16 ≤ 140737488351232) (hnd : node.size ≤ maxLen) (hnm : nm.size ≤ maxLen) :
    Calls Tryz.prog 4 #[v, .agg #[vz, az, .string node, .string nm]] w fun e w' => e = .returned (.bool true) ∧ Below w.heap.size w w' := by
  obtain ⟨a0, c0, rfl⟩ := hv.form
  obtain ⟨a1, c1, rfl⟩ := hz.form
  obtain ⟨a2, c2, rfl⟩ := ha.form
  have hbw : Below w.heap.size w (w.alloc (.cells #[.slice a1 V.length c1, .slice a2 A.length c2, .string node, .string nm] 46)) := (Below.refl w.heap.size w).alloc (Nat.le_refl _) _
  have HX := hid (heap_alloc_new w (.cells #[.slice a1 V.length c1, .slice a2 A.length c2, .string node, .string nm] 46))
  have HV := hid (hv.below hbw (Nat.le_refl _))
  have HVZ := hid (hz.below hbw (Nat.le_refl _))
  have HAZ := hid (ha.below hbw (Nat.le_refl _))
  have HBW := hid hbw
  have HLV := hid hlv
  have HOK := hid hok
  have HZL := hid hzl
  have HAL := hid hal
  have HND := hid hnd
  have HNM := hid hnm
  clear hv hbw hok hlv hz ha hzl hal hnd hnm
  go_enter Tryz.func4, Tryz.ntmps4
  go_upto_region 1 with fail
  generalize w.alloc (.cells #[.slice a1 V.length c1, .slice a2 A.length c2, .string node, .string nm] 46) = w1 at *
  obtain ⟨gx, hgx⟩ : ∃ gx, w.heap.size = gx := ⟨_, rfl⟩
  rw [hgx] at HX ⊢
  clear hgx
  go_upto_region 2 with (go_at_call 5; refine (read20_any _ l _ HV.out HOK.out).mono ?_; rintro e w2 ⟨p, q, b, rfl, hb, hgd⟩; have HX1 := hid (heap_later2 hb HX.out); have HVZ1 := hid (HVZ.out.below hb (Nat.le_refl _)); have HAZ1 := hid (HAZ.out.below hb (Nat.le_refl _)); have HB1 := hid (below_next HBW.out hb); have HGD := hid hgd; clear hgd; clear hb )
  clear HX HVZ HAZ HBW HV
  cases b
  · go_wp2_with (go_at_call 6; refine (HLV.out _ HB1.out).mono ?_; rintro e wz ⟨rfl, hb⟩; have HBZ := hid (below_next HB1.out hb); clear hb)
    (try simp only [Exit.inBlock, Exit.then])
    (try rw [Exit.noGoto_ret])
    go_ret
    exact ⟨rfl, HBZ.out⟩
  obtain ⟨h40, hob, hsz, hn, hr, hpn, hqn⟩ := HGD.out rfl
  have HNG := hid (netg_of hob HOK.out)
  have HN := hid hn
  have HR := hid hr
  have HPN := hid hpn
  have HQN := hid (show noRef q = false by rw [ref_net q hr]; exact hqn)
  clear h40 hob hsz hn hr hpn hqn HGD
  go_upto_region 4 with (go_at_call 6; refine (HLV.out _ HB1.out).mono ?_; rintro e w3 ⟨rfl, hb⟩; have HX2 := hid (heap_later2 hb HX1.out); have HVZ2 := hid (HVZ1.out.below hb (Nat.le_refl _)); have HAZ2 := hid (HAZ1.out.below hb (Nat.le_refl _)); have HN2 := hid (HN.out.below' hb); have HR2 := hid (HR.out.below' hb); have HB2 := hid (below_next HB1.out hb); clear hb )
  clear HX1 HVZ1 HAZ1 HN HR HB1
  have hsc := block_cells HX2.out
  have s0 := hsc.1 0 _ rfl
  have s1 := hsc.1 1 _ rfl
  have s2 := hsc.1 2 _ rfl
  have s3 := hsc.1 3 _ rfl
  clear hsc
  refine wp_region_any (by kernel_rfl) ?_
  change wpAny _ _ _ _ _ _ _ (World.drew _)
  refine wpAny_makersD [⟨some 36, 0, []⟩, ⟨some 37, 1, []⟩, ⟨some 38, 2, []⟩, ⟨some 39, 3, []⟩, ⟨some 40, 4, []⟩, ⟨some 41, 5, []⟩, ⟨some 42, 6, [2, 5]⟩, ⟨some 8, 7, []⟩]
    (fun w' => w'.heap[gx]? = some (.cells #[.slice a1 V.length c1, .slice a2 A.length c2, .string node, .string nm] 46 (0, 0)) ∧ InSl w' 2 (.slice a1 V.length c1) V.length (V.flatMap zc) ∧ InSl w' 2 (.slice a2 A.length c2) A.length (A.flatMap zc))
    (fun oq v xs ww lo hi => (match oq with | 0 => v = .pointer (some ⟨gx, 0, none⟩) | 1 => v = .slice a1 V.length c1 | 2 => True | 3 => v = .pointer (some ⟨gx, 1, none⟩) | 4 => v = .slice a2 A.length c2 | 5 => True | 6 => v = .agg #[.float .f64 4607182418800017408, xs.getD 0 undef, xs.getD 1 undef] | 7 => True | _ => True) ∧ (oq = 2 → RowC V v ww lo hi) ∧ (oq = 5 → RowC A v ww lo hi) ∧ (oq = 7 → ZSol v ww lo hi)) (by kernel_rfl) ?hSm (fun _ _ hb h => ⟨heap_next hb h.1, h.2.1.below hb (Nat.le_refl _), h.2.2.below hb (Nat.le_refl _)⟩) (fun _ _ _ _ _ _ _ hb _ h => ⟨h.1, fun e => (h.2.1 e).later hb, fun e => (h.2.2.1 e).later hb, fun e => (h.2.2.2 e).later hb⟩) ?hopm ?hendm
  case hSm => exact ⟨heap_next (Below.refl _ _).drew HX2.out, HVZ2.out.below (Below.refl _ _).drew (Nat.le_refl _), HAZ2.out.below (Below.refl _ _).drew (Nat.le_refl _)⟩
  case hopm =>
    delta Owed
    simp only [fillD, Act.put, List.setIfInBounds_toArray, List.set_cons_zero, List.set_cons_succ]
    refine Each.cons rfl ?_ (Each.cons rfl ?_ (Each.cons rfl ?_ (Each.cons rfl ?_ (Each.cons rfl ?_ (Each.cons rfl ?_ (Each.cons rfl ?_ (Each.cons rfl ?_ Each.nil)))))))
    · intro vs w2 hb2 hS2 hR2 K hK
      simp only [List.set_cons_zero, List.set_cons_succ] at hK ⊢
      go_simp
      exact hK.out _ _ (Below.refl _ _) ⟨rfl, (fun e => (by cases e)), (fun e => (by cases e)), (fun e => (by cases e))⟩
    · intro vs w2 hb2 hS2 hR2 K hK
      have h0 : vs 0 = .pointer (some ⟨gx, 0, none⟩) := by obtain ⟨_, _, _, h⟩ := hR2 0 (by kernel_rfl); exact h.1
      simp only [List.set_cons_zero, List.set_cons_succ] at hK ⊢
      have k0 := (cells_ofS hS2.1).1 0 _ rfl
      have k1 := (cells_ofS hS2.1).1 1 _ rfl
      simp only [h0] at hK ⊢
      go_simp
      exact hK.out _ _ (Below.refl _ _) ⟨rfl, (fun e => (by cases e)), (fun e => (by cases e)), (fun e => (by cases e))⟩
    · intro vs w2 hb2 hS2 hR2 K hK
      have h1 : vs 1 = .slice a1 V.length c1 := by obtain ⟨_, _, _, h⟩ := hR2 1 (by kernel_rfl); exact h.1
      simp only [List.set_cons_zero, List.set_cons_succ] at hK ⊢
      simp only [h1] at hK ⊢
      rw [if_pos (by rfl)]
      go_wp2_with (go_at_call 17; refine (numbers_any _ V _ hS2.2.1 HZL.out).mono ?_; rintro e w5 ⟨vr, xr, rfl, hown, rfl, hb⟩)
      exact hK.out _ _ hb ⟨trivial, fun _ => RowD.of hown, (fun e => (by cases e)), (fun e => (by cases e))⟩
    · intro vs w2 hb2 hS2 hR2 K hK
      simp only [List.set_cons_zero, List.set_cons_succ] at hK ⊢
      go_simp
      exact hK.out _ _ (Below.refl _ _) ⟨rfl, (fun e => (by cases e)), (fun e => (by cases e)), (fun e => (by cases e))⟩
    · intro vs w2 hb2 hS2 hR2 K hK
      have h3 : vs 3 = .pointer (some ⟨gx, 1, none⟩) := by obtain ⟨_, _, _, h⟩ := hR2 3 (by kernel_rfl); exact h.1
      simp only [List.set_cons_zero, List.set_cons_succ] at hK ⊢
      have k0 := (cells_ofS hS2.1).1 0 _ rfl
      have k1 := (cells_ofS hS2.1).1 1 _ rfl
      simp only [h3] at hK ⊢
      go_simp
      exact hK.out _ _ (Below.refl _ _) ⟨rfl, (fun e => (by cases e)), (fun e => (by cases e)), (fun e => (by cases e))⟩
    · intro vs w2 hb2 hS2 hR2 K hK
      have h4 : vs 4 = .slice a2 A.length c2 := by obtain ⟨_, _, _, h⟩ := hR2 4 (by kernel_rfl); exact h.1
      simp only [List.set_cons_zero, List.set_cons_succ] at hK ⊢
      simp only [h4] at hK ⊢
      rw [if_pos (by rfl)]
      go_wp2_with (go_at_call 17; refine (numbers_any _ A _ hS2.2.2 HAL.out).mono ?_; rintro e w5 ⟨vr, xr, rfl, hown, rfl, hb⟩)
      exact hK.out _ _ hb ⟨trivial, (fun e => (by cases e)), fun _ => RowD.of hown, (fun e => (by cases e))⟩
    · intro vs w2 hb2 hS2 hR2 K hK
      obtain ⟨_, _, _, H2⟩ := hR2 2 (by kernel_rfl)
      have Y2 := H2.2.1 rfl
      obtain ⟨_, _, _, H5⟩ := hR2 5 (by kernel_rfl)
      have Y5 := H5.2.2.1 rfl
      simp only [List.set_cons_zero, List.set_cons_succ] at hK ⊢
      obtain ⟨⟨p2, p3, h2⟩, _⟩ := Y2
      obtain ⟨⟨p5, p6, h5⟩, _⟩ := Y5
      simp only [h2, h5] at hK ⊢
      go_simp
      exact hK.out _ _ (Below.refl _ _) ⟨(by show _ = Value.agg #[.float .f64 4607182418800017408, vs 2, vs 5]; rw [h2, h5]), (fun e => (by cases e)), (fun e => (by cases e)), (fun e => (by cases e))⟩
    · intro vs w2 hb2 hS2 hR2 K hK
      simp only [List.set_cons_zero, List.set_cons_succ] at hK ⊢
      go_simp
      exact hK.out _ _ ((Below.refl _ _).alloc (Nat.le_refl _) _) ⟨trivial, (fun e => (by cases e)), (fun e => (by cases e)), fun _ => BlkD.new _ _⟩
  case hendm =>
    intro vs wx lo hiv hbx hSx hRx hdx
    have h0 : vs 0 = .pointer (some ⟨gx, 0, none⟩) := (hRx 0 (by kernel_rfl)).1.1
    have h1 : vs 1 = .slice a1 V.length c1 := (hRx 1 (by kernel_rfl)).1.1
    have Y2 := (hRx 2 (by kernel_rfl)).1.2.1 rfl
    have Z2 := (hRx 2 (by kernel_rfl)).2
    have h3 : vs 3 = .pointer (some ⟨gx, 1, none⟩) := (hRx 3 (by kernel_rfl)).1.1
    have h4 : vs 4 = .slice a2 A.length c2 := (hRx 4 (by kernel_rfl)).1.1
    have Y5 := (hRx 5 (by kernel_rfl)).1.2.2.1 rfl
    have Z5 := (hRx 5 (by kernel_rfl)).2
    have h6 : vs 6 = .agg #[.float .f64 4607182418800017408, vs 2, vs 5] := (hRx 6 (by kernel_rfl)).1.1
    have Y7 := (hRx 7 (by kernel_rfl)).1.2.2.2 rfl
    have Z7 := (hRx 7 (by kernel_rfl)).2
    simp only [fillD, Act.put, List.setIfInBounds_toArray, List.set_cons_zero, List.set_cons_succ, h0, h1, h3, h4, h6]
    obtain ⟨⟨av, cv, h2⟩, hown2, hlt2⟩ := Y2
    obtain ⟨⟨aa, ca, h5⟩, hown5, hlt5⟩ := Y5
    obtain ⟨g8, h7, lo7, hi7, hr7⟩ := Y7
    rw [h2] at hown2 hlt2
    rw [h5] at hown5 hlt5
    have hn2 : ∀ k, (Value.slice av V.length cv).ownBlock = some k → some g8 ≠ some k := fun k hk e => by
      cases e
      have := hlt2 _ hk
      have := (hown2.lt _ hk).1
      rcases hdx 2 7 (by kernel_rfl) with h | h <;> omega
    have hn5 : ∀ k, (Value.slice aa A.length ca).ownBlock = some k → some g8 ≠ some k := fun k hk e => by
      cases e
      have := hlt5 _ hk
      have := (hown5.lt _ hk).1
      rcases hdx 5 7 (by kernel_rfl) with h | h <;> omega
    have l8 : w3.heap.size ≤ g8 := Nat.le_trans Z7.1 lo7
    have hb := below_drew_left hbx
    have hgr : wx.grownBy (((wx.setCell ⟨g8, 0, none⟩ (.float .f64 4607182418800017408)).setCell ⟨g8, 1, none⟩ (.slice av V.length cv)).setCell ⟨g8, 2, none⟩ (.slice aa A.length ca)) (some g8) := grown_trans (grown_trans (set1_grown wx g8 0 _) (set1_grown _ g8 1 _)) (set1_grown _ g8 2 _)
    have hbS : Below w3.heap.size w3 (((wx.setCell ⟨g8, 0, none⟩ (.float .f64 4607182418800017408)).setCell ⟨g8, 1, none⟩ (.slice av V.length cv)).setCell ⟨g8, 2, none⟩ (.slice aa A.length ca)) := ((hb.setCell (p := ⟨g8, 0, none⟩) l8 _).setCell (p := ⟨g8, 1, none⟩) l8 _).setCell (p := ⟨g8, 2, none⟩) l8 _
    have HX3 := hid (heap_later2 hbS HX2.out)
    have HVZ3 := hid (HVZ2.out.below hbS (Nat.le_refl _))
    have HAZ3 := hid (HAZ2.out.below hbS (Nat.le_refl _))
    have HN3 := hid (HN2.out.below' hbS)
    have HR3 := hid (HR2.out.below' hbS)
    have HB3 := hid (below_next HB2.out hbS)
    have HSV := hid ((IsSl.of_own hown2).grown hgr hn2)
    have HSA := hid ((IsSl.of_own hown5).grown hgr hn5)
    have HS8 := hid (show (((wx.setCell ⟨g8, 0, none⟩ (.float .f64 4607182418800017408)).setCell ⟨g8, 1, none⟩ (.slice av V.length cv)).setCell ⟨g8, 2, none⟩ (.slice aa A.length ca)).heap[g8]? = some (.cells #[.float .f64 4607182418800017408, .slice av V.length cv, .slice aa A.length ca] 50 (0, 0)) from blk_set1 (blk_set1 (blk_set1 hr7 _) _) _)
    have hbk := block_cells hr7
    have f0 := hbk.2 0
    have f1 := hbk.2 1
    have f2 := hbk.2 2
    have v0 := hbk.1 0 _ rfl
    have v1 := hbk.1 1 _ rfl
    have v2 := hbk.1 2 _ rfl
    clear hbk
    simp only [h6, h2, h5, h7]
    clear hbx hSx hRx hdx hr7 lo7 hi7 hown2 hown5 hlt2 hlt5 hn2 hn5 l8 hb hbS hgr Z2 Z5 Z7 h0 h1 h2 h3 h4 h5 h6 h7 HX2 HVZ2 HAZ2 HN2 HR2 HB2
    refine wpAny_one (i := 8) (by kernel_rfl) rfl (fun K hK => ?_)
    go_simp
    refine hK.out _ _ ?_
    clear hK
    refine wpAny_done (by kernel_rfl) ?_ _
    clear f0 f1 f2 v0 v1 v2 s0 s1 s2 s3
    generalize (((wx.setCell ⟨g8, 0, none⟩ (.float .f64 4607182418800017408)).setCell ⟨g8, 1, none⟩ (.slice av V.length cv)).setCell ⟨g8, 2, none⟩ (.slice aa A.length ca)) = w4 at *
    have hsc := block_cells HS8.out
    have v0 := hsc.1 0 _ rfl
    have v1 := hsc.1 1 _ rfl
    have v2 := hsc.1 2 _ rfl
    clear hsc
    go_upto_region 6 with (go_at_call 18; refine (lentsol_any _ _ 4607182418800017408 V A _ HSV.out HSA.out HZL.out HAL.out).mono ?_; rintro e w5 ⟨ao, bo, co, do_, rfl, hw1, hw2, hne, hb⟩; have HX4 := hid (heap_later2 hb HX3.out); have HN4 := hid (HN3.out.below' hb); have HR4 := hid (HR3.out.below' hb); have HSV4 := hid (HSV.out.below hb (Nat.le_refl _)); have HSA4 := hid (HSA.out.below hb (Nat.le_refl _)); have HS84 := hid (heap_later2 hb HS8.out); have HB4 := hid (below_next HB3.out hb); have HF0 := hid (IsSl.of_own hw1); have HF1 := hid (IsSl.of_own hw2); clear hw1 hw2 hne; clear hb )
    clear v0 v1 v2 HX3 HN3 HR3 HSV HSA HS8 HB3
    have HX5 := hid (heap_later2 ((Below.refl w5.heap.size w5).alloc (Nat.le_refl _) (.cells #[.float .f64 4607182418800017408, .slice ao V.length co, .slice bo A.length do_] 50)) HX4.out)
    have HN5 := hid (HN4.out.below' ((Below.refl w5.heap.size w5).alloc (Nat.le_refl _) (.cells #[.float .f64 4607182418800017408, .slice ao V.length co, .slice bo A.length do_] 50)))
    have HR5 := hid (HR4.out.below' ((Below.refl w5.heap.size w5).alloc (Nat.le_refl _) (.cells #[.float .f64 4607182418800017408, .slice ao V.length co, .slice bo A.length do_] 50)))
    have HSV5 := hid (HSV4.out.below ((Below.refl w5.heap.size w5).alloc (Nat.le_refl _) (.cells #[.float .f64 4607182418800017408, .slice ao V.length co, .slice bo A.length do_] 50)) (Nat.le_refl _))
    have HSA5 := hid (HSA4.out.below ((Below.refl w5.heap.size w5).alloc (Nat.le_refl _) (.cells #[.float .f64 4607182418800017408, .slice ao V.length co, .slice bo A.length do_] 50)) (Nat.le_refl _))
    have HS85 := hid (heap_later2 ((Below.refl w5.heap.size w5).alloc (Nat.le_refl _) (.cells #[.float .f64 4607182418800017408, .slice ao V.length co, .slice bo A.length do_] 50)) HS84.out)
    have HF05 := hid (HF0.out.below ((Below.refl w5.heap.size w5).alloc (Nat.le_refl _) (.cells #[.float .f64 4607182418800017408, .slice ao V.length co, .slice bo A.length do_] 50)) (Nat.le_refl _))
    have HF15 := hid (HF1.out.below ((Below.refl w5.heap.size w5).alloc (Nat.le_refl _) (.cells #[.float .f64 4607182418800017408, .slice ao V.length co, .slice bo A.length do_] 50)) (Nat.le_refl _))
    have HB5 := hid (below_next HB4.out ((Below.refl w5.heap.size w5).alloc (Nat.le_refl _) (.cells #[.float .f64 4607182418800017408, .slice ao V.length co, .slice bo A.length do_] 50)))
    have HZ5 := hid (show (w5.alloc (.cells #[.float .f64 4607182418800017408, .slice ao V.length co, .slice bo A.length do_] 50)).heap.size = w5.heap.size + 1 by simp)
    have H9 := hid (heap_alloc_new w5 (.cells #[.float .f64 4607182418800017408, .slice ao V.length co, .slice bo A.length do_] 50))
    clear HX4 HN4 HR4 HSV4 HSA4 HS84 HF0 HF1 HB4
    generalize w5.alloc (.cells #[.float .f64 4607182418800017408, .slice ao V.length co, .slice bo A.length do_] 50) = w6 at *
    obtain ⟨g9, hg9⟩ : ∃ g9, w5.heap.size = g9 := ⟨_, rfl⟩
    rw [hg9] at H9 HZ5 ⊢
    clear hg9
    have HX6 := hid (heap_later2 ((Below.refl w6.heap.size w6).alloc (Nat.le_refl _) (.cells #[.slice ao (V.length + 6) co, .slice bo (A.length + 6) do_] 51)) HX5.out)
    have HN6 := hid (HN5.out.below' ((Below.refl w6.heap.size w6).alloc (Nat.le_refl _) (.cells #[.slice ao (V.length + 6) co, .slice bo (A.length + 6) do_] 51)))
    have HR6 := hid (HR5.out.below' ((Below.refl w6.heap.size w6).alloc (Nat.le_refl _) (.cells #[.slice ao (V.length + 6) co, .slice bo (A.length + 6) do_] 51)))
    have HSV6 := hid (HSV5.out.below ((Below.refl w6.heap.size w6).alloc (Nat.le_refl _) (.cells #[.slice ao (V.length + 6) co, .slice bo (A.length + 6) do_] 51)) (Nat.le_refl _))
    have HSA6 := hid (HSA5.out.below ((Below.refl w6.heap.size w6).alloc (Nat.le_refl _) (.cells #[.slice ao (V.length + 6) co, .slice bo (A.length + 6) do_] 51)) (Nat.le_refl _))
    have HS86 := hid (heap_later2 ((Below.refl w6.heap.size w6).alloc (Nat.le_refl _) (.cells #[.slice ao (V.length + 6) co, .slice bo (A.length + 6) do_] 51)) HS85.out)
    have HF06 := hid (HF05.out.below ((Below.refl w6.heap.size w6).alloc (Nat.le_refl _) (.cells #[.slice ao (V.length + 6) co, .slice bo (A.length + 6) do_] 51)) (Nat.le_refl _))
    have HF16 := hid (HF15.out.below ((Below.refl w6.heap.size w6).alloc (Nat.le_refl _) (.cells #[.slice ao (V.length + 6) co, .slice bo (A.length + 6) do_] 51)) (Nat.le_refl _))
    have H96 := hid (heap_later2 ((Below.refl w6.heap.size w6).alloc (Nat.le_refl _) (.cells #[.slice ao (V.length + 6) co, .slice bo (A.length + 6) do_] 51)) H9.out)
    have HB6 := hid (below_next HB5.out ((Below.refl w6.heap.size w6).alloc (Nat.le_refl _) (.cells #[.slice ao (V.length + 6) co, .slice bo (A.length + 6) do_] 51)))
    have H10 := hid (heap_alloc_new w6 (.cells #[.slice ao (V.length + 6) co, .slice bo (A.length + 6) do_] 51))
    rw [HZ5.out] at H10
    clear HX5 HN5 HR5 HSV5 HSA5 HS85 HF05 HF15 H9 HB5
    generalize w6.alloc (.cells #[.slice ao (V.length + 6) co, .slice bo (A.length + 6) do_] 51) = w7 at *
    obtain ⟨g10, hg10⟩ : ∃ g10, g9 + 1 = g10 := ⟨_, rfl⟩
    rw [hg10] at H10 ⊢
    clear hg10 HZ5
    obtain ⟨vz, ve, hve⟩ : ∃ z e, vltS false l V A.length node = (z, e) := ⟨_, _, rfl⟩
    obtain ⟨az, ae, hae⟩ : ∃ z e, acrS false l V A.length nm = (z, e) := ⟨_, _, rfl⟩
    obtain ⟨bz, be, hbe⟩ : ∃ z e, brnS false l V.length A nm = (z, e) := ⟨_, _, rfl⟩
    have HVE := hid hve
    have HAE := hid hae
    have HBE := hid hbe
    clear hve hae hbe
    have hbk := block_cells H96.out
    have o0 := hbk.1 0 _ rfl
    have o1 := hbk.1 1 _ rfl
    have o2 := hbk.1 2 _ rfl
    clear hbk
    have hbk := block_cells HX6.out
    have x2 := hbk.1 2 _ rfl
    have x3 := hbk.1 3 _ rfl
    clear hbk
    go_upto_region 7 with (go_at_call 19; refine (volt_any p _ _ l 4607182418800017408 V A node _ HN6.out HNG.out (own_row HF06.out) (own_row HF16.out) HND.out).mono ?_; rintro e w8 ⟨rfl, hb⟩; have HX7 := hid (heap_later2 hb HX6.out); have HN7 := hid (HN6.out.below' hb); have HR7 := hid (HR6.out.below' hb); have HSV7 := hid (HSV6.out.below hb (Nat.le_refl _)); have HSA7 := hid (HSA6.out.below hb (Nat.le_refl _)); have HS87 := hid (heap_later2 hb HS86.out); have HF07 := hid (HF06.out.below hb (Nat.le_refl _)); have HF17 := hid (HF16.out.below hb (Nat.le_refl _)); have H97 := hid (heap_later2 hb H96.out); have H107 := hid (heap_later2 hb H10.out); have HB7 := hid (below_next HB6.out hb); rw [HPN.out, HVE.out]; (try dsimp only); clear hb )
    clear o0 o1 o2 x2 x3 HX6 HN6 HR6 HSV6 HSA6 HS86 HF06 HF16 H96 H10 HB6
    have hbk := block_cells H97.out
    have o0 := hbk.1 0 _ rfl
    have o1 := hbk.1 1 _ rfl
    have o2 := hbk.1 2 _ rfl
    clear hbk
    have hbk := block_cells HX7.out
    have x2 := hbk.1 2 _ rfl
    have x3 := hbk.1 3 _ rfl
    clear hbk
    go_upto_region 8 with (go_at_call 20; refine (across_any p _ _ l 4607182418800017408 V A nm _ HN7.out HNG.out (own_row HF07.out) (own_row HF17.out) HNM.out).mono ?_; rintro e w9 ⟨r1, i1, rfl, hz1, hb⟩; have HX8 := hid (heap_later2 hb HX7.out); have HN8 := hid (HN7.out.below' hb); have HR8 := hid (HR7.out.below' hb); have HSV8 := hid (HSV7.out.below hb (Nat.le_refl _)); have HSA8 := hid (HSA7.out.below hb (Nat.le_refl _)); have HS88 := hid (heap_later2 hb HS87.out); have HF08 := hid (HF07.out.below hb (Nat.le_refl _)); have HF18 := hid (HF17.out.below hb (Nat.le_refl _)); have H98 := hid (heap_later2 hb H97.out); have H108 := hid (heap_later2 hb H107.out); have HB8 := hid (below_next HB7.out hb); rw [HPN.out, HAE.out] at hz1 ⊢; have HZ1 := hid hz1; clear hz1; (try dsimp only); clear hb )
    clear o0 o1 o2 x2 x3 HX7 HN7 HR7 HSV7 HSA7 HS87 HF07 HF17 H97 H107 HB7
    have hbk := block_cells H98.out
    have o0 := hbk.1 0 _ rfl
    have o1 := hbk.1 1 _ rfl
    have o2 := hbk.1 2 _ rfl
    clear hbk
    have hbk := block_cells HX8.out
    have x2 := hbk.1 2 _ rfl
    have x3 := hbk.1 3 _ rfl
    clear hbk
    go_upto_region 9 with (go_at_call 21; refine (branch_any p _ _ l 4607182418800017408 V A nm _ HN8.out HNG.out (own_row HF08.out) (own_row HF18.out) HNM.out).mono ?_; rintro e w10 ⟨r2, i2, rfl, hz2, hb⟩; have HX9 := hid (heap_later2 hb HX8.out); have HN9 := hid (HN8.out.below' hb); have HR9 := hid (HR8.out.below' hb); have HSV9 := hid (HSV8.out.below hb (Nat.le_refl _)); have HSA9 := hid (HSA8.out.below hb (Nat.le_refl _)); have HS89 := hid (heap_later2 hb HS88.out); have HF09 := hid (HF08.out.below hb (Nat.le_refl _)); have HF19 := hid (HF18.out.below hb (Nat.le_refl _)); have H99 := hid (heap_later2 hb H98.out); have H109 := hid (heap_later2 hb H108.out); have HB9 := hid (below_next HB8.out hb); rw [HPN.out, HBE.out] at hz2 ⊢; have HZ2 := hid hz2; clear hz2; (try dsimp only); clear hb )
    clear o0 o1 o2 x2 x3 HX8 HN8 HR8 HSV8 HSA8 HS88 HF08 HF18 H98 H108 HB8
    have hbk := block_cells HS89.out
    have o0 := hbk.1 0 _ rfl
    have o1 := hbk.1 1 _ rfl
    have o2 := hbk.1 2 _ rfl
    clear hbk
    have hbk := block_cells HX9.out
    have x2 := hbk.1 2 _ rfl
    have x3 := hbk.1 3 _ rfl
    clear hbk
    go_upto_region 10 with (go_at_call 22; refine (rvolt20_any q _ _ l 4607182418800017408 V A node _ HR9.out HNG.out.len HSV9.out HSA9.out).mono ?_; rintro e w11 ⟨rfl, hb⟩; have HX10 := hid (heap_later2 hb HX9.out); have HN10 := hid (HN9.out.below' hb); have HR10 := hid (HR9.out.below' hb); have HSV10 := hid (HSV9.out.below hb (Nat.le_refl _)); have HSA10 := hid (HSA9.out.below hb (Nat.le_refl _)); have HS810 := hid (heap_later2 hb HS89.out); have HF010 := hid (HF09.out.below hb (Nat.le_refl _)); have HF110 := hid (HF19.out.below hb (Nat.le_refl _)); have H910 := hid (heap_later2 hb H99.out); have H1010 := hid (heap_later2 hb H109.out); have HB10 := hid (below_next HB9.out hb); rw [HQN.out, HVE.out]; (try dsimp only); clear hb )
    clear o0 o1 o2 x2 x3 HX9 HN9 HR9 HSV9 HSA9 HS89 HF09 HF19 H99 H109 HB9
    have hbk := block_cells HS810.out
    have o0 := hbk.1 0 _ rfl
    have o1 := hbk.1 1 _ rfl
    have o2 := hbk.1 2 _ rfl
    clear hbk
    have hbk := block_cells HX10.out
    have x2 := hbk.1 2 _ rfl
    have x3 := hbk.1 3 _ rfl
    clear hbk
    go_upto_region 11 with (go_at_call 23; refine (racross_any q _ _ l 4607182418800017408 V A nm _ HR10.out HNG.out.len HSV10.out HSA10.out).mono ?_; rintro e w12 ⟨r3, i3, rfl, hz3, hb⟩; have HX11 := hid (heap_later2 hb HX10.out); have HN11 := hid (HN10.out.below' hb); have HR11 := hid (HR10.out.below' hb); have HSV11 := hid (HSV10.out.below hb (Nat.le_refl _)); have HSA11 := hid (HSA10.out.below hb (Nat.le_refl _)); have HS811 := hid (heap_later2 hb HS810.out); have HF011 := hid (HF010.out.below hb (Nat.le_refl _)); have HF111 := hid (HF110.out.below hb (Nat.le_refl _)); have H911 := hid (heap_later2 hb H910.out); have H1011 := hid (heap_later2 hb H1010.out); have HB11 := hid (below_next HB10.out hb); rw [HQN.out, HAE.out] at hz3 ⊢; have HZ3 := hid hz3; clear hz3; (try dsimp only); clear hb )
    clear o0 o1 o2 x2 x3 HX10 HN10 HR10 HSV10 HSA10 HS810 HF010 HF110 H910 H1010 HB10
    have hbk := block_cells HS811.out
    have o0 := hbk.1 0 _ rfl
    have o1 := hbk.1 1 _ rfl
    have o2 := hbk.1 2 _ rfl
    clear hbk
    have hbk := block_cells HX11.out
    have x2 := hbk.1 2 _ rfl
    have x3 := hbk.1 3 _ rfl
    clear hbk
    go_upto_region 12 with (go_at_call 24; refine (rbranch20_any q _ _ l 4607182418800017408 V A nm _ HR11.out HNG.out.len HSV11.out HSA11.out).mono ?_; rintro e w13 ⟨r4, i4, rfl, hz4, hb⟩; have HX12 := hid (heap_later2 hb HX11.out); have HN12 := hid (HN11.out.below' hb); have HR12 := hid (HR11.out.below' hb); have HSV12 := hid (HSV11.out.below hb (Nat.le_refl _)); have HSA12 := hid (HSA11.out.below hb (Nat.le_refl _)); have HS812 := hid (heap_later2 hb HS811.out); have HF012 := hid (HF011.out.below hb (Nat.le_refl _)); have HF112 := hid (HF111.out.below hb (Nat.le_refl _)); have H912 := hid (heap_later2 hb H911.out); have H1012 := hid (heap_later2 hb H1011.out); have HB12 := hid (below_next HB11.out hb); rw [HQN.out, HBE.out] at hz4 ⊢; have HZ4 := hid hz4; clear hz4; (try dsimp only); clear hb )
    clear o0 o1 o2 x2 x3 HX11 HN11 HR11 HSV11 HSA11 HS811 HF011 HF111 H911 H1011 HB11
    have HS1 := hid (show (ck (vz.1, vz.2) == ck (vz.1, vz.2)) = true by simp)
    have HS2 := hid (ce_same HZ1.out HZ3.out)
    have HS3 := hid (ce_same HZ2.out HZ4.out)
    have hsc := block_cells HS812.out
    have v0 := hsc.1 0 _ rfl
    have v1 := hsc.1 1 _ rfl
    have v2 := hsc.1 2 _ rfl
    clear hsc
    have hbk := block_cells H1012.out
    have o0 := hbk.1 0 _ rfl
    have o1 := hbk.1 1 _ rfl
    clear hbk
    go_wp2_with (first | (go_at_call 25; refine (sn_any _ _ _ _ _).mono ?_; rintro e w' ⟨rfl, rfl⟩; first | rw [HS1.out] | rw [HS2.out] | rw [HS3.out]) | (go_at_call 26; refine (keptsol_any _ _ _ _ 4607182418800017408 V A _ HF012.out HF112.out HSV12.out HSA12.out HZL.out HAL.out).mono ?_; rintro e wz ⟨_, rfl, hb, rfl⟩; have HBZ := hid (below_next HB12.out hb); clear hb))
    (try simp only [Exit.inBlock, Exit.then])
    (try rw [Exit.noGoto_ret])
    go_ret
    exact ⟨rfl, HBZ.out⟩
end Go.Proofs.YtjeedckmkicnoaaGreatDoor
