/- CurrentTurned walked: of every net, every solution, and one of its R, L, C, P. -/
import Derived.Test.YtlaibmeokghdmaaGreatDoorMTrn0
import Derived.Test.YtlaibmeokghdmaaGreatDoorMPik
namespace Go.Proofs.YtlaibmeokghdmaaGreatDoor
open Go.RowKit

theorem bad1_nz {l : List El} {k : Nat} {q : Nat × Int} : ∀ {r : List El}, firstBad l k r = some q → q.2 ≠ 0 := by
  intro r
  induction r generalizing k with
  | nil => intro h; cases h
  | cons x r ih =>
    intro h
    unfold firstBad at h
    split at h
    · exact ih h
    · rename_i h0
      obtain rfl := Option.some.inj h
      exact h0
theorem ofL_err {l : List El} (h : (ofL l).1 = false) : (ofL l).2.1 ≠ 0 := by
  unfold ofL at *
  split at h
  · rename_i h1; rw [if_pos h1]; decide
  · rename_i h1
    rw [if_neg h1]
    cases hf : firstBad l 0 l with
    | some q => exact bad1_nz hf
    | none =>
      rw [hf] at h
      dsimp only at h ⊢
      split at h
      · rename_i h2; rw [if_pos h2]; decide
      · cases h
theorem ofL_zero {l : List El} (h : (ofL l).1 = true) : (ofL l).2 = (0, 0) := by
  unfold ofL at *
  split at h
  · cases h
  · rename_i h1
    rw [if_neg h1]
    cases hf : firstBad l 0 l with
    | some q => rw [hf] at h; cases h
    | none =>
      rw [hf] at h
      dsimp only at h ⊢
      split at h
      · cases h
      · rename_i h2; rw [if_neg h2]
theorem retof_bad {R : World → Value → List El → Prop} {l : List El} {w w' : World} {e : Ending} (h : RetOf R l w e w') (h0 : (ofL l).1 = false) : ∃ x y : Int, e = .returned (.tuple #[.pointer none, .agg #[.int .i64 x, .int .i64 y]]) ∧ x ≠ 0 ∧ Below w.heap.size w w' := by
  obtain ⟨p, rfl, h, hb⟩ := h
  rcases h with ⟨_, rfl⟩ | ⟨h1, _⟩
  · exact ⟨_, _, rfl, ofL_err h0, hb⟩
  · rw [h0] at h1; cases h1
theorem retof_good {l : List El} {w w' : World} {e : Ending} (h : RetOf NN l w e w') (h0 : (ofL l).1 = true) : ∃ g : Nat, e = .returned (.tuple #[.pointer (some ⟨g, 0, none⟩), .agg #[.int .i64 0, .int .i64 0]]) ∧ NN w' (.pointer (some ⟨g, 0, none⟩)) l ∧ Below w.heap.size w w' := by
  obtain ⟨p, rfl, h, hb⟩ := h
  rcases h with ⟨h1, _⟩ | ⟨_, h2, h3⟩
  · rw [h0] at h1; cases h1
  · rw [ofL_zero h0]
    rcases h3 with ⟨h4, _⟩ | ⟨B, g, vl, vn, vb, bn, bp, bb, rfl, h4⟩
    · exact absurd h4 h2
    · exact ⟨g, rfl, .inr ⟨B, g, vl, vn, vb, bn, bp, bb, rfl, h4⟩, hb⟩
theorem kindT_ways (k : Int) : ((k = 1 ∨ k = 2 ∨ k = 3 ∨ k = 8) ∧ ((k != 1) = false ∨ ((k != 1) = true ∧ (k != 2) = false) ∨ ((k != 1) = true ∧ (k != 2) = true ∧ (k != 3) = false) ∨ ((k != 1) = true ∧ (k != 2) = true ∧ (k != 3) = true ∧ (k != 8) = false))) ∨
    ((k != 1) = true ∧ (k != 2) = true ∧ (k != 3) = true ∧ (k != 8) = true) := by
  by_cases h1 : k = 1
  · subst h1; exact .inl ⟨.inl rfl, .inl rfl⟩
  · by_cases h2 : k = 2
    · subst h2; exact .inl ⟨.inr (.inl rfl), .inr (.inl ⟨rfl, rfl⟩)⟩
    · by_cases h3 : k = 3
      · subst h3; exact .inl ⟨.inr (.inr (.inl rfl)), .inr (.inr (.inl ⟨rfl, rfl, rfl⟩))⟩
      · by_cases h4 : k = 8
        · subst h4; exact .inl ⟨.inr (.inr (.inr rfl)), .inr (.inr (.inr ⟨rfl, rfl, rfl, rfl⟩))⟩
        · exact .inr ⟨by simpa using h1, by simpa using h2, by simpa using h3, by simpa using h4⟩
theorem size_one {s : ByteArray} (h : (s.toList == []) = false) : ¬ ((s.size : Int) < 1) := by
  intro hs
  have h1 : s.data.toList.length = s.size := by rw [Array.length_toList]; rfl
  have h0 : s.toList = [] := by rw [toList_data]; exact List.eq_nil_of_length_eq_zero (by omega)
  rw [h0] at h
  cases h
theorem nn_ne {w : World} {g : Nat} {l : List El} : noNet (.pointer (some ⟨g, 0, none⟩)) = false := rfl
set_option maxRecDepth 100000 in
set_option maxHeartbeats 2000000 in
theorem curturned_walk (v v1 v2 : Value) (l : List El) (om : Nat) (ft : Bool) (V A : List Cx) (wh : Int) (w : World) (haw : ∀ w' : World, Below w.heap.size w w' → Calls Tryz.prog 21 #[] w' fun e w'' => e = .returned (.bool true) ∧ Below w'.heap.size w' w'')
    (hv : InSl w 8 v l.length (l.flatMap ez)) (hle : l.length * 104 ≤ 140737488351232) (hok : ∀ e ∈ l, e.Ok)
    (h1 : InSl w 2 v1 V.length (V.flatMap zc)) (h2 : InSl w 2 v2 A.length (A.flatMap zc)) (hlv : V.length * 16 ≤ 140737488351232) (hla : A.length * 16 ≤ 140737488351232) :
    Calls Tryz.prog 5 #[v, .agg #[.int .u64 om, v1, v2, .bool ft], .int .i64 wh] w fun e w' => e = .returned (.bool true) ∧ Below w.heap.size w w' := by
  obtain ⟨a0, c0, rfl⟩ := hv.form
  obtain ⟨a1, c1, rfl⟩ := h1.form
  obtain ⟨a2, c2, rfl⟩ := h2.form
  have hbw : Below w.heap.size w (w.alloc (.cells #[.int .u64 om, .slice a1 V.length c1, .slice a2 A.length c2, .bool ft] 60)) := (Below.refl w.heap.size w).alloc (Nat.le_refl _) _
  have HS := hid (heap_alloc_new w (.cells #[.int .u64 om, .slice a1 V.length c1, .slice a2 A.length c2, .bool ft] 60))
  have HV := hid (hv.below hbw (Nat.le_refl _))
  have HBW := hid hbw
  have HI1 := hid h1
  have HI2 := hid h2
  have HAW := hid haw
  have HOK := hid hok
  have HLE := hid hle
  clear hv h1 h2 hbw hok haw
  go_enter Tryz.func5, Tryz.ntmps5
  go_upto_region 1 with fail
  generalize w.alloc (.cells #[.int .u64 om, .slice a1 V.length c1, .slice a2 A.length c2, .bool ft] 60) = w0 at *
  cases hob : (ofL l).1
  · have HOB := hid hob
    clear hob
    go_upto_region 2 with (first | (go_at_call 7; refine (elements_any _ l _ HV.out HLE.out).mono ?_; rintro e w1 ⟨vo, xs, rfl, hown, rfl, hb⟩; have HS1 := hid (heap_later2 hb HS.out); have HB1 := hid (below_next HBW.out hb); have HO := hid (IsSl.of_own hown); obtain ⟨ao, co, rfl⟩ := HO.out.form; clear hb hown) | (go_at_call 6; refine (nof_any _ l _ HO.out HOK.out (by have := HLE.out; omega)).mono ?_; intro e w2 hr; obtain ⟨fx, fy, rfl, hfx, hb⟩ := retof_bad hr HOB.out; have HS2 := hid (heap_later2 hb HS1.out); have HO2 := hid (HO.out.below hb (Nat.le_refl _)); have HB2 := hid (below_next HB1.out hb); clear hb hr; have HFX := hid hfx; clear hfx))
    clear HS HBW HV HS1 HO HB1
    have hne : (fx != 0) = true := by simpa using HFX.out
    have HS3 := hid (heap_later2 ((Below.refl w2.heap.size w2).alloc (Nat.le_refl _) (.cells #[.int .i64 fx, .int .i64 fy] 27)) HS2.out)
    have HO3 := hid (HO2.out.below ((Below.refl w2.heap.size w2).alloc (Nat.le_refl _) (.cells #[.int .i64 fx, .int .i64 fy] 27)) (Nat.le_refl _))
    have HB3 := hid (below_next HB2.out ((Below.refl w2.heap.size w2).alloc (Nat.le_refl _) (.cells #[.int .i64 fx, .int .i64 fy] 27)))
    have hzz := (block_cells (heap_alloc_new w2 (.cells #[.int .i64 fx, .int .i64 fy] 27))).1
    have z0 := hzz 0 _ rfl
    have z1 := hzz 1 _ rfl
    clear hzz
    clear HS2 HO2 HB2
    generalize w2.alloc (.cells #[.int .i64 fx, .int .i64 fy] 27) = w3 at *
    go_wp2_with (go_at_call 21; refine (HAW.out _ (by first | exact HB3.out | assumption)).mono ?_; rintro e wz ⟨rfl, hb⟩; have HBZ := hid (below_next HB3.out hb); clear hb)
    go_ret
    exact ⟨rfl, HBZ.out⟩
  · have HOB := hid hob
    clear hob
    go_upto_region 2 with (first | (go_at_call 7; refine (elements_any _ l _ HV.out HLE.out).mono ?_; rintro e w1 ⟨vo, xs, rfl, hown, rfl, hb⟩; have HS1 := hid (heap_later2 hb HS.out); have HV1 := hid (HV.out.below hb (Nat.le_refl _)); have HB1 := hid (below_next HBW.out hb); have HO := hid (IsSl.of_own hown); obtain ⟨ao, co, rfl⟩ := HO.out.form; clear hb hown) | (go_at_call 6; refine (nof_any _ l _ HO.out HOK.out (by have := HLE.out; omega)).mono ?_; intro e w2 hr; obtain ⟨gn, rfl, hnn, hb⟩ := retof_good hr HOB.out; have HS2 := hid (heap_later2 hb HS1.out); have HV2 := hid (HV1.out.below hb (Nat.le_refl _)); have HO2 := hid (HO.out.below hb (Nat.le_refl _)); have HB2 := hid (below_next HB1.out hb); clear hb hr; have HN := hid hnn; clear hnn))
    clear HS HV HBW HS1 HV1 HO HB1
    have HS3 := hid (heap_later2 ((Below.refl w2.heap.size w2).alloc (Nat.le_refl _) (.cells #[.int .i64 0, .int .i64 0] 27)) HS2.out)
    have HV3 := hid (HV2.out.below ((Below.refl w2.heap.size w2).alloc (Nat.le_refl _) (.cells #[.int .i64 0, .int .i64 0] 27)) (Nat.le_refl _))
    have HO3 := hid (HO2.out.below ((Below.refl w2.heap.size w2).alloc (Nat.le_refl _) (.cells #[.int .i64 0, .int .i64 0] 27)) (Nat.le_refl _))
    have HN3 := hid (HN.out.below' ((Below.refl w2.heap.size w2).alloc (Nat.le_refl _) (.cells #[.int .i64 0, .int .i64 0] 27)))
    have HB3 := hid (below_next HB2.out ((Below.refl w2.heap.size w2).alloc (Nat.le_refl _) (.cells #[.int .i64 0, .int .i64 0] 27)))
    have HGFS := hid (show w.heap.size ≤ w2.heap.size from HB2.out.size)
    have HFB := hid (heap_alloc_new w2 (.cells #[.int .i64 0, .int .i64 0] 27))
    clear HS2 HV2 HO2 HN HB2
    generalize w2.alloc (.cells #[.int .i64 0, .int .i64 0] 27) = w3 at *
    generalize w2.heap.size = gf at *
    have hzz := (block_cells HFB.out).1
    have z0 := hzz 0 _ rfl
    have z1 := hzz 1 _ rfl
    clear hzz
    have HLN := hid (ofL_true HOB.out).1
    by_cases hl0 : l.length = 0
    · have hb0 : ((l.length : Int) == 0) = true := by simp [hl0]
      clear hl0
      go_wp2_with (go_at_call 21; refine (HAW.out _ HB3.out).mono ?_; rintro e wz ⟨rfl, hb⟩; have HBZ := hid (below_next HB3.out hb); clear hb)
      go_ret
      exact ⟨rfl, HBZ.out⟩
    · have HLP := hid (Nat.pos_of_ne_zero hl0)
      have hb0 : ((l.length : Int) == 0) = false := by simpa using hl0
      clear hl0
      obtain ⟨iu, hiu, hu0, hu1, hu2⟩ := info_parts infoEa
      go_upto_region 5 with (go_at_call 10; refine (nelements_any _ l _ HN3.out (by have := HLN.out; omega)).mono ?_; rintro e w4 ⟨v0, xs, rfl, hown, rfl, hb⟩; have HS4 := hid (heap_later2 hb HS3.out); have HV4 := hid (HV3.out.below hb (Nat.le_refl _)); have HN4 := hid (HN3.out.below' hb); have HFB4 := hid (heap_later2 hb HFB.out); have HB4 := hid (below_next HB3.out hb); have HE := hid (IsSl.of_own hown); obtain ⟨ae, ce, rfl⟩ := HE.out.form; clear hown; clear hb )
      clear HS3 HV3 HN3 HFB HB3
      go_upto_region 7 with fail
      obtain ⟨k, hkk, hkl⟩ : ∃ k : Nat, wh % (l.length : Int) = (k : Int) ∧ k < l.length := ⟨(wh % (l.length : Int)).toNat, by have := Int.emod_nonneg wh (show (l.length : Int) ≠ 0 by have := HLP.out; omega); omega, by have := Int.emod_lt_of_pos wh (show (0 : Int) < l.length by have := HLP.out; omega); have := Int.emod_nonneg wh (show (l.length : Int) ≠ 0 by have := HLP.out; omega); omega⟩
      have HKK := hid hkk
      have HKL := hid hkl
      clear hkk hkl
      go_upto_region 8 with (go_at_call 22; refine (pick_any wh l.length _ HLP.out (by have := HLN.out; omega)).mono ?_; rintro e wp ⟨rfl, rfl⟩; rw [HKK.out])
      obtain ⟨g1, o1, x, hidx, hg, hx, hcell⟩ := IsSl.atF Tryz.underlying30 hiu hu1 ea_len HE.out rfl HKL.out
      have e0 : w4.cell? ⟨g1, o1, none⟩ = some (.int .u8 x.kind) := hcell 0 _ rfl
      have e1 := hcell 1 _ rfl
      have e2 := hcell 2 _ rfl
      have e3 := hcell 3 _ rfl
      have e4 := hcell 4 _ rfl
      have e5 := hcell 5 _ rfl
      have e6 := hcell 6 _ rfl
      have e7 := hcell 7 _ rfl
      have HXK := hid hx
      clear hg hx hcell
      go_upto_region 9 with fail
      have HS5 := hid (heap_later2 ((Below.refl w4.heap.size w4).alloc (Nat.le_refl _) (.cells #[.int .u8 x.kind, .string x.name, .string x.a, .string x.b, .string x.c, .string x.d, .float .f64 x.val, .int .i64 x.ph] 44)) HS4.out)
      have HV5 := hid (HV4.out.below ((Below.refl w4.heap.size w4).alloc (Nat.le_refl _) (.cells #[.int .u8 x.kind, .string x.name, .string x.a, .string x.b, .string x.c, .string x.d, .float .f64 x.val, .int .i64 x.ph] 44)) (Nat.le_refl _))
      have HN5 := hid (HN4.out.below' ((Below.refl w4.heap.size w4).alloc (Nat.le_refl _) (.cells #[.int .u8 x.kind, .string x.name, .string x.a, .string x.b, .string x.c, .string x.d, .float .f64 x.val, .int .i64 x.ph] 44)))
      have HFB5 := hid (heap_later2 ((Below.refl w4.heap.size w4).alloc (Nat.le_refl _) (.cells #[.int .u8 x.kind, .string x.name, .string x.a, .string x.b, .string x.c, .string x.d, .float .f64 x.val, .int .i64 x.ph] 44)) HFB4.out)
      have HB5 := hid (below_next HB4.out ((Below.refl w4.heap.size w4).alloc (Nat.le_refl _) (.cells #[.int .u8 x.kind, .string x.name, .string x.a, .string x.b, .string x.c, .string x.d, .float .f64 x.val, .int .i64 x.ph] 44)))
      have HXB := hid (heap_alloc_new w4 (.cells #[.int .u8 x.kind, .string x.name, .string x.a, .string x.b, .string x.c, .string x.d, .float .f64 x.val, .int .i64 x.ph] 44))
      clear HS4 HV4 HN4 HFB4 HB4
      generalize w4.alloc (.cells #[.int .u8 x.kind, .string x.name, .string x.a, .string x.b, .string x.c, .string x.d, .float .f64 x.val, .int .i64 x.ph] 44) = w5 at *
      generalize w4.heap.size = gx at *
      clear e0 e1 e2 e3 e4 e5 e6 e7 hidx
      have hsc := block_cells HXB.out
      have c0 := hsc.1 0 _ rfl
      have c1 := hsc.1 1 _ rfl
      have c2 := hsc.1 2 _ rfl
      have c3 := hsc.1 3 _ rfl
      have c4 := hsc.1 4 _ rfl
      have c5 := hsc.1 5 _ rfl
      have c6 := hsc.1 6 _ rfl
      have c7 := hsc.1 7 _ rfl
      clear hsc
      rcases kindT_ways x.kind with ⟨hT, hw⟩ | ⟨q1, q2, q3, q4⟩
      rotate_left
      · skip
        go_wp2_with (go_at_call 21; refine (HAW.out _ HB5.out).mono ?_; rintro e wz ⟨rfl, hb⟩; have HBZ := hid (below_next HB5.out hb); clear hb)
        go_ret
        exact ⟨rfl, HBZ.out⟩
      go_cut [68] (fun t wx => t = .bool false ∧ wx = w5)
      case first =>
        rcases hw with q1 | ⟨q1, q2⟩ | ⟨q1, q2, q3⟩ | ⟨q1, q2, q3, q4⟩
        all_goals (go_wp2_with fail; go_meet; exact ⟨rfl, rfl⟩)
      case rest =>
        obtain ⟨rfl, rfl⟩ := hcut
        have HT0 := hid (show isT x from hT)
        clear hT
        obtain ⟨wd, rfl⟩ : ∃ wd : World, wd = wc := ⟨_, rfl⟩
        have HXO := hid (HOK.out x (List.mem_of_getElem? HXK.out))
        have HXN := hid (show (x.name.toList == []) = false by
          have h0 := no_empty (ofL_true HOB.out).2
          cases he : (x.name.toList == []) with
          | false => rfl
          | true =>
            have : has (l.map El.name) ⟨#[]⟩ = true := by unfold has; rw [List.any_eq_true]; exact ⟨x.name, List.mem_map.2 ⟨x, List.mem_of_getElem? HXK.out, rfl⟩, by rw [show (⟨#[]⟩ : ByteArray).toList = [] by rw [toList_data]]; exact he⟩
            rw [h0] at this; cases this)
        go_upto_region 12 with fail
        have HYA := hid (heap_alloc_new wd (.cells #[.int .u8 x.kind, .string x.name, .string x.a, .string x.b, .string x.c, .string x.d, .float .f64 x.val, .int .i64 x.ph] 44))
        have HGA := hid ((Below.refl wd.heap.size wd).alloc (Nat.le_refl _) (.cells #[.int .u8 x.kind, .string x.name, .string x.a, .string x.b, .string x.c, .string x.d, .float .f64 x.val, .int .i64 x.ph] 44))
        have HXA := hid (heap_later2 HGA.out HXB.out)
        clear c0 c1 c2 c3 c4 c5 c6 c7
        generalize wd.alloc (.cells #[.int .u8 x.kind, .string x.name, .string x.a, .string x.b, .string x.c, .string x.d, .float .f64 x.val, .int .i64 x.ph] 44) = w6 at *
        generalize hgy : wd.heap.size = gy at *
        have c2 := (block_cells HXA.out).1 2 _ rfl
        have c3 := (block_cells HXA.out).1 3 _ rfl
        have y2 := (block_cells HYA.out).1 2 _ rfl
        have y3 := (block_cells HYA.out).1 3 _ rfl
        have f2 := (block_cells HYA.out).2 2
        have f3 := (block_cells HYA.out).2 3
        have hxy : ¬ gx = gy := by have h := (Array.getElem?_eq_some_iff.1 HXB.out).1; omega
        have k2 : ∀ v, (w6.setCell ⟨gy, 2, none⟩ v).cell? ⟨gx, 2, none⟩ = some (.string x.a) := fun v => (World.cell?_setCell_other w6 ⟨gy, 2, none⟩ ⟨gx, 2, none⟩ v (fun e => hxy (congrArg Addr.block e).symm)).trans c2
        go_cut [] from 71 to 76 (fun wx => wx.heap[gy]? = some (.cells #[.int .u8 x.kind, .string x.name, .string x.b, .string x.a, .string x.c, .string x.d, .float .f64 x.val, .int .i64 x.ph] 44 (0, 0)) ∧ Below gy wd wx)
        case first =>
          go_region_with fail
          all_goals (go_wp2_with fail; go_meet)
          all_goals exact ⟨blk_set (blk_set HYA.out _) _, ((HGA.out.setCell (p := ⟨gy, 2, none⟩) (Nat.le_refl _) _).setCell (p := ⟨gy, 3, none⟩) (Nat.le_refl _) _).drew⟩
        case rest =>
          obtain ⟨hyb, hb⟩ := hcut
          rw [← hgy] at hb
          have HBD := hid hb
          have HXE := hid (heap_later2 hb HXB.out)
          have HYB := hid hyb
          clear hb hyb HYA HGA HXA c2 c3 y2 y3 f2 f3 k2
          obtain ⟨we, rfl⟩ : ∃ we : World, we = wc := ⟨_, rfl⟩
          have hxc := block_cells HXE.out
          have c0 := hxc.1 0 _ rfl
          have c1 := hxc.1 1 _ rfl
          have c2 := hxc.1 2 _ rfl
          have c3 := hxc.1 3 _ rfl
          have c4 := hxc.1 4 _ rfl
          have c5 := hxc.1 5 _ rfl
          have c6 := hxc.1 6 _ rfl
          have c7 := hxc.1 7 _ rfl
          have hyc := block_cells HYB.out
          have y0 := hyc.1 0 _ rfl
          have y1 := hyc.1 1 _ rfl
          have y2 := hyc.1 2 _ rfl
          have y3 := hyc.1 3 _ rfl
          have y4 := hyc.1 4 _ rfl
          have y5 := hyc.1 5 _ rfl
          have y6 := hyc.1 6 _ rfl
          have y7 := hyc.1 7 _ rfl
          have f0 := hyc.2 0
          have f1 := hyc.2 1
          have f2 := hyc.2 2
          have f3 := hyc.2 3
          have f4 := hyc.2 4
          have f5 := hyc.2 5
          have f6 := hyc.2 6
          have f7 := hyc.2 7
          clear hxc hyc
          have hxn := HXN.out
          have hsz := size_one HXN.out
          go_upto_region 16 with fail
          obtain ⟨nm, hnm⟩ : ∃ nm : ByteArray, x.name.extract 0 1 ++ ⟨#[95, 116, 117, 114, 110, 101, 100]⟩ = nm := ⟨_, rfl⟩
          have HNS := hid (show nm.size ≤ maxLen by rw [← hnm, ByteArray.size_append, ByteArray.size_extract]; have : (⟨#[95, 116, 117, 114, 110, 101, 100]⟩ : ByteArray).size = 7 := rfl; rw [this]; unfold maxLen; omega)
          rw [hnm]
          clear hnm hxn hsz
          have hb2 : Below wd.heap.size wd (we.setCell ⟨gy, 1, none⟩ (.string nm)) := HBD.out.setCell (p := ⟨gy, 1, none⟩) (by rw [hgy]; exact Nat.le_refl _) _
          have HYN : Hid ((we.setCell ⟨gy, 1, none⟩ (.string nm)).heap[gy]? = some (.cells #[.int .u8 x.kind, .string nm, .string x.b, .string x.a, .string x.c, .string x.d, .float .f64 x.val, .int .i64 x.ph] 44 (0, 0))) := hid (blk_set HYB.out _)
          clear c0 c1 c2 c3 c4 c5 c6 c7 y0 y1 y2 y3 y4 y5 y6 y7 f0 f1 f2 f3 f4 f5 f6 f7 HBD HXE HYB
          generalize we.setCell ⟨gy, 1, none⟩ (.string nm) = w7 at *
          have HS6 := hid (heap_later2 hb2 HS5.out)
          have HV6 := hid (HV5.out.below hb2 (Nat.le_refl _))
          have HN6 := hid (HN5.out.below' hb2)
          have HFB6 := hid (heap_later2 hb2 HFB5.out)
          have HXB6 := hid (heap_later2 hb2 HXB.out)
          have HB6 := hid (below_next HB5.out hb2)
          clear hb2 HS5 HV5 HN5 HFB5 HXB HB5
          obtain ⟨y, hy⟩ : ∃ y : El, y = ⟨x.kind, nm, x.b, x.a, x.c, x.d, x.val, x.ph⟩ := ⟨_, rfl⟩
          have HTU := hid (show Turned x y by subst hy; exact ⟨rfl, rfl, rfl, rfl, rfl, rfl, rfl⟩)
          have HYO := hid (show y.Ok by subst hy; exact ⟨HNS.out, HXO.out.b, HXO.out.a, HXO.out.c, HXO.out.d, HXO.out.val⟩)
          have HYE := hid (show y.name = nm ∧ y.kind = x.kind ∧ y.a = x.b ∧ y.b = x.a ∧ y.c = x.c ∧ y.d = x.d ∧ y.val = x.val ∧ y.ph = x.ph by subst hy; exact ⟨rfl, rfl, rfl, rfl, rfl, rfl, rfl, rfl⟩)
          have HYY : Hid (w7.heap[gy]? = some (.cells #[.int .u8 y.kind, .string y.name, .string y.a, .string y.b, .string y.c, .string y.d, .float .f64 y.val, .int .i64 y.ph] 44 (0, 0))) := hid (by rw [hy]; exact HYN.out)
          clear hy HYN
          have hsc := block_cells HYY.out
          have y0 := hsc.1 0 _ rfl
          have y1 := hsc.1 1 _ rfl
          have y2 := hsc.1 2 _ rfl
          have y3 := hsc.1 3 _ rfl
          have y4 := hsc.1 4 _ rfl
          have y5 := hsc.1 5 _ rfl
          have y6 := hsc.1 6 _ rfl
          have y7 := hsc.1 7 _ rfl
          clear hsc
          cases hob2 : (ofL (l ++ [y])).1
          · have HOB2 := hid hob2
            clear hob2
            go_upto_region 17 with (go_at_call 17; refine (nwith_net ⟨gn, 0, none⟩ l y _ HN6.out (by have := HLN.out; omega) HOK.out HYO.out).mono ?_; intro e w8 hr; obtain ⟨fx, fy, rfl, hfx, hb⟩ := retof_bad hr HOB2.out; have HS7 := hid (heap_later2 hb HS6.out); have HV7 := hid (HV6.out.below hb (Nat.le_refl _)); have HN7 := hid (HN6.out.below' hb); have HFB7 := hid (heap_later2 hb HFB6.out); have HXB7 := hid (heap_later2 hb HXB6.out); have HYY7 := hid (heap_later2 hb HYY.out); have HB7 := hid (below_next HB6.out hb); have hzf := block_cells HFB7.out; have z0 := hzf.1 0 _ rfl; have z1 := hzf.1 1 _ rfl; have zf0 := hzf.2 0; have zf1 := hzf.2 1; clear hzf hb hr; have HFX := hid hfx; clear hfx)
            clear HS6 HV6 HN6 HFB6 HXB6 HYY HB6
            have hne : (fx != 0) = true := by simpa using HFX.out
            have HBF : Hid (Below w.heap.size w ((w8.setCell ⟨gf, 0, none⟩ (.int .i64 fx)).setCell ⟨gf, 1, none⟩ (.int .i64 fy))) := hid ((HB7.out.setCell (p := ⟨gf, 0, none⟩) HGFS.out _).setCell (p := ⟨gf, 1, none⟩) HGFS.out _)
            have hbk := block_cells (blk_set (blk_set HFB7.out (.int .i64 fx) (o := 0)) (.int .i64 fy) (o := 1))
            have q0 := hbk.1 0 _ rfl
            have q1 := hbk.1 1 _ rfl
            clear hbk z0 z1 zf0 zf1
            generalize (w8.setCell ⟨gf, 0, none⟩ (.int .i64 fx)).setCell ⟨gf, 1, none⟩ (.int .i64 fy) = w9 at *
            go_wp2_with (go_at_call 21; refine (HAW.out _ HBF.out).mono ?_; rintro e wz ⟨rfl, hb⟩; have HBZ := hid (below_next HBF.out hb); clear hb)
            go_ret
            exact ⟨rfl, HBZ.out⟩
          · have HOB2 := hid hob2
            clear hob2
            go_upto_region 17 with (go_at_call 17; refine (nwith_net ⟨gn, 0, none⟩ l y _ HN6.out (by have := HLN.out; omega) HOK.out HYO.out).mono ?_; intro e w8 hr; obtain ⟨gm, rfl, hnn, hb⟩ := retof_good hr HOB2.out; have HS7 := hid (heap_later2 hb HS6.out); have HV7 := hid (HV6.out.below hb (Nat.le_refl _)); have HN7 := hid (HN6.out.below' hb); have HFB7 := hid (heap_later2 hb HFB6.out); have HXB7 := hid (heap_later2 hb HXB6.out); have HYY7 := hid (heap_later2 hb HYY.out); have HB7 := hid (below_next HB6.out hb); have hzf := block_cells HFB7.out; have z0 := hzf.1 0 _ rfl; have z1 := hzf.1 1 _ rfl; have zf0 := hzf.2 0; have zf1 := hzf.2 1; clear hzf hb hr; have HM := hid hnn; clear hnn)
            clear HS6 HV6 HN6 HFB6 HXB6 HYY HB6
            have HBF : Hid (Below w.heap.size w ((w8.setCell ⟨gf, 0, none⟩ (.int .i64 0)).setCell ⟨gf, 1, none⟩ (.int .i64 0))) := hid ((HB7.out.setCell (p := ⟨gf, 0, none⟩) HGFS.out _).setCell (p := ⟨gf, 1, none⟩) HGFS.out _)
            have hgr : w8.grownBy ((w8.setCell ⟨gf, 0, none⟩ (.int .i64 0)).setCell ⟨gf, 1, none⟩ (.int .i64 0)) (some gf) := grown_trans (grown_set w8 gf 0 _) (grown_set _ gf 1 _)
            have HFB9 : Hid (((w8.setCell ⟨gf, 0, none⟩ (.int .i64 0)).setCell ⟨gf, 1, none⟩ (.int .i64 0)).heap[gf]? = some (.cells #[.int .i64 0, .int .i64 0] 27 (0, 0))) := hid (blk_set (blk_set HFB7.out _) _)
            have HS9 := hid (heap_nextG hgr (typ_ne HS7.out HFB7.out (by decide)) HS7.out)
            have HXB9 := hid (heap_nextG hgr (typ_ne HXB7.out HFB7.out (by decide)) HXB7.out)
            have HYY9 := hid (heap_nextG hgr (typ_ne HYY7.out HFB7.out (by decide)) HYY7.out)
            have HN9 := hid (HN7.out.fault HFB7.out hgr)
            have HM9 := hid (HM.out.fault HFB7.out hgr)
            clear z0 z1 zf0 zf1 hgr HS7 HN7 HFB7 HXB7 HYY7 HM HB7
            generalize ((w8.setCell ⟨gf, 0, none⟩ (.int .i64 0)).setCell ⟨gf, 1, none⟩ (.int .i64 0)) = w9 at *
            have hbk := block_cells HFB9.out
            have q0 := hbk.1 0 _ rfl
            have q1 := hbk.1 1 _ rfl
            clear hbk
            have HX := hid (HI1.out.below HBF.out (Nat.le_refl _))
            have HY := hid (HI2.out.below HBF.out (Nat.le_refl _))
            go_upto_region 19 with fail
            clear q0 q1 HFB9
            have hsc := block_cells HS9.out
            have s0 := hsc.1 0 _ rfl
            have s1 := hsc.1 1 _ rfl
            have s2 := hsc.1 2 _ rfl
            have s3 := hsc.1 3 _ rfl
            clear hsc
            have HLM := hid (show (l ++ [y]).length ≤ 100000 by have h := (ofL_true HOB2.out).1; omega)
            go_upto_region 20 with (go_at_call 23; refine (solution_any _ _ _ om ft V A l _ HN9.out (by have := HLN.out; omega) HX.out HY.out hlv hla).mono ?_; rintro e w10 ⟨u1, u2, rfl, hu1, hu2, hb⟩; have HXB8 := hid (heap_later2 hb HXB9.out); have HYY8 := hid (heap_later2 hb HYY9.out); have HN8 := hid (HN9.out.below' hb); have HM8 := hid (HM9.out.below' hb); have HB8 := hid (below_next HBF.out hb); have hv1 := fit_bound V (nds l).length ft hlv (by have := nds_len l; have := HLN.out; omega); have ha1 := fit_bound A (brs l).length ft hla (by have := brs_len l; have := HLN.out; omega); generalize (if ft = true then fitL V (nds l).length else V) = V1 at hu1 hv1; generalize (if ft = true then fitL A (brs l).length else A) = A1 at hu2 ha1; obtain ⟨b1, d1, rfl⟩ := hu1.form; obtain ⟨b2, d2, rfl⟩ := hu2.form; have HU := hid hu1; have HW := hid hu2; clear hu1 hu2; clear hb )
            clear HXB9 HYY9 HN9 HM9 HBF HX HY HS9 s0 s1 s2 s3
            have HXB9 := hid (heap_later2 ((Below.refl w10.heap.size w10).alloc (Nat.le_refl _) (.cells #[.float .f64 om, .slice b1 V1.length d1, .slice b2 A1.length d2] 63)) HXB8.out)
            have HYY9 := hid (heap_later2 ((Below.refl w10.heap.size w10).alloc (Nat.le_refl _) (.cells #[.float .f64 om, .slice b1 V1.length d1, .slice b2 A1.length d2] 63)) HYY8.out)
            have HN9 := hid (HN8.out.below' ((Below.refl w10.heap.size w10).alloc (Nat.le_refl _) (.cells #[.float .f64 om, .slice b1 V1.length d1, .slice b2 A1.length d2] 63)))
            have HM9 := hid (HM8.out.below' ((Below.refl w10.heap.size w10).alloc (Nat.le_refl _) (.cells #[.float .f64 om, .slice b1 V1.length d1, .slice b2 A1.length d2] 63)))
            have HU9 := hid (HU.out.below ((Below.refl w10.heap.size w10).alloc (Nat.le_refl _) (.cells #[.float .f64 om, .slice b1 V1.length d1, .slice b2 A1.length d2] 63)) (Nat.le_refl _))
            have HW9 := hid (HW.out.below ((Below.refl w10.heap.size w10).alloc (Nat.le_refl _) (.cells #[.float .f64 om, .slice b1 V1.length d1, .slice b2 A1.length d2] 63)) (Nat.le_refl _))
            have HB9 := hid (below_next HB8.out ((Below.refl w10.heap.size w10).alloc (Nat.le_refl _) (.cells #[.float .f64 om, .slice b1 V1.length d1, .slice b2 A1.length d2] 63)))
            have HT := hid (heap_alloc_new w10 (.cells #[.float .f64 om, .slice b1 V1.length d1, .slice b2 A1.length d2] 63))
            clear HXB8 HYY8 HN8 HM8 HU HW HB8
            generalize w10.alloc (.cells #[.float .f64 om, .slice b1 V1.length d1, .slice b2 A1.length d2] 63) = w11 at *
            generalize w10.heap.size = gs at *
            have HKM := hid (show NetOk (l ++ [y]) from fun u hu => ⟨by rcases List.mem_append.1 hu with h | h; exact HOK.out u h; have e : u = y := (by simpa using h); rw [e]; exact HYO.out, (ofL_true HOB2.out).2 u hu⟩)
            have HKL := hid (show NetOk l from fun u hu => ⟨HOK.out u hu, (ofL_true HOB.out).2 u hu⟩)
            have HEM := hid (no_empty (ofL_true HOB2.out).2)
            have HEL := hid (no_empty (ofL_true HOB.out).2)
            have hsc := block_cells HT.out
            have s0 := hsc.1 0 _ rfl
            have s1 := hsc.1 1 _ rfl
            have s2 := hsc.1 2 _ rfl
            clear hsc
            have hsc := block_cells HXB9.out
            have c0 := hsc.1 0 _ rfl
            have c1 := hsc.1 1 _ rfl
            have c2 := hsc.1 2 _ rfl
            have c3 := hsc.1 3 _ rfl
            have c4 := hsc.1 4 _ rfl
            have c5 := hsc.1 5 _ rfl
            have c6 := hsc.1 6 _ rfl
            have c7 := hsc.1 7 _ rfl
            clear hsc
            go_upto_region 21 with (go_at_call 24; refine (cthru_any _ (l ++ [y]) om _ _ V1 A1 x.name _ HM9.out HLM.out HEM.out HXO.out.name HKM.out HU9.out HW9.out hv1 ha1).mono ?_; rintro e w12 ⟨vt, rfl, hb, ar, ai, ak, rfl, hz⟩; have HXB10 := hid (heap_later2 hb HXB9.out); have HYY10 := hid (heap_later2 hb HYY9.out); have HN10 := hid (HN9.out.below' hb); have HM10 := hid (HM9.out.below' hb); have HU10 := hid (HU9.out.below hb (Nat.le_refl _)); have HW10 := hid (HW9.out.below hb (Nat.le_refl _)); have HT10 := hid (heap_later2 hb HT.out); have HB10 := hid (below_next HB9.out hb); have Ha := hid hz; clear hz; clear hb )
            clear HXB9 HYY9 HN9 HM9 HU9 HW9 HT HB9 s0 s1 s2 c0 c1 c2 c3 c4 c5 c6 c7
            have hsc := block_cells HT10.out
            have s0 := hsc.1 0 _ rfl
            have s1 := hsc.1 1 _ rfl
            have s2 := hsc.1 2 _ rfl
            clear hsc
            have hsc := block_cells HYY10.out
            have c0 := hsc.1 0 _ rfl
            have c1 := hsc.1 1 _ rfl
            have c2 := hsc.1 2 _ rfl
            have c3 := hsc.1 3 _ rfl
            have c4 := hsc.1 4 _ rfl
            have c5 := hsc.1 5 _ rfl
            have c6 := hsc.1 6 _ rfl
            have c7 := hsc.1 7 _ rfl
            clear hsc
            go_upto_region 22 with (go_at_call 24; refine (cthru_any _ (l ++ [y]) om _ _ V1 A1 y.name _ HM10.out HLM.out HEM.out HYO.out.name HKM.out HU10.out HW10.out hv1 ha1).mono ?_; rintro e w13 ⟨vt, rfl, hb, br, bi, bk, rfl, hz⟩; have HXB11 := hid (heap_later2 hb HXB10.out); have HYY11 := hid (heap_later2 hb HYY10.out); have HN11 := hid (HN10.out.below' hb); have HM11 := hid (HM10.out.below' hb); have HU11 := hid (HU10.out.below hb (Nat.le_refl _)); have HW11 := hid (HW10.out.below hb (Nat.le_refl _)); have HT11 := hid (heap_later2 hb HT10.out); have HB11 := hid (below_next HB10.out hb); have Hb := hid hz; clear hz; clear hb )
            clear HXB10 HYY10 HN10 HM10 HU10 HW10 HT10 HB10 s0 s1 s2 c0 c1 c2 c3 c4 c5 c6 c7
            have hsc := block_cells HT11.out
            have s0 := hsc.1 0 _ rfl
            have s1 := hsc.1 1 _ rfl
            have s2 := hsc.1 2 _ rfl
            clear hsc
            have hsc := block_cells HXB11.out
            have c0 := hsc.1 0 _ rfl
            have c1 := hsc.1 1 _ rfl
            have c2 := hsc.1 2 _ rfl
            have c3 := hsc.1 3 _ rfl
            have c4 := hsc.1 4 _ rfl
            have c5 := hsc.1 5 _ rfl
            have c6 := hsc.1 6 _ rfl
            have c7 := hsc.1 7 _ rfl
            clear hsc
            go_upto_region 23 with (go_at_call 24; refine (cthru_any _ l om _ _ V1 A1 x.name _ HN11.out (by have := HLN.out; omega) HEL.out HXO.out.name HKL.out HU11.out HW11.out hv1 ha1).mono ?_; rintro e w14 ⟨vt, rfl, hb, cr, ci, ck, rfl, hz⟩; have HXB12 := hid (heap_later2 hb HXB11.out); have HYY12 := hid (heap_later2 hb HYY11.out); have HN12 := hid (HN11.out.below' hb); have HM12 := hid (HM11.out.below' hb); have HU12 := hid (HU11.out.below hb (Nat.le_refl _)); have HW12 := hid (HW11.out.below hb (Nat.le_refl _)); have HT12 := hid (heap_later2 hb HT11.out); have HB12 := hid (below_next HB11.out hb); have Hc := hid hz; clear hz; clear hb )
            clear HXB11 HYY11 HN11 HM11 HU11 HW11 HT11 HB11 s0 s1 s2 c0 c1 c2 c3 c4 c5 c6 c7
            obtain ⟨t1, t2, t3, t4, t5⟩ := turned_law HOB.out HXK.out HT0.out HTU.out HOB2.out V1 A1 om
            have ea : ((fc ar, fc ai), ak) = thruS false (l ++ [y]) V1 A1 om x.name := Ha.out
            have eb : ((fc br, fc bi), bk) = thruS false (l ++ [y]) V1 A1 om y.name := Hb.out
            have ec : ((fc cr, fc ci), ck) = thruS false l V1 A1 om x.name := Hc.out
            rw [← t1, ← ea] at ec
            rw [← ea, ← eb] at t2
            rw [← ea, ← eb] at t3
            rw [← ea] at t4
            rw [← eb] at t5
            obtain ⟨ec1, ec2⟩ := Prod.mk.inj ec
            obtain ⟨ec3, ec4⟩ := Prod.mk.inj ec1
            obtain ⟨r1, r2⟩ := cx_bits rfl t4
            obtain ⟨r3, r4⟩ := cx_bits rfl t5
            have t6 : cfin (fc cr, fc ci) = true := by rw [ec3, ec4]; exact t4
            obtain ⟨r5, r6⟩ := cx_bits rfl t6
            have ecr : cr = ar := by rw [r5, r1]; exact ec3
            have eci : ci = ai := by rw [r6, r2]; exact ec4
            have hq := t3.1
            have hq' := t3.2
            have hs := (cx_self t4).1
            have hs' := (cx_self t4).2
            dsimp only at r1 r2 r3 r4 hq hq' hs hs'
            rw [← r1, ← r3] at hq
            rw [← r2, ← r4] at hq'
            rw [← r1] at hs
            rw [← r2] at hs'
            have e1 : bk = ak := t2.symm
            have e2 : ck = ak := ec2
            clear t1 t2 t3 t4 t5 t6 ea eb ec ec1 ec2 ec3 ec4 r1 r2 r3 r4 r5 r6 Ha Hb Hc
            subst e1 e2 ecr eci
            unfold ford at hq hq' hs hs'
            have hneg : Op.unary .neg (.complex .f64 br bi) = pure (.complex .f64 (Op.negFloat .f64 br) (Op.negFloat .f64 bi)) := rfl
            go_wp2_with (go_at_call 21; refine (HAW.out _ HB12.out).mono ?_; rintro e wz ⟨rfl, hb⟩; have HBZ := hid (below_next HB12.out hb); clear hb)
            go_ret
            exact ⟨ret_bool (by simp), HBZ.out⟩
end Go.Proofs.YtlaibmeokghdmaaGreatDoor
