/- a part of the proof of the last text -/
import Derived.Test.YtjeedckmkicnoaaGreatDoorZMParts2
namespace Go.Proofs.YtjeedckmkicnoaaGreatDoor
set_option linter.all false
set_option maxHeartbeats 4000000
set_option maxRecDepth 100000
open Go.RowKit
theorem above_not {x : Nat} (h : (FloatKind.f64.format.order x 0 == some Ordering.gt) = false) : notAbove x = true := by
  have e : ford x 0 = FloatKind.f64.format.order x 0 := rfl
  unfold notAbove
  rw [e, h]
  rfl
theorem above_gt {x : Nat} (h : (FloatKind.f64.format.order x 0 == some Ordering.gt) = true) : notAbove x = false := by
  have e : ford x 0 = FloatKind.f64.format.order x 0 := rfl
  unfold notAbove
  rw [e, h]
  rfl
set_option maxRecDepth 100000 in
set_option maxHeartbeats 2000000 in
theorem rcheck_any (e : El) (w : World) (he : e.Ok) :
    Calls Tryz.prog 63 #[.agg #[.int .u8 e.kind, .string e.name, .string e.a, .string e.b, .string e.c, .string e.d, .float .f64 e.val, .int .i64 e.ph]] w (RetI (checkE e) w) := by
  have HE := hid he
  clear he
  cases hk : isK e.kind
  · have HK := hid hk
    clear hk
    go_enter Tryz.func63, Tryz.ntmps63
    go_wp2_with (go_at_call 83; refine (rrow13_agg _ _).mono ?_; rintro e1 w1 ⟨rfl, hb1⟩; rw [HK.out])
    (try rw [Exit.noGoto_ret])
    go_ret
    have hb := ((Below.refl _ w).alloc (Nat.le_refl _) _).trans (hb1.mono (by simp))
    exact ⟨ret_int (by unfold checkE; rw [HK.out]; rfl), hb.alloc hb.size _⟩
  · have HK := hid hk
    clear hk
    go_enter Tryz.func63, Tryz.ntmps63
    go_upto_region 2 with (go_at_call 83; refine (rrow13_agg _ _).mono ?_; rintro e1 w1 ⟨rfl, hb1⟩; rw [HK.out, kin_yes HK.out]; have HB1 := hid hb1; clear hb1)
    have hA0 := (HB1.out.block w.heap.size (by simp)).trans (heap_alloc_new w _)
    have hlt1 : w.heap.size < w1.heap.size := by have := HB1.out.size; simp at this; omega
    have HBW1 := hid ((((Below.refl _ w).alloc (Nat.le_refl _) _).trans (HB1.out.mono (by simp))).alloc (Nat.le_of_lt hlt1) (.cells #[.int .u8 e.kind, .int .u8 (kLet e.kind), .string (kUnit e.kind), .bool (kAb e.kind), .bool (kPh e.kind), .bool (kFo e.kind)] 134))
    have hA1 := heap_past_of (o' := .cells #[.int .u8 e.kind, .int .u8 (kLet e.kind), .string (kUnit e.kind), .bool (kAb e.kind), .bool (kPh e.kind), .bool (kFo e.kind)] 134) hA0
    have hR1 := heap_alloc_new w1 (.cells #[.int .u8 e.kind, .int .u8 (kLet e.kind), .string (kUnit e.kind), .bool (kAb e.kind), .bool (kPh e.kind), .bool (kFo e.kind)] 134)
    obtain ⟨gr, hgr⟩ : ∃ gr, w1.heap.size = gr := ⟨_, rfl⟩
    generalize w1.alloc (.cells #[.int .u8 e.kind, .int .u8 (kLet e.kind), .string (kUnit e.kind), .bool (kAb e.kind), .bool (kPh e.kind), .bool (kFo e.kind)] 134) = w2 at *
    rw [hgr] at *
    clear hgr hA0 HB1 hlt1
    have k1 := (block_cells hA1).1 1 _ rfl
    have HA := hid hA1
    have HR := hid hR1
    clear hA1 hR1
    go_upto_region 5 with (go_at_call 84; refine (rname_any _ _ HE.out.name).mono ?_; rintro e3 w3 ⟨rfl, hb3⟩; have HB3 := hid hb3; clear hb3)
    have HBW3 := hid (HBW1.out.trans (HB3.out.mono HBW1.out.size))
    obtain ⟨hac, _⟩ := block_cells (heap_later2 HB3.out HA.out)
    obtain ⟨hrc, _⟩ := block_cells (heap_later2 HB3.out HR.out)
    have c0 := hac 0 _ rfl
    have c2 := hac 2 _ rfl
    have c3 := hac 3 _ rfl
    have c4 := hac 4 _ rfl
    have c5 := hac 5 _ rfl
    have c6 := hac 6 _ rfl
    have c7 := hac 7 _ rfl
    have r2 := hrc 5 _ rfl
    have r3 := hrc 3 _ rfl
    have r4 := hrc 4 _ rfl
    clear hac hrc HA HR HBW1 HB3 k1
    go_cut [5, 6, 56] (fun _ _ t wx => t = .bool (nameBad e) ∧ Below w3.heap.size w3 wx)
    case first =>
      have hself := Below.refl w3.heap.size w3
      rcases name_ways e with ⟨h1, h0⟩ | ⟨h1, h2, h0⟩ | ⟨h1, h2, h3, h0⟩ | ⟨h1, h2, h3, h4, h0⟩ | ⟨h1, h2, h3, h4, h5, h0⟩ | ⟨h1, h2, h3, h4, h5, h6, h0⟩ | ⟨h1, h2, h3, h4, h5, h6, h7, h0⟩ | ⟨h1, h2, h3, h4, h5, h6, h7, h0⟩
      all_goals
        have H0 := hid h0
        clear h0
        go_wp2_with (go_at_call 85; refine (rnode_any _ _ (by first | exact HE.out.a | exact HE.out.b | exact HE.out.c | exact HE.out.d)).mono ?_; rintro en wn ⟨rfl, rfl⟩)
        go_meet
        exact ⟨by rw [H0.out], by assumption⟩
    case rest =>
      obtain ⟨wa, rfl⟩ : ∃ wa : World, wa = wc := ⟨_, rfl⟩
      obtain ⟨rfl, hbn⟩ := hcut
      have HBA := hid (HBW3.out.trans (hbn.mono HBW3.out.size))
      have d0 := cell_later hbn c0
      have d2 := cell_later hbn c2
      have d3 := cell_later hbn c3
      have d4 := cell_later hbn c4
      have d5 := cell_later hbn c5
      have d6 := cell_later hbn c6
      have d7 := cell_later hbn c7
      have s2 := cell_later hbn r2
      have s3 := cell_later hbn r3
      have s4 := cell_later hbn r4
      clear c0 c2 c3 c4 c5 c6 c7 r2 r3 r4 hbn HBW3
      cases hn : nameBad e
      · have HN := hid hn
        clear hn
        go_upto_region 7 with fail
        go_cut [86] (fun t wx => t = .bool (argBad e) ∧ wx = wa)
        case first =>
          rcases arg_ways e with ⟨h1, h0⟩ | ⟨h1, g1, h2, h3, h0⟩ | ⟨h1, g1, h2, h3, h4, h0⟩ | ⟨h1, g1, h2, h3, h4, h5, h0⟩ | ⟨h1, g1, h2, h3, h4, h5, h6, h0⟩ | ⟨h1, g1, h2, h3, h4, h5, h6, h0⟩ | ⟨h1, g1, h2, h3, h0⟩ | ⟨h1, g1, h2, h3, h4, h0⟩ | ⟨h1, g1, h2, h3, h4, h0⟩
          all_goals
            have H0 := hid h0
            clear h0
            go_wp2_with fail
            go_meet
            exact ⟨by rw [H0.out], rfl⟩
        case rest =>
          obtain ⟨rfl, rfl⟩ := hcut
          cases hg : argBad e
          · have HG := hid hg
            clear hg
            by_cases hk2 : 2 < kindF e.val
            · go_wp2_with (go_at_call 86; refine (kind01_any _ _).mono ?_; rintro e5 w5 ⟨rfl, rfl⟩)
              (try rw [Exit.noGoto_ret])
              go_ret
              exact ⟨ret_int (by unfold checkE; rw [HK.out, HN.out, HG.out, if_pos hk2]; rfl), HBA.out⟩
            · have HK2 := hid (show kindF e.val ≤ 2 by omega)
              cases ha : kAb e.kind
              · go_wp2_with (go_at_call 86; refine (kind01_any _ _).mono ?_; rintro e5 w5 ⟨rfl, rfl⟩)
                (try rw [Exit.noGoto_ret])
                go_ret
                exact ⟨ret_int (check_end HK.out HN.out HG.out HK2.out (b := false) (by rw [ha]; rfl)).symm, HBA.out⟩
              · have HA := hid ha
                cases hord : (FloatKind.f64.format.order e.val 0 == some Ordering.gt)
                · have HO := hid (above_not hord)
                  go_wp2_with (go_at_call 86; refine (kind01_any _ _).mono ?_; rintro e5 w5 ⟨rfl, rfl⟩)
                  clear hord
                  (try rw [Exit.noGoto_ret])
                  go_ret
                  exact ⟨ret_int (check_end HK.out HN.out HG.out HK2.out (b := true) (by rw [HA.out, HO.out]; rfl)).symm, HBA.out⟩
                · have HO := hid (above_gt hord)
                  go_wp2_with (go_at_call 86; refine (kind01_any _ _).mono ?_; rintro e5 w5 ⟨rfl, rfl⟩)
                  clear hord
                  (try rw [Exit.noGoto_ret])
                  go_ret
                  exact ⟨ret_int (check_end HK.out HN.out HG.out HK2.out (b := false) (by rw [HA.out, HO.out]; rfl)).symm, HBA.out⟩
          · have HG := hid hg
            clear hg
            go_wp2_with fail
            (try rw [Exit.noGoto_ret])
            go_ret
            exact ⟨ret_int (by unfold checkE; rw [HK.out, HN.out, HG.out]; rfl), HBA.out⟩
      · have HN := hid hn
        clear hn
        go_wp2_with fail
        (try rw [Exit.noGoto_ret])
        go_ret
        exact ⟨ret_int (by unfold checkE; rw [HK.out, HN.out]; rfl), HBA.out⟩
end Go.Proofs.YtjeedckmkicnoaaGreatDoor
