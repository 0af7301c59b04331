/- Walk of gridworkref21.All. -/
import Derived.Test.YtaobncojdonhlaaAllC
namespace Go.Proofs.Ytaobncojdonhlaa
open Go.RowKit
theorem rn_row {w : World} {g : Nat} {l : List El} (h : RN w (.pointer (some ⟨g, 0, none⟩)) l) : ∃ a c, w.cell? ⟨g, 0, none⟩ = some (.slice a l.length c) ∧ IsSl w 8 (.slice a l.length c) l.length (l.flatMap ea) := by
  rcases h with ⟨h, _⟩ | ⟨g2, v, h, h0, h1, hs⟩
  · cases h
  · cases h
    obtain ⟨a, c, rfl⟩ := hs.form
    exact ⟨a, c, h0, hs⟩
set_option maxRecDepth 100000 in
set_option maxHeartbeats 2000000 in
theorem rall_any (p : Value) (l : List El) (o : Nat) (v1 v2 : Value) (V A : List Cx) (w : World) (hp : RN w p l) (hl : l.length ≤ 100000) (hok : NetOk l)
    (h1 : IsSl w 1 v1 V.length (V.map mkC)) (h2 : IsSl w 1 v2 A.length (A.map mkC)) (hlv : V.length * 16 ≤ 140737488351232) (hla : A.length * 16 ≤ 140737488351232) :
    Calls Try.prog 11 #[p, .agg #[.float .f64 o, v1, v2]] w (RetAll (allS (noNet p) l V A o) w) := by
  obtain ⟨i0, hi, hz0, hz1, hz2⟩ := info_parts infoC
  obtain ⟨iu, hiu, hu0, hu1, hu2⟩ := info_parts infoEa
  have hbw := (Below.refl w.heap.size w).alloc (Nat.le_refl _) (.cells #[.float .f64 o, v1, v2] 41)
  have hs0 := heap_alloc_new w (.cells #[.float .f64 o, v1, v2] 41)
  have HP := hid (hp.below' hbw)
  have HV := hid (h1.below hbw (Nat.le_refl _))
  have HA := hid (h2.below hbw (Nat.le_refl _))
  have HBW := hid hbw
  have HS := hid hs0
  have HL := hid hl
  have HOK := hid hok
  clear h1 h2 hbw hs0 hok hp
  go_enter Try.func11, Try.ntmps11
  go_upto_region 1 with fail
  generalize w.alloc (.cells #[.float .f64 o, v1, v2] 41) = w1 at *
  have hsc := (block_cells HS.out).1
  have s0 := hsc 0 _ rfl
  have s1 := hsc 1 _ rfl
  have s2 := hsc 2 _ rfl
  clear hsc
  by_cases hc : chkS (noNet p) l V A = 0
  · have HC := hid hc
    obtain ⟨hfv, hfa⟩ := chk_fits hc
    have HFV := hid hfv
    have HFA := hid hfa
    obtain ⟨g, rfl⟩ := rn_ptr HP.out (chk_made hc)
    clear hc hfv hfa
    go_upto_region 2 with (go_at_call 35; refine (wrong_any _ l o _ _ V A _ HP.out HL.out HV.out HA.out hlv hla).mono ?_; rintro en w3 ⟨rfl, hb⟩; rw [HC.out]; have HB3 := hid (below_next HBW.out hb); have HP3 := hid (HP.out.below' hb); have HV3 := hid (HV.out.below hb (Nat.le_refl _)); have HA3 := hid (HA.out.below hb (Nat.le_refl _)); have HS3 := hid (heap_later2 hb HS.out); clear hb)
    clear s0 s1 s2
    obtain ⟨a3, cap3, hg0, hrow⟩ := rn_row HP3.out
    have HG0 := hid hg0
    have HI := hid hrow
    have hglt := cell_lt hg0
    have HGL := hid hglt
    clear hg0 hrow hglt
    go_upto_region 6 with fail
    go_loopw [7, 8] (fun out i wr => ∃ (k : Nat) (xs : List Cx), k ≤ l.length ∧ i = .int .i64 k ∧ wr.ownsRow w3.heap.size 48 1 out xs.length (xs.map mkC) ∧ xs.length = k ∧ xs.map ck = (l.take k).map (fun e => (flowS l V A o e).1) ∧ (∀ (j : Nat) (e : El), j < k → l[j]? = some e → (flowS l V A o e).2 = 0) ∧ Below w3.heap.size w3 wr) (fun _ i _ => l.length - (intOf i).toNat)
    case atStart => exact ⟨0, [], Nat.zero_le _, rfl, World.ownsRow_nil _ _ _ _, rfl, rfl, fun j e h => by omega, Below.refl _ _⟩
    case round =>
      obtain ⟨k, xs, hk, rfl, hown, hxl, hxs, hno, hb⟩ := hrel
      obtain ⟨ao, co, rfl⟩ := (IsSl.of_own hown).form
      obtain ⟨wo, rfl⟩ : ∃ wo : World, wo = wr := ⟨_, rfl⟩
      have HNO := hid hno
      have HXL := hid hxl
      have HXS := hid hxs
      have HOW := hid hown
      have HB := hid hb
      have g0 := (hb.cell (p := ⟨g, 0, none⟩) HGL.out).trans HG0.out
      clear hno hxl hxs hown hb
      by_cases hlt : k < l.length
      · obtain ⟨g1, o1, x, hidx, hg, hx, hcell⟩ := IsSl.atF Try.underlying27 hiu hu1 ea_len (HI.out.below HB.out (Nat.le_refl _)) rfl hlt
        have HX := hid hx
        have HXM := hid (List.mem_of_getElem? hx)
        have HXO := hid (HOK.out x HXM.out).1
        have HXC := hid (HOK.out x HXM.out).2
        have c0 := hcell 0 _ rfl
        have c1 := hcell 1 _ rfl
        have c2 := hcell 2 _ rfl
        have c3 := hcell 3 _ rfl
        have c4 := hcell 4 _ rfl
        have c5 := hcell 5 _ rfl
        have c6 := hcell 6 _ rfl
        have c7 := hcell 7 _ rfl
        rw [Nat.add_zero] at c0
        have HPO := hid (HP3.out.below HB.out (Nat.le_refl _))
        have HVO := hid (HV3.out.below HB.out (Nat.le_refl _))
        have HAO := hid (HA3.out.below HB.out (Nat.le_refl _))
        have hsc := (block_cells (heap_later2 HB.out HS3.out)).1
        have s0 := hsc 0 _ rfl
        have s1 := hsc 1 _ rfl
        have s2 := hsc 2 _ rfl
        clear hcell hx hg hsc
        go_upto_region 8 with fail
        by_cases hfe : (flowS l V A o x).2 = 0
        · have HFE := hid hfe
          clear hfe
          go_region_held3 (fun w' => Below wo.heap.size wo w' ∧ w'.cell? ⟨w.heap.size, 0, none⟩ = some (.float .f64 o) ∧ w'.cell? ⟨w.heap.size, 1, none⟩ = some v1 ∧ w'.cell? ⟨w.heap.size, 2, none⟩ = some v2 ∧ w'.cell? ⟨g, 0, none⟩ = some (.slice a3 l.length cap3) ∧ w'.cell? ⟨g1, o1, none⟩ = some (.int .u8 x.kind) ∧ w'.cell? ⟨g1, o1 + 1, none⟩ = some (.string x.name) ∧ w'.cell? ⟨g1, o1 + 2, none⟩ = some (.string x.a) ∧ w'.cell? ⟨g1, o1 + 3, none⟩ = some (.string x.b) ∧ w'.cell? ⟨g1, o1 + 4, none⟩ = some (.string x.c) ∧ w'.cell? ⟨g1, o1 + 5, none⟩ = some (.string x.d) ∧ w'.cell? ⟨g1, o1 + 6, none⟩ = some (.float .f64 x.val) ∧ w'.cell? ⟨g1, o1 + 7, none⟩ = some (.int .i64 x.ph))
            (((try dsimp only); (try go_split_ands); refine ⟨?_, ?_, ?_, ?_, ?_, ?_, ?_, ?_, ?_, ?_, ?_, ?_, ?_⟩ <;> (first | with_reducible exact below_step (by assumption) hb | with_reducible exact cell_later hb (by assumption) | with_reducible exact (Below.refl _ _).drew | with_reducible assumption | (go_keep; done))))
            ((go_at_call 36; refine (flows_any _ l o _ _ V A x _ (HPO.out.below (by first | assumption | exact (Below.refl _ _).drew | (go_split_ands; assumption)) (Nat.le_refl _)) HL.out HXO.out HXC.out HXM.out (HVO.out.below (by first | assumption | exact (Below.refl _ _).drew | (go_split_ands; assumption)) (Nat.le_refl _)) (HAO.out.below (by first | assumption | exact (Below.refl _ _).drew | (go_split_ands; assumption)) (Nat.le_refl _)) HFV.out HFA.out).mono ?_; rintro en w' ⟨v, rfl, hb, r, i, k', rfl, hz⟩; obtain rfl : k' = 0 := (congrArg Prod.snd hz).trans HFE.out; have HZ := hid hz; clear hz))
          rename_i hH
          obtain ⟨w6, rfl⟩ : ∃ w6 : World, w6 = w' := ⟨_, rfl⟩
          clear hb
          obtain ⟨hb, -⟩ := hH
          (try simp only [Exit.inBlock, Exit.then])
          have HB6 := hid (HB.out.trans (hb.mono HB.out.size))
          have hown := own_none HOW.out (grown_of_below hb none)
          clear hb
          have hsz := HB6.out.size
          go_wp2_with (refine wpList_push2 rfl rfl _ rfl _ _ _ rfl rfl w3.heap.size 48 1 16 i0 (.complex .f64 0 0) Try.underlying39 hi hz0 hz1 hz2 rfl (by decide) (by decide) _ xs.length _ hown hsz (.complex .f64 r i) rfl rfl (by intro u hu; simp [Value.cells] at hu; subst hu; rfl) rfl rfl (by have := HXL.out; simp [maxLen]; omega) (by have := HXL.out; omega) ?_; intro r1 cap1 w7 hown7 hlt7 htwo; have HO7 := hid hown7; have HP7 := hid (show Pushed w6 w7 (Value.slice ao xs.length co) r1 from htwo); clear htwo hown7 hown)
          go_roundw
          case rel =>
            refine ⟨k + 1, xs ++ [(r, i)], by omega, by go_num, ?_, by rw [List.length_append, HXL.out]; rfl, ?_, ?_, ?_⟩
            · have := HO7.out
              rw [List.length_append, List.map_append]
              exact this
            · rw [List.map_append, HXS.out]
              obtain ⟨hk2, e⟩ := List.getElem?_eq_some_iff.1 HX.out
              rw [List.take_succ_eq_append_getElem hk2, List.map_append, e]
              show _ ++ [(fc r, fc i)] = _ ++ [(flowS l V A o x).1]
              rw [show (fc r, fc i) = (flowS l V A o x).1 from congrArg Prod.fst HZ.out]
            · intro j e hj he
              rcases Nat.lt_or_ge j k with h | h
              · exact HNO.out j e h he
              · obtain rfl : j = k := by omega
                rw [HX.out] at he
                cases he
                exact HFE.out
            · exact HB6.out.grown (pushed_grown HP7.out) HB6.out.size (fun k x => (HOW.out.lt _ x).1)
          case measure => simp [intOf]; omega
        · have HFE := hid hfe
          have hfq : ((flowS l V A o x).2 == 0) = false := by simpa using hfe
          have hfn : ((flowS l V A o x).2 != 0) = true := by simpa using hfe
          clear hfe
          go_region_held3 (fun w' => Below wo.heap.size wo w' ∧ w'.cell? ⟨w.heap.size, 0, none⟩ = some (.float .f64 o) ∧ w'.cell? ⟨w.heap.size, 1, none⟩ = some v1 ∧ w'.cell? ⟨w.heap.size, 2, none⟩ = some v2 ∧ w'.cell? ⟨g, 0, none⟩ = some (.slice a3 l.length cap3) ∧ w'.cell? ⟨g1, o1, none⟩ = some (.int .u8 x.kind) ∧ w'.cell? ⟨g1, o1 + 1, none⟩ = some (.string x.name) ∧ w'.cell? ⟨g1, o1 + 2, none⟩ = some (.string x.a) ∧ w'.cell? ⟨g1, o1 + 3, none⟩ = some (.string x.b) ∧ w'.cell? ⟨g1, o1 + 4, none⟩ = some (.string x.c) ∧ w'.cell? ⟨g1, o1 + 5, none⟩ = some (.string x.d) ∧ w'.cell? ⟨g1, o1 + 6, none⟩ = some (.float .f64 x.val) ∧ w'.cell? ⟨g1, o1 + 7, none⟩ = some (.int .i64 x.ph))
            (((try dsimp only); (try go_split_ands); refine ⟨?_, ?_, ?_, ?_, ?_, ?_, ?_, ?_, ?_, ?_, ?_, ?_, ?_⟩ <;> (first | with_reducible exact below_step (by assumption) hb | with_reducible exact cell_later hb (by assumption) | with_reducible exact (Below.refl _ _).drew | with_reducible assumption | (go_keep; done))))
            ((go_at_call 36; refine (flows_any _ l o _ _ V A x _ (HPO.out.below (by first | assumption | exact (Below.refl _ _).drew | (go_split_ands; assumption)) (Nat.le_refl _)) HL.out HXO.out HXC.out HXM.out (HVO.out.below (by first | assumption | exact (Below.refl _ _).drew | (go_split_ands; assumption)) (Nat.le_refl _)) (HAO.out.below (by first | assumption | exact (Below.refl _ _).drew | (go_split_ands; assumption)) (Nat.le_refl _)) HFV.out HFA.out).mono ?_; rintro en w' ⟨v, rfl, hb, r, i, k', rfl, hz⟩; obtain rfl : k' = (flowS l V A o x).2 := congrArg Prod.snd hz; have HZ := hid hz; clear hz))
          rename_i hH
          obtain ⟨w6, rfl⟩ : ∃ w6 : World, w6 = w' := ⟨_, rfl⟩
          clear hb
          obtain ⟨hb, -⟩ := hH
          (try simp only [Exit.inBlock, Exit.then])
          have HB6 := hid (HB.out.trans (hb.mono HB.out.size))
          have hown := own_none HOW.out (grown_of_below hb none)
          clear hb
          go_wp2_with fail
          (try rw [Exit.noGoto_ret])
          refine bodyPost_ret (v := .tuple #[.slice none 0 0, .int .i64 (flowS l V A o x).2]) ?_ rfl (retall_no (all_stop HC.out HX.out HNO.out HFE.out) (below_next HB3.out HB6.out))
          rw [results_tmp2 rfl]; rfl
      · obtain rfl : k = l.length := by omega
        rw [List.take_length] at HXS
        go_wp2_with fail
        (try rw [Exit.noGoto_ret])
        refine bodyPost_ret (v := .tuple #[.slice ao xs.length co, .int .i64 0]) ?_ rfl ⟨_, xs, 0, rfl, own_base HOW.out HB3.out.size, by rw [all_good HC.out (fun j e he => HNO.out j e (List.getElem?_eq_some_iff.1 he).1 he), HXS.out], below_next HB3.out HB.out⟩
        rw [results_tmp2 rfl]; rfl
  · have HC := hid hc
    have hcq : (chkS (noNet p) l V A == 0) = false := by simpa using hc
    have hcn : (chkS (noNet p) l V A != 0) = true := by simpa using hc
    go_wp2_with (go_at_call 35; refine (wrong_any p l o _ _ V A _ HP.out HL.out HV.out HA.out hlv hla).mono ?_; rintro en w2 ⟨rfl, hb⟩; have HB2 := hid (below_next HBW.out hb); clear hb)
    (try rw [Exit.noGoto_ret])
    refine bodyPost_ret (v := .tuple #[.slice none 0 0, .int .i64 (chkS (noNet p) l V A)]) ?_ rfl (retall_no (all_bad HC.out) HB2.out)
    rw [results_tmp2 rfl]; rfl
end Go.Proofs.Ytaobncojdonhlaa
