/- a part of the proof of the last text -/
import Derived.Test.YtjeedckmkicnoaaGreatDoorZSc1
import Derived.Deep.Onto
namespace Go.Proofs.YtjeedckmkicnoaaGreatDoor
set_option linter.all false
set_option maxHeartbeats 4000000
set_option maxRecDepth 100000
open Go.RowKit
set_option maxRecDepth 100000 in
set_option maxHeartbeats 400000 in
theorem rsource_any (x : El) (w : World) : Calls Tryz.prog 40 #[.agg #[.int .u8 x.kind, .string x.name, .string x.a, .string x.b, .string x.c, .string x.d, .float .f64 x.val, .int .i64 x.ph]] w fun e w' => e = .returned (.bool (isSrc x)) ∧ Below w.heap.size w w' := by
  have HB := hid ((Below.refl w.heap.size w).alloc (Nat.le_refl _) (.cells #[.int .u8 x.kind, .string x.name, .string x.a, .string x.b, .string x.c, .string x.d, .float .f64 x.val, .int .i64 x.ph] 81))
  have c0 := (block_cells (heap_alloc_new w (.cells #[.int .u8 x.kind, .string x.name, .string x.a, .string x.b, .string x.c, .string x.d, .float .f64 x.val, .int .i64 x.ph] 81))).1 0 _ rfl
  rcases srcv_ways x.kind with ⟨h0, q1, q2⟩ | ⟨h0, q1, q2, q3, q4⟩ | ⟨q1, q2, q3, q4⟩
  · have HS := hid (show isSrc x = true by unfold isSrc; rw [q2]; rfl)
    clear h0
    go_enter Tryz.func40, Tryz.ntmps40
    go_upto_region 1 with fail
    generalize w.alloc (.cells #[.int .u8 x.kind, .string x.name, .string x.a, .string x.b, .string x.c, .string x.d, .float .f64 x.val, .int .i64 x.ph] 81) = w1 at *
    go_wp2
    (try rw [Exit.noGoto_ret])
    refine bodyPost_ret (v := .bool true) ?_ rfl ⟨by rw [HS.out], HB.out⟩
    rw [results_tmp rfl]; rfl
  · have HS := hid (show isSrc x = true by unfold isSrc; rw [q2, q4]; rfl)
    clear h0
    go_enter Tryz.func40, Tryz.ntmps40
    go_upto_region 1 with fail
    generalize w.alloc (.cells #[.int .u8 x.kind, .string x.name, .string x.a, .string x.b, .string x.c, .string x.d, .float .f64 x.val, .int .i64 x.ph] 81) = w1 at *
    go_wp2
    (try rw [Exit.noGoto_ret])
    refine bodyPost_ret (v := .bool true) ?_ rfl ⟨by rw [HS.out], HB.out⟩
    rw [results_tmp rfl]; rfl
  · have HS := hid (show isSrc x = false by unfold isSrc; rw [q2, q4]; rfl)
    go_enter Tryz.func40, Tryz.ntmps40
    go_upto_region 1 with fail
    generalize w.alloc (.cells #[.int .u8 x.kind, .string x.name, .string x.a, .string x.b, .string x.c, .string x.d, .float .f64 x.val, .int .i64 x.ph] 81) = w1 at *
    go_wp2
    (try rw [Exit.noGoto_ret])
    refine bodyPost_ret (v := .bool false) ?_ rfl ⟨by rw [HS.out], HB.out⟩
    rw [results_tmp rfl]; rfl
set_option maxRecDepth 100000 in
set_option maxHeartbeats 4000000 in
theorem rquiet_any (p : Value) (l : List El) (w : World) (hp : RN w p l) (hn : noRef p = false) (hob : (ofL l).1 = true) (hok : ∀ x ∈ l, x.Ok) :
    Calls Tryz.prog 14 #[p] w fun e w' => ∃ g : Nat, e = .returned (.pointer (some ⟨g, 0, none⟩)) ∧ RN w' (.pointer (some ⟨g, 0, none⟩)) (l.map (chg (fun _ => 0))) ∧ Below w.heap.size w w' := by
  obtain ⟨ie, hie, he0, he1, he2⟩ := info_parts infoEa
  have HP := hid hp
  have HN := hid hn
  have HOB := hid hob
  have HOK := hid hok
  have HLEN := hid (show l.length ≤ 256 from (netg_of hob hok).len)
  clear hp hn hob hok
  go_enter Tryz.func14, Tryz.ntmps14
  go_upto_region 4 with (first | (go_at_call 38; refine (rnone20_any _ l _ HP.out).mono ?_; rintro e w' ⟨rfl, rfl⟩; rw [HN.out]) | (go_at_call 11; refine (relements_any p l _ HP.out (by have := HLEN.out; omega)).mono ?_; rintro e w1 ⟨v, ws, rfl, hown, rfl, hb⟩; have HOW := hid hown; have HB := hid hb; obtain ⟨ao, co, rfl⟩ := (IsSl.of_own hown).form; clear hown hb))
  clear HP
  go_wp2
  go_loopw [4] (fun i wr => ∃ k : Nat, k ≤ l.length ∧ i = .int .i64 k ∧ wr.ownsRow w.heap.size 81 8 (.slice ao l.length co) l.length ((mixS (fun _ => 0) l k).flatMap ea) ∧ srcsS (fun _ => 0) (l.take k) = true ∧ Below w.heap.size w wr) (fun i _ => l.length - (intOf i).toNat)
  case atStart => exact ⟨0, Nat.zero_le _, rfl, by rw [mix_zero]; exact HOW.out, rfl, HB.out⟩
  case round =>
    obtain ⟨k, hk, rfl, hown, hsr, hb⟩ := hrel
    obtain ⟨wo, rfl⟩ : ∃ wo : World, wo = wr := ⟨_, rfl⟩
    have HO := hid hown
    have HBW := hid hb
    have HSR := hid hsr
    have hg0 := HLEN.out
    clear hown hb hsr
    by_cases hlt : k < l.length
    · obtain ⟨x, hx⟩ : ∃ x, l[k]? = some x := ⟨_, List.getElem?_eq_getElem hlt⟩
      have HXK := hid hx
      obtain ⟨ga, rfl⟩ : ∃ ga, ao = some ⟨ga, 0, none⟩ := by
        rcases HO.out.2 with ⟨h1, h2⟩ | ⟨g, cap, cur, h1, _⟩
        · omega
        · cases h1; exact ⟨g, rfl⟩
      obtain ⟨hidx, hcell, hfr⟩ := own_atF Tryz.underlying37 hie he1 HO.out (mix_len _ _ _) (mix_at (f := (fun _ => 0)) hx)
      have c0 := hcell 0 _ rfl
      have c1 := hcell 1 _ rfl
      have c2 := hcell 2 _ rfl
      have c3 := hcell 3 _ rfl
      have c4 := hcell 4 _ rfl
      have c5 := hcell 5 _ rfl
      have c6 := hcell 6 _ rfl
      have c7 := hcell 7 _ rfl
      rw [Nat.add_zero] at c0
      clear hcell hx
      have HGE := hid (HO.out.lt _ rfl)
      cases hs : isSrc x
      · have HS := hid hs
        clear hs
        go_wp2_with (go_at_call 40; refine (rsource_any x _).mono ?_; rintro e wq ⟨rfl, hb⟩; rw [HS.out]; have HOA := hid (own_none HO.out (grown_of_below hb none)); have HBA := hid (HBW.out.trans (hb.mono HBW.out.size)); clear hb)
        go_roundw
        case rel => exact ⟨k + 1, by omega, by go_num, by rw [mix_same HXK.out HS.out]; exact HOA.out, srcs_take HXK.out HSR.out (.inl HS.out), HBA.out⟩
        case measure => simp [intOf]; omega
      · have HS := hid hs
        clear hs
        go_wp2_with (go_at_call 40; refine (rsource_any x _).mono ?_; rintro e wq ⟨rfl, hb⟩; rw [HS.out]; have HOA := hid (own_none HO.out (grown_of_below hb none)); have HBA := hid (HBW.out.trans (hb.mono HBW.out.size)); clear hb; have hc := (own_atF Tryz.underlying37 hie he1 HOA.out (mix_len _ _ _) (mix_at (f := (fun _ => 0)) HXK.out)); clear c0 c1 c2 c3 c4 c5 c6 c7 hfr; have c6 := hc.2.1 6 _ rfl; have f6 := hc.2.2 (k * 8 + 6); clear hc)
        have HOQ : Hid ((wq.setCell ⟨ga, k * 8 + 6, none⟩ (.float .f64 0)).ownsRow w.heap.size 81 8 (.slice (some ⟨ga, 0, none⟩) l.length co) l.length (((mixS (fun _ => 0) l k).set k (setV x 0)).flatMap ea)) := hid (by
          rw [flat_setV (mix_at HXK.out) 0]
          exact own_put8 HOA.out rfl (by omega))
        have HBQ := hid (HBA.out.setCell (p := ⟨ga, k * 8 + 6, none⟩) HGE.out.1 (.float .f64 0))
        go_roundw
        case rel => exact ⟨k + 1, by omega, by go_num, by rw [mix_next HXK.out]; have h := HOQ.out; rw [show setV x 0 = chg (fun _ => 0) x by unfold chg; rw [if_pos HS.out]] at h; exact h, srcs_take HXK.out HSR.out (.inr (by decide +kernel)), HBQ.out⟩
        case measure => simp [intOf]; omega
    · obtain rfl : k = l.length := by omega
      have h := HSR.out
      rw [List.take_length] at h
      have HSA := hid h
      have ho := HO.out
      rw [mix_all] at ho
      have HSL := hid (show IsSl wo 8 (.slice ao l.length co) (l.map (chg (fun _ => 0))).length ((l.map (chg (fun _ => 0))).flatMap ea) by rw [List.length_map]; exact IsSl.of_own ho)
      have HOB2 := hid (ofL_chg HOB.out h)
      have HOK2 := hid (show ∀ x ∈ l.map (chg (fun _ => 0)), x.Ok from fun x hx => by obtain ⟨y, hy, rfl⟩ := List.mem_map.1 hx; exact chg_ok (HOK.out y hy) (by first | exact fop_lt _ _ _ | decide))
      have HLM := hid (show (l.map (chg (fun _ => 0))).length = l.length by simp)
      clear h ho
      go_upto_region 10 with (go_at_call 29; refine (rof_any15 _ (l.map (chg (fun _ => 0))) _ (by have h := HSL.out; rw [HLM.out] at h ⊢; exact h) HOK2.out (by rw [HLM.out]; have := HLEN.out; omega)).mono ?_; intro e w2 hr; obtain ⟨gn, rfl, hnn, hb⟩ := retof_goodR hr HOB2.out; have HNN := hid hnn; have HB2 := hid (below_next HBW.out hb); clear hr hnn hb)
      have hb3 := (Below.refl w2.heap.size w2).alloc (Nat.le_refl _) (.cells #[.int .i64 0, .int .i64 0] 62)
      have HN3 := hid (HNN.out.below' hb3)
      have HB3 := hid (below_next HB2.out hb3)
      clear hb3 HNN HB2
      generalize w2.alloc (.cells #[.int .i64 0, .int .i64 0] 62) = w3 at *
      go_wp2
      (try simp only [Exit.inBlock, Exit.then])
      (try rw [Exit.noGoto_ret])
      go_ret
      exact ⟨gn, rfl, HN3.out, HB3.out⟩
set_option maxRecDepth 100000 in
set_option maxHeartbeats 4000000 in
theorem rscaled_any (p : Value) (l : List El) (by_ : Nat) (w : World) (hp : RN w p l) (hn : noRef p = false) (hob : (ofL l).1 = true) (hok : ∀ x ∈ l, x.Ok) :
    Calls Tryz.prog 10 #[p, .float .f64 by_] w (RetScl RN by_ l w) := by
  obtain ⟨ie, hie, he0, he1, he2⟩ := info_parts infoEa
  have HP := hid hp
  have HN := hid hn
  have HOB := hid hob
  have HOK := hid hok
  have HLEN := hid (show l.length ≤ 256 from (netg_of hob hok).len)
  clear hp hn hob hok
  cases hf : ffin (fc by_)
  · have HF := hid hf
    clear hf
    go_enter Tryz.func10, Tryz.ntmps10
    go_wp2_with (first | (go_at_call 38; refine (rnone20_any _ l _ HP.out).mono ?_; rintro e w' ⟨rfl, rfl⟩; rw [HN.out]) | (go_at_call 39; refine (rfinr_any _ _).mono ?_; rintro e w' ⟨_, n, rfl, rfl, rfl⟩; rw [HF.out]))
    (try simp only [Exit.inBlock, Exit.then])
    (try rw [Exit.noGoto_ret])
    refine bodyPost_ret (v := .tuple #[.pointer none, .int .i64 5]) ?_ rfl (RetScl.no HF.out (below_n (Below.refl _ _) _))
    rw [results_tmp2 rfl]; rfl
  have HF := hid hf
  clear hf
  go_enter Tryz.func10, Tryz.ntmps10
  go_upto_region 5 with (first | (go_at_call 38; refine (rnone20_any _ l _ HP.out).mono ?_; rintro e w' ⟨rfl, rfl⟩; rw [HN.out]) | (go_at_call 39; refine (rfinr_any _ _).mono ?_; rintro e w' ⟨_, n, rfl, rfl, rfl⟩; rw [HF.out]))
  have hb0 := below_n (Below.refl w.heap.size w) n
  have HP0 := hid (HP.out.below' hb0)
  have HB0 := hid hb0
  clear HP hb0
  generalize w.drewN n = w0 at *
  go_upto_region 6 with (go_at_call 11; refine (relements_any p l _ HP0.out (by have := HLEN.out; omega)).mono ?_; rintro e w1 ⟨v, ws, rfl, hown, rfl, hb⟩; have HOW := hid (hown.mono HB0.out.size); have HB := hid (below_next HB0.out hb); obtain ⟨ao, co, rfl⟩ := (IsSl.of_own hown).form; clear hown hb)
  clear HP0 HB0
  go_wp2
  go_loopw [7] (fun i wr => ∃ k : Nat, k ≤ l.length ∧ i = .int .i64 k ∧ wr.ownsRow w.heap.size 81 8 (.slice ao l.length co) l.length ((mixS (fun v => fmul v (fc by_)) l k).flatMap ea) ∧ srcsS (fun v => fmul v (fc by_)) (l.take k) = true ∧ Below w.heap.size w wr) (fun i _ => l.length - (intOf i).toNat)
  case atStart => exact ⟨0, Nat.zero_le _, rfl, by rw [mix_zero]; exact HOW.out, rfl, HB.out⟩
  case round =>
    obtain ⟨k, hk, rfl, hown, hsr, hb⟩ := hrel
    obtain ⟨wo, rfl⟩ : ∃ wo : World, wo = wr := ⟨_, rfl⟩
    have HO := hid hown
    have HBW := hid hb
    have HSR := hid hsr
    have hg0 := HLEN.out
    clear hown hb hsr
    by_cases hlt : k < l.length
    · obtain ⟨x, hx⟩ : ∃ x, l[k]? = some x := ⟨_, List.getElem?_eq_getElem hlt⟩
      have HXK := hid hx
      obtain ⟨ga, rfl⟩ : ∃ ga, ao = some ⟨ga, 0, none⟩ := by
        rcases HO.out.2 with ⟨h1, h2⟩ | ⟨g, cap, cur, h1, _⟩
        · omega
        · cases h1; exact ⟨g, rfl⟩
      obtain ⟨hidx, hcell, hfr⟩ := own_atF Tryz.underlying37 hie he1 HO.out (mix_len _ _ _) (mix_at (f := (fun v => fmul v (fc by_))) hx)
      have c0 := hcell 0 _ rfl
      have c1 := hcell 1 _ rfl
      have c2 := hcell 2 _ rfl
      have c3 := hcell 3 _ rfl
      have c4 := hcell 4 _ rfl
      have c5 := hcell 5 _ rfl
      have c6 := hcell 6 _ rfl
      have c7 := hcell 7 _ rfl
      rw [Nat.add_zero] at c0
      clear hcell hx
      have HGE := hid (HO.out.lt _ rfl)
      cases hs : isSrc x
      · have HS := hid hs
        clear hs
        go_wp2_with (go_at_call 40; refine (rsource_any x _).mono ?_; rintro e wq ⟨rfl, hb⟩; rw [HS.out]; have HOA := hid (own_none HO.out (grown_of_below hb none)); have HBA := hid (HBW.out.trans (hb.mono HBW.out.size)); clear hb)
        go_roundw
        case rel => exact ⟨k + 1, by omega, by go_num, by rw [mix_same HXK.out HS.out]; exact HOA.out, srcs_take HXK.out HSR.out (.inl HS.out), HBA.out⟩
        case measure => simp [intOf]; omega
      · have HS := hid hs
        clear hs
        go_upto_region 10 with (go_at_call 40; refine (rsource_any x _).mono ?_; rintro e wq ⟨rfl, hb⟩; rw [HS.out]; have HOA := hid (own_none HO.out (grown_of_below hb none)); have HBA := hid (HBW.out.trans (hb.mono HBW.out.size)); clear hb; have hc := (own_atF Tryz.underlying37 hie he1 HOA.out (mix_len _ _ _) (mix_at (f := (fun v => fmul v (fc by_))) HXK.out)); clear c0 c1 c2 c3 c4 c5 c6 c7 hfr; have c6 := hc.2.1 6 _ rfl; have f6 := hc.2.2 (k * 8 + 6); clear hc)
        clear hidx
        obtain ⟨hidx, _, _⟩ := own_atF Tryz.underlying37 hie he1 HOA.out (mix_len _ _ _) (mix_at (f := (fun v => fmul v (fc by_))) HXK.out)
        go_upto_region 11 with (refine wpList_float rfl _ _ _ _ _ rfl rfl _ _ rfl rfl ?_; intro r n hr; have HR := hid (show fc r = (fun v => fmul v (fc by_)) (fc x.val) from hr); clear hr; have hb := below_n (Below.refl wq.heap.size wq) n; have HOC := hid (own_none HOA.out (grown_of_below hb none)); have HBC := hid (HBA.out.trans (hb.mono HBA.out.size)); replace c6 : (wq.drewN n).cell? ⟨ga, k * 8 + 6, none⟩ = some (.float .f64 x.val) := c6; replace f6 : (wq.drewN n).frozen? ⟨ga, k * 8 + 6, none⟩ = false := f6; clear hb HOA HBA; generalize wq.drewN n = wq2 at *)
        clear c6 f6 hidx
        have HOQ : Hid ((wq2.setCell ⟨ga, k * 8 + 6, none⟩ (.float .f64 r)).ownsRow w.heap.size 81 8 (.slice (some ⟨ga, 0, none⟩) l.length co) l.length (((mixS (fun v => fmul v (fc by_)) l k).set k (setV x r)).flatMap ea)) := hid (by
          rw [flat_setV (mix_at HXK.out) r]
          exact own_put8 HOC.out rfl (by omega))
        have HBQ := hid (HBC.out.setCell (p := ⟨ga, k * 8 + 6, none⟩) HGE.out.1 (.float .f64 r))
        clear HOC HBC
        generalize wq2.setCell ⟨ga, k * 8 + 6, none⟩ (.float .f64 r) = w5 at *
        have HXS := hid (show ((mixS (fun v => fmul v (fc by_)) l k).set k (setV x r))[k]? = some (setV x r) by rw [List.getElem?_set_self (by rw [mix_len]; exact hlt)])
        obtain ⟨hidx, hcl, _⟩ := own_atF Tryz.underlying37 hie he1 HOQ.out (by rw [List.length_set, mix_len]) HXS.out
        have k6 : w5.cell? ⟨ga, k * 8 + 6, none⟩ = some (.float .f64 r) := hcl 6 _ rfl
        clear hcl
        cases hfin : ffin r
        · have HNO := hid (srcs_no HXK.out HS.out (f := (fun v => fmul v (fc by_))) (by have h := HR.out; dsimp only at h ⊢; rw [← h, ffin_fc]; exact hfin))
          have HFI := hid (show ffin (fc r) = false by rw [ffin_fc]; exact hfin)
          clear hfin
          go_wp2_with (go_at_call 39; refine (rfinr_any _ _).mono ?_; rintro e w' ⟨_, n, rfl, rfl, rfl⟩; rw [HFI.out])
          (try simp only [Exit.inBlock, Exit.then])
          (try rw [Exit.noGoto_ret])
          refine bodyPost_ret (v := .tuple #[.pointer none, .int .i64 6]) ?_ rfl (RetScl.yes HF.out (.inr ⟨HNO.out, rfl, below_n HBQ.out _⟩))
          rw [results_tmp2 rfl]; rfl
        · have HFI := hid (show ffin (fc r) = true by rw [ffin_fc]; exact hfin)
          have hrr : r = (fun v => fmul v (fc by_)) (fc x.val) := by rw [← HR.out]; exact fin_eq hfin
          have HRR := hid hrr
          clear hfin hrr
          go_wp2_with (go_at_call 39; refine (rfinr_any _ _).mono ?_; rintro e w' ⟨_, n, rfl, rfl, rfl⟩; rw [HFI.out])
          go_roundw
          case rel => exact ⟨k + 1, by omega, by go_num, by rw [mix_next HXK.out]; have h := HOQ.out; rw [show setV x r = chg (fun v => fmul v (fc by_)) x by unfold chg; rw [if_pos HS.out]; exact congrArg (setV x) HRR.out] at h; exact h, srcs_take HXK.out HSR.out (.inr (by rw [← HR.out]; exact HFI.out)), below_n HBQ.out _⟩
          case measure => simp [intOf]; omega
    · obtain rfl : k = l.length := by omega
      have h := HSR.out
      rw [List.take_length] at h
      have HSA := hid h
      have ho := HO.out
      rw [mix_all] at ho
      have HSL := hid (show IsSl wo 8 (.slice ao l.length co) (l.map (chg (fun v => fmul v (fc by_)))).length ((l.map (chg (fun v => fmul v (fc by_)))).flatMap ea) by rw [List.length_map]; exact IsSl.of_own ho)
      have HOB2 := hid (ofL_chg HOB.out h)
      have HOK2 := hid (show ∀ x ∈ l.map (chg (fun v => fmul v (fc by_))), x.Ok from fun x hx => by obtain ⟨y, hy, rfl⟩ := List.mem_map.1 hx; exact chg_ok (HOK.out y hy) (by first | exact fop_lt _ _ _ | decide))
      have HLM := hid (show (l.map (chg (fun v => fmul v (fc by_)))).length = l.length by simp)
      clear h ho
      go_upto_region 14 with (go_at_call 29; refine (rof_any15 _ (l.map (chg (fun v => fmul v (fc by_)))) _ (by have h := HSL.out; rw [HLM.out] at h ⊢; exact h) HOK2.out (by rw [HLM.out]; have := HLEN.out; omega)).mono ?_; intro e w2 hr; obtain ⟨gn, rfl, hnn, hb⟩ := retof_goodR hr HOB2.out; have HNN := hid hnn; have HB2 := hid (below_next HBW.out hb); clear hr hnn hb)
      have hb3 := (Below.refl w2.heap.size w2).alloc (Nat.le_refl _) (.cells #[.int .i64 0, .int .i64 0] 62)
      have HN3 := hid (HNN.out.below' hb3)
      have HB3 := hid (below_next HB2.out hb3)
      clear hb3 HNN HB2
      generalize w2.alloc (.cells #[.int .i64 0, .int .i64 0] 62) = w3 at *
      go_wp2
      (try simp only [Exit.inBlock, Exit.then])
      (try rw [Exit.noGoto_ret])
      refine bodyPost_ret (v := .tuple #[.pointer (some ⟨gn, 0, none⟩), .int .i64 0]) ?_ rfl (RetScl.yes HF.out (.inl ⟨HSA.out, gn, rfl, HN3.out, HB3.out⟩))
      rw [results_tmp2 rfl]; rfl
end Go.Proofs.YtjeedckmkicnoaaGreatDoor
