/- Walk of gridworkkit.ApartNumbers; what else lies in memory stays. -/
import Derived.Test.YtejooaeppcjhjaaNumbers2
import Derived.Test.YtejooaeppcjhjaaApartD
namespace Go.Proofs.Ytejooaeppcjhjaa
open Go.RowKit

theorem infoCsD : (Try.prog.info? 37).map (fun i => (i.zero, i.size, i.bytes)) = some (some (.slice none 0 0), 1, 24) := by kernel_rfl

/-- What is the same as itself. -/
theorem sameselfnumbersD (x : Cx) (w : World) : Calls Try.prog 35 #[(mkC) x, (mkC) x] w fun e w' => e = .returned (.bool true) ∧ w = w' := by
  have := (samenumber_any x x w)
  simpa using this
set_option maxRecDepth 100000 in
set_option maxHeartbeats 1000000 in
theorem apartnumbersD_any (D : Nat → Prop) (B m : Nat) (v0 : Value) (V : Nat → Value) (N : Nat → Nat) (L : Nat → List Cx) (w w0 : World) (hm : m ≤ 900) (hN : ∀ j, j < m → (N j + 6) * 16 ≤ 140737488355328)
    (hs : SepK D m v0 V) (hF : FamK D (mkC) 72 B m v0 V N L w0 w) :
    Calls Try.prog 14 #[v0] w (ApartOkK D B w0) := by
  obtain ⟨a0, c0, rfl⟩ := hF.list.form
  obtain ⟨i0, hi, hz0, hz1, hz2⟩ := info_parts infoC
  obtain ⟨iS, hiS, hS0, hS1, hS2⟩ := info_parts infoCsD
  have HF := hid hF
  have HN := hid hN
  have HS := hid hs
  clear hF hN hs
  have hm1 : (m : Int) ≤ 900 := by omega
  go_enter Try.func14, Try.ntmps14
  go_wp2
  go_loopw [3] (fun i wr => ∃ (k : Nat) (L : Nat → List Cx), k ≤ m ∧ i = .int .i64 k ∧ FamK D (mkC) 72 B m (.slice a0 m c0) V N L w0 wr ∧ ∀ j, j < k → L j = marksOf markNumbers (j + 10) (N j)) (fun i _ => m - (intOf i).toNat)
  case atStart => exact ⟨0, L, by omega, rfl, HF.out, fun j hj => by omega⟩
  case round =>
    obtain ⟨k, L, hk, rfl, hfam, hL⟩ := hrel
    have HFam := hid hfam
    have HL := hid hL
    clear hfam hL
    by_cases hlt : k < m
    · obtain ⟨a, c, hV⟩ := HFam.out.form hlt
      have hNk : N k ≤ 140737488355328 := by have := HN.out k hlt; omega
      have HV := hid hV
      clear hV
      obtain ⟨wo, hwo⟩ : ∃ wo : World, wo = wr := ⟨_, rfl⟩
      subst hwo
      go_wp2
      go_loopw [4] (fun i wr => ∃ (q : Nat) (L : Nat → List Cx), q ≤ N k ∧ i = .int .i64 q ∧ FamK D (mkC) 72 B m (.slice a0 m c0) V N L w0 wr ∧ (∀ j, j < k → L j = marksOf markNumbers (j + 10) (N j)) ∧ (L k).take q = marksOf markNumbers (k + 10) q) (fun i _ => N k - (intOf i).toNat)
      case atStart => exact ⟨0, L, by omega, rfl, HFam.out, HL.out, by simp [marksOf]⟩
      case round =>
        obtain ⟨q, L', hq, rfl, hfam, hL', htk⟩ := hrel
        have HFam' := hid hfam
        have HL' := hid hL'
        have HT := hid htk
        clear hfam hL' htk
        obtain ⟨g0, o0, hidx0, hg0, hcell0, hob0⟩ := HFam'.out.list.atV Try.underlying49 hiS hS1 hlt HV.out
        have HO0 := hid hob0
        clear hob0
        by_cases hql : q < N k
        · have hrow := HFam'.out.rows k hlt
          rw [HV.out] at hrow
          obtain ⟨g, x, hidx, hB, hg, hcell, hx, hfr, hob, hst⟩ := own_at1 Try.underlying37 hi hz1 hrow hql
          have HO := hid hob
          have HST := hid hst
          have HX := hid hx
          have HR := hid hrow
          clear hob hst hx hrow
          have hne : ¬ g0 = g := by
            intro e
            have := HS.out.ls k hlt g (by rw [HV.out]; exact HO.out)
            exact this (by rw [HO0.out, e])
          have hk10 : IntKind.i64.wrap ((k : Int) + 10) = ((k + 10 : Nat) : Int) := by rw [IntWalk.i64_in _ ⟨by omega, by omega⟩]; omega
          have hq0 : (0 : Int) ≤ (q : Int) := by omega
          go_wp2_with fail
          go_region_held3 (fun w' => w'.cell? ⟨g0, o0, none⟩ = some (.slice a (N k) c)) (((try dsimp only); first | exact cell_store_ne_drew hne hcell0 | (go_keep; done))) (first | (go_at_call 34; refine (marknumbers_any (k + 10) q _ (by omega) (by omega)).mono ?_; rintro e w' ⟨rfl, rfl⟩))
          go_wp2
          go_roundw
          case rel =>
            have hst := HST.out wr HR.out ((mkC) (markNumbers (k + 10) q))
            have hgr : wr.grownBy ((wr.setCell ⟨g, q, none⟩ ((mkC) (markNumbers (k + 10) q))).drew) (some g) := ⟨hst.2.os, hst.2.tape, hst.2.output, hst.2.size, hst.2.block⟩
            have hown : ((wr.setCell ⟨g, q, none⟩ ((mkC) (markNumbers (k + 10) q))).drew).ownsRow B 72 1 (V k) (N k) (((L' k).set q (markNumbers (k + 10) q)).map (mkC)) := by rw [HV.out, List.map_set]; exact hst.1
            refine ⟨q + 1, _, by omega, by go_num, HFam'.out.store HS.out hlt (by rw [HV.out]; exact HO.out) hgr hown, fun j hj => ?_, ?_⟩
            · simp only [show ¬ j = k from by omega, if_false]; exact HL'.out j hj
            · simp only [if_true]
              have hlen := HFam'.out.len hlt
              rw [marksOf_succ, ← HT.out, List.take_succ_eq_append_getElem (by rw [List.length_set, hlen]; exact hql), List.take_set_of_le (Nat.le_refl _)]
              simp
          case measure => simp [intOf]; omega
        · go_wp2
          go_roundw
          case rel =>
            obtain rfl : q = N k := by omega
            refine ⟨k + 1, L', by omega, by go_num, HFam'.out, fun j hj => ?_⟩
            by_cases hjk : j = k
            · subst hjk
              have := HT.out
              rwa [List.take_of_length_le (by have := HFam'.out.len hlt; omega)] at this
            · exact HL'.out j (by omega)
          case measure => simp [intOf]; omega
    · obtain rfl : k = m := by omega
      have hgs := GsK.start (ST := 37) (HFam.out.congr (L' := fun j => marksOf markNumbers (j + 10) (N j)) HL.out)
      have hof := HFam.out.ownForm
      have HGS := hid hgs
      have HOF := hid hof
      clear hgs hof
      go_wp2
      go_loopw [5, 6] (fun out i wr => ∃ (q : Nat) (G : Nat → Value), q ≤ k ∧ i = .int .i64 q ∧ GsK D (mkC) markNumbers 72 37 B k (.slice a0 k c0) V N q q out G w0 wr) (fun _ i _ => k - (intOf i).toNat)
      case atStart => exact ⟨0, V, by omega, rfl, HGS.out⟩
      case round =>
        obtain ⟨q, G, hq, rfl, hgs⟩ := hrel
        have HG := hid hgs
        clear hgs HGS
        by_cases hql : q < k
        · obtain ⟨a, c, hV⟩ := (HG.out.old q hql).form
          have hNq : (N q + 6) * 16 ≤ 140737488355328 := HN.out q hql
          have HV := hid hV
          clear hV
          obtain ⟨g0, o0, hidx0, hg0, hcell0, hob0⟩ := HG.out.list.atV Try.underlying49 hiS hS1 hql HV.out
          clear hob0
          obtain ⟨wo, hwo⟩ : ∃ wo : World, wo = wr := ⟨_, rfl⟩
          subst hwo
          go_wp2
          clear hidx0 hg0 hcell0
          go_loopw [7, 8] (fun gv i wr => ∃ r : Nat, r ≤ 6 ∧ i = .int .i64 r ∧ GsK D (mkC) markNumbers 72 37 B k (.slice a0 k c0) V N q (q + 1) u5 G w0 wr ∧ CurK D (mkC) markNumbers 72 B k (.slice a0 k c0) V N q (N q + r) u5 gv G wr) (fun _ i _ => 6 - (intOf i).toNat)
          case atStart =>
            have hc := CurK.begin HG.out HS.out hql
            rw [HV.out] at hc
            exact ⟨0, by omega, rfl, HG.out.less (by omega), hc⟩
          case round =>
            obtain ⟨r, hr, rfl, hgs, hcur⟩ := hrel
            have HG2 := hid hgs
            have HC := hid hcur
            clear hgs hcur
            have hown := HC.out.own
            have hsz := HG2.out.size
            by_cases hrl : r < 6
            · obtain ⟨g0, o0, hidx0, hg0, hcell0, hob0⟩ := HG2.out.list.atV Try.underlying49 hiS hS1 hql HV.out
              clear hob0
              go_wp2_with (first | (go_at_call 34; refine (marknumbers_any (q + 10) (N q + r) _ (by omega) (by omega)).mono ?_; rintro e w' ⟨rfl, rfl⟩) | (refine wpList_push2 rfl rfl _ rfl _ _ _ rfl rfl B 72 1 16 i0 (.complex .f64 0 0) Try.underlying37 hi hz0 hz1 hz2 rfl (by decide) (by decide) _ (N q + r) _ hown hsz _ rfl rfl (by intro u hu; exact mkC_mem hu) rfl rfl (by simp [maxLen]; omega) (by omega) ?_; intro g1 cap1 w1 hown1 hlt1 htwo))
              go_roundw
              case rel =>
                have hp := GsK.push_in HG2.out HC.out HS.out HOF.out hql (by omega) hown1 htwo
                exact ⟨r + 1, by omega, by go_num, hp.1, hp.2⟩
              case measure => simp [intOf]; omega
            · obtain rfl : r = 6 := by omega
              have hsq := HG2.out.outR
              obtain ⟨a7, c7, h7⟩ := (IsSl.of_own HC.out.own).form
              have h7c : u7.cells.toList = [u7] := by rw [h7]; rfl
              have h7s : u7.cells.size = 1 := by rw [h7]; rfl
              have h7o : ∀ u ∈ u7.cells.toList, u.oneCell' = true := by rw [h7]; simp [Value.cells, Value.oneCell']
              have H7 := hid h7c
              clear h7c h7
              have H7S := hid h7s
              have H7O := hid h7o
              clear h7s h7o
              go_wp2_with (refine wpList_push2 rfl rfl _ rfl _ _ _ rfl rfl B 37 1 24 iS (.slice none 0 0) Try.underlying49 hiS hS0 hS1 hS2 rfl (by decide) (by decide) _ q _ hsq hsz u7 rfl H7S.out H7O.out rfl rfl (by simp [maxLen]; omega) (by omega) ?_; intro g1 cap1 w1 hown1 hlt1 htwo)
              go_roundw
              case rel =>
                have hown1' := hown1
                rw [H7.out] at hown1'
                exact ⟨q + 1, _, by omega, by go_num, GsK.push_out HG2.out HC.out HS.out hql hown1' htwo⟩
              case measure => simp [intOf]; omega
        · obtain rfl : q = k := by omega
          obtain ⟨a5, c5, h5⟩ := (IsSl.of_own HG.out.outR).form
          have hout : IsSl wr 1 (.slice a5 q c5) q ((List.range q).map G) := by rw [← h5]; exact IsSl.of_own HG.out.outR
          have HOUT := hid hout
          clear hout
          go_wp2
          rw [h5]
          clear h5
          clear HFam HF
          go_loopw [9] (fun i wr => ∃ (s : Nat), s ≤ q ∧ i = .int .i64 s ∧ IsSl wr 1 (.slice a5 q c5) q ((List.range q).map G) ∧ GsK D (mkC) markNumbers 72 37 B q (.slice a0 q c0) V N q q u5 G w0 wr) (fun i _ => q - (intOf i).toNat)
          case atStart => exact ⟨0, by omega, rfl, HOUT.out, HG.out⟩
          case round =>
            obtain ⟨s, hsq, rfl, hout, hgs⟩ := hrel
            have HO3 := hid hout
            have HG3 := hid hgs
            clear hout hgs
            by_cases hsl : s < q
            · obtain ⟨a, c, hV⟩ := (HG3.out.old s hsl).form
              obtain ⟨ag, cg, hGs⟩ := (HG3.out.new s hsl).form
              have hNs : (N s + 6) * 16 ≤ 140737488355328 := HN.out s hsl
              have HV := hid hV
              have HGs := hid hGs
              clear hV hGs
              obtain ⟨wo, hwo⟩ : ∃ wo : World, wo = wr := ⟨_, rfl⟩
              subst hwo
              go_wp2
              go_loopw [10] (fun i wr => ∃ (r : Nat), r ≤ N s + 6 ∧ i = .int .i64 r ∧ IsSl wr 1 (.slice a5 q c5) q ((List.range q).map G) ∧ GsK D (mkC) markNumbers 72 37 B q (.slice a0 q c0) V N q q u5 G w0 wr) (fun i _ => N s + 6 - (intOf i).toNat)
              case atStart => exact ⟨0, by omega, rfl, HO3.out, HG3.out⟩
              case round =>
                obtain ⟨r, hr, rfl, hout, hgs⟩ := hrel
                have HO4 := hid hout
                have HG4 := hid hgs
                clear hout hgs
                obtain ⟨g1, o1, hidx1, hg1, hcell1, hob1⟩ := HO4.out.atV Try.underlying49 hiS hS1 hsl HGs.out
                clear hob1
                by_cases hrl : r < N s + 6
                · have hgn := HG4.out.new s hsl
                  rw [HGs.out] at hgn
                  obtain ⟨g2, o2, x2, hidx2, hg2, hcell2, hx2⟩ := IsSl.at1 Try.underlying37 hi hz1 hgn hrl
                  obtain ⟨b2, hb2, rfl⟩ := map_getElem? hx2
                  rw [marksOf_get _ (by omega)] at hb2
                  obtain rfl := Option.some.inj hb2
                  clear hx2 hb2 hgn
                  obtain ⟨g3, o3, hidx3, hg3, hcell3, hob3⟩ := HG4.out.list.atV Try.underlying49 hiS hS1 hsl HV.out
                  clear hob3
                  have hk10 : IntKind.i64.wrap ((s : Int) + 10) = ((s + 10 : Nat) : Int) := by rw [IntWalk.i64_in _ ⟨by omega, by omega⟩]; omega
                  by_cases hrs : r < N s
                  · have hvo := HG4.out.old s hsl
                    rw [HV.out] at hvo
                    obtain ⟨g4, o4, x4, hidx4, hg4, hcell4, hx4⟩ := IsSl.at1 Try.underlying37 hi hz1 hvo hrs
                    obtain ⟨b4, hb4, rfl⟩ := map_getElem? hx4
                    rw [marksOf_get _ (by omega)] at hb4
                    obtain rfl := Option.some.inj hb4
                    clear hx4 hb4 hvo
                    have hd : decide ((r : Int) < (N s : Int)) = true := by simpa using hrs
                    have hd2 : decide (r < N s) = true := by simpa using hrs
                    go_wp2_with fail
                    go_quiet ((first | (go_at_call 34; exact Calls.quiet_same (marknumbers_any (s + 10) r _ (by omega) (by omega))) | (go_at_call 35; exact Calls.quiet_same (sameselfnumbersD _ _))))
                    go_wp2
                    go_roundw
                    case rel => exact ⟨r + 1, by omega, by go_num, HO4.out.drewN _, HG4.out.drewN _⟩
                    case measure => simp [intOf]; omega
                  · have hd : decide ((r : Int) < (N s : Int)) = false := by simp; omega
                    have hd2 : decide (r < N s) = false := by simpa using hrs
                    go_wp2_with fail
                    go_quiet ((first | (go_at_call 34; exact Calls.quiet_same (marknumbers_any (s + 10) r _ (by omega) (by omega))) | (go_at_call 35; exact Calls.quiet_same (sameselfnumbersD _ _))))
                    go_wp2
                    go_roundw
                    case rel => exact ⟨r + 1, by omega, by go_num, HO4.out.drewN _, HG4.out.drewN _⟩
                    case measure => simp [intOf]; omega
                · go_wp2
                  go_roundw
                  case rel => exact ⟨s + 1, by omega, by go_num, HO4.out, HG4.out⟩
                  case measure => simp [intOf]; omega
            · go_wp2
              go_ret
              exact ⟨rfl, HG3.out.below, HG3.out.kd.keep⟩

end Go.Proofs.Ytejooaeppcjhjaa

