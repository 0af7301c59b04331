/- Walk of gridworkkit.ApartTexts. -/
import Derived.Test.YtejooaeppcjhjaaMTexts
import Derived.Test.YtejooaeppcjhjaaApart
namespace Go.Proofs.Ytejooaeppcjhjaa
open Go.RowKit

theorem infoSts : (Try.prog.info? 42).map (fun i => (i.zero, i.size, i.bytes)) = some (some (.slice none 0 0), 1, 24) := by kernel_rfl
theorem str_one (s : ByteArray) : ∀ u ∈ (Value.string s).cells.toList, u.oneCell' = true := by simp [Value.cells, Value.oneCell']
section
variable {α : Type} {mk : α → Value} {mark : Nat → Nat → α} {E ST B m : Nat} {v0 : Value} {V : Nat → Value} {N : Nat → Nat}
theorem Gs.later {k kr : Nat} {out : Value} {G : Nat → Value} {w wr w1 : World} (h : Gs mk mark E ST B m v0 V N k kr out G w wr) (hb : Below wr.heap.size wr w1) : Gs mk mark E ST B m v0 V N k kr out G w w1 :=
  ⟨h.below.trans (hb.mono h.size), Nat.le_trans h.size hb.size, h.list.below hb (Nat.le_refl _), fun j hj => (h.old j hj).below hb (Nat.le_refl _), fun j hj hk => own_none (h.rows j hj hk) (grown_of_below hb none), fun j hj => (h.new j hj).below hb (Nat.le_refl _), own_none h.outR (grown_of_below hb none), h.outV, h.gV⟩
theorem Cur.later {k n : Nat} {out gv : Value} {G : Nat → Value} {wr w1 : World} (h : Cur mk mark E B m v0 V N k n out gv G wr) (hb : Below wr.heap.size wr w1) : Cur mk mark E B m v0 V N k n out gv G w1 :=
  ⟨own_none h.own (grown_of_below hb none), h.vs, h.out, h.ls, h.gs⟩
end
/-- Lists that share no memory: each is written full of its own marks, each is gone on with: each holds its own then. -/
def ApartOkT (B : Nat) (w : World) (en : Ending) (w' : World) : Prop := en = .returned (.bool true) ∧ Below B w w'
set_option maxRecDepth 100000 in
set_option maxHeartbeats 4000000 in
theorem aparttexts_any (B m : Nat) (v0 : Value) (V : Nat → Value) (N : Nat → Nat) (L : Nat → List ByteArray) (w w0 : World) (hm : m ≤ 900) (hN : ∀ j, j < m → (N j + 6) * 16 ≤ 140737488355328)
    (hs : Sep m v0 V) (hF : Fam (Value.string) 9 B m v0 V N L w0 w) :
    Calls Try.prog 15 #[v0] w (ApartOkT B w0) := by
  obtain ⟨a0, c0, rfl⟩ := hF.list.form
  obtain ⟨i0, hi, hz0, hz1, hz2⟩ := info_parts infoSt
  obtain ⟨iS, hiS, hS0, hS1, hS2⟩ := info_parts infoSts
  have HF := hid hF
  have HN := hid hN
  have HS := hid hs
  clear hF hN hs
  have hm1 : (m : Int) ≤ 900 := by omega
  go_enter Try.func15, Try.ntmps15
  go_wp2
  go_loopw [3] (fun i wr => ∃ (k : Nat) (L : Nat → List ByteArray), k ≤ m ∧ i = .int .i64 k ∧ Fam (Value.string) 9 B m (.slice a0 m c0) V N L w0 wr ∧ ∀ j, j < k → L j = marksOf markTexts (j + 10) (N j)) (fun i _ => m - (intOf i).toNat)
  case atStart => exact ⟨0, L, by omega, rfl, HF.out, fun j hj => by omega⟩
  case round =>
    obtain ⟨k, L, hk, rfl, hfam, hL⟩ := hrel
    have HFam := hid hfam
    have HL := hid hL
    clear hfam hL
    by_cases hlt : k < m
    · obtain ⟨a, c, hV⟩ := HFam.out.form hlt
      have hNk : N k ≤ 140737488355328 := by have := HN.out k hlt; omega
      have HV := hid hV
      clear hV
      obtain ⟨wo, hwo⟩ : ∃ wo : World, wo = wr := ⟨_, rfl⟩
      subst hwo
      go_wp2
      go_loopw [4] (fun i wr => ∃ (q : Nat) (L : Nat → List ByteArray), q ≤ N k ∧ i = .int .i64 q ∧ Fam (Value.string) 9 B m (.slice a0 m c0) V N L w0 wr ∧ (∀ j, j < k → L j = marksOf markTexts (j + 10) (N j)) ∧ (L k).take q = marksOf markTexts (k + 10) q) (fun i _ => N k - (intOf i).toNat)
      case atStart => exact ⟨0, L, by omega, rfl, HFam.out, HL.out, by simp [marksOf]⟩
      case round =>
        obtain ⟨q, L', hq, rfl, hfam, hL', htk⟩ := hrel
        have HFam' := hid hfam
        have HL' := hid hL'
        have HT := hid htk
        clear hfam hL' htk
        obtain ⟨g0, o0, hidx0, hg0, hcell0, hob0⟩ := HFam'.out.list.atV Try.underlying51 hiS hS1 hlt HV.out
        have HO0 := hid hob0
        clear hob0
        by_cases hql : q < N k
        · have hrow := HFam'.out.rows k hlt
          rw [HV.out] at hrow
          have HROW := hid hrow
          clear hrow
          have hk10 : IntKind.i64.wrap ((k : Int) + 10) = ((k + 10 : Nat) : Int) := by rw [IntWalk.i64_in _ ⟨by omega, by omega⟩]; omega
          have hq0 : (0 : Int) ≤ (q : Int) := by omega
          go_wp2_with fail
          refine wp_region_any (by kernel_rfl) ?_
          change wpAny _ _ _ _ _ _ _ (World.drew _)
          refine wpAny_makersD [⟨some 26, 0, []⟩, ⟨some 27, 1, []⟩, ⟨some 28, 2, []⟩, ⟨some 29, 3, []⟩, ⟨some 30, 4, []⟩, ⟨some 31, 5, []⟩, ⟨some 32, 6, []⟩, ⟨some 33, 7, []⟩, ⟨some 34, 8, []⟩]
            (fun w' => w'.cell? ⟨g0, o0, none⟩ = some (.slice a (N k) c))
            (fun oq v _ _ _ _ => match oq with | 0 => v = .slice a0 m c0 | 1 => v = .int .i64 k | 2 => v = .pointer (some ⟨g0, o0, none⟩) | 3 => v = .slice a (N k) c | 4 => v = .int .i64 q | 5 => v = .int .i64 k | 6 => v = .int .i64 ((k + 10 : Nat) : Int) | 7 => v = .int .i64 q | 8 => v = Value.string (markTexts (k + 10) q) | _ => True) (by kernel_rfl) ?hSs (fun _ _ hb h => cell_later hb h) (fun _ _ _ _ _ _ _ _ _ h => h) ?hops ?hends
          case hSs => exact hcell0
          case hops =>
            delta Owed
            simp only [fillD, Act.put, List.setIfInBounds_toArray, List.set_cons_zero, List.set_cons_succ]
            refine Each.cons rfl ?_ (Each.cons rfl ?_ (Each.cons rfl ?_ (Each.cons rfl ?_ (Each.cons rfl ?_ (Each.cons rfl ?_ (Each.cons rfl ?_ (Each.cons rfl ?_ (Each.cons rfl ?_ Each.nil))))))))
            · intro vs w2 hb2 hS2 hR2 K hK
              simp only [List.set_cons_zero, List.set_cons_succ] at hK ⊢
              go_simp
              exact hK.out _ _ (Below.refl _ _) rfl
            · intro vs w2 hb2 hS2 hR2 K hK
              simp only [List.set_cons_zero, List.set_cons_succ] at hK ⊢
              go_simp
              exact hK.out _ _ (Below.refl _ _) rfl
            · intro vs w2 hb2 hS2 hR2 K hK
              have h0 : vs 0 = .slice a0 m c0 := by obtain ⟨_, _, _, h⟩ := hR2 0 (by kernel_rfl); exact h
              have h1 : vs 1 = .int .i64 k := by obtain ⟨_, _, _, h⟩ := hR2 1 (by kernel_rfl); exact h
              simp only [List.set_cons_zero, List.set_cons_succ] at hK ⊢
              simp only [h0, h1] at hK ⊢
              go_simp
              exact hK.out _ _ (Below.refl _ _) rfl
            · intro vs w2 hb2 hS2 hR2 K hK
              have h2 : vs 2 = .pointer (some ⟨g0, o0, none⟩) := by obtain ⟨_, _, _, h⟩ := hR2 2 (by kernel_rfl); exact h
              simp only [List.set_cons_zero, List.set_cons_succ] at hK ⊢
              simp only [h2] at hK ⊢
              go_simp
              exact hK.out _ _ (Below.refl _ _) rfl
            · intro vs w2 hb2 hS2 hR2 K hK
              simp only [List.set_cons_zero, List.set_cons_succ] at hK ⊢
              go_simp
              exact hK.out _ _ (Below.refl _ _) rfl
            · intro vs w2 hb2 hS2 hR2 K hK
              simp only [List.set_cons_zero, List.set_cons_succ] at hK ⊢
              go_simp
              exact hK.out _ _ (Below.refl _ _) rfl
            · intro vs w2 hb2 hS2 hR2 K hK
              have h5 : vs 5 = .int .i64 k := by obtain ⟨_, _, _, h⟩ := hR2 5 (by kernel_rfl); exact h
              simp only [List.set_cons_zero, List.set_cons_succ] at hK ⊢
              simp only [h5] at hK ⊢
              go_simp
              exact hK.out _ _ (Below.refl _ _) rfl
            · intro vs w2 hb2 hS2 hR2 K hK
              simp only [List.set_cons_zero, List.set_cons_succ] at hK ⊢
              go_simp
              exact hK.out _ _ (Below.refl _ _) rfl
            · intro vs w2 hb2 hS2 hR2 K hK
              have h6 : vs 6 = .int .i64 ((k + 10 : Nat) : Int) := by obtain ⟨_, _, _, h⟩ := hR2 6 (by kernel_rfl); exact h
              have h7 : vs 7 = .int .i64 q := by obtain ⟨_, _, _, h⟩ := hR2 7 (by kernel_rfl); exact h
              simp only [List.set_cons_zero, List.set_cons_succ] at hK ⊢
              simp only [h6, h7] at hK ⊢
              rw [if_pos (by rfl)]
              go_wp2_with (go_at_call 36; refine (marktexts_any (k + 10) q _ (by omega) (by omega)).mono ?_; rintro e w3 ⟨rfl, hb3⟩)
              exact hK.out _ _ hb3 rfl
          case hends =>
            intro vs wx lo hiv hbx hSx hRx hdx
            have h0 : vs 0 = .slice a0 m c0 := (hRx 0 (by kernel_rfl)).1
            have h1 : vs 1 = .int .i64 k := (hRx 1 (by kernel_rfl)).1
            have h2 : vs 2 = .pointer (some ⟨g0, o0, none⟩) := (hRx 2 (by kernel_rfl)).1
            have h3 : vs 3 = .slice a (N k) c := (hRx 3 (by kernel_rfl)).1
            have h4 : vs 4 = .int .i64 q := (hRx 4 (by kernel_rfl)).1
            have h5 : vs 5 = .int .i64 k := (hRx 5 (by kernel_rfl)).1
            have h6 : vs 6 = .int .i64 ((k + 10 : Nat) : Int) := (hRx 6 (by kernel_rfl)).1
            have h7 : vs 7 = .int .i64 q := (hRx 7 (by kernel_rfl)).1
            have H8 := (hRx 8 (by kernel_rfl)).1
            have h8 : vs 8 = Value.string (markTexts (k + 10) q) := H8
            simp only [fillD, Act.put, List.setIfInBounds_toArray, List.set_cons_zero, List.set_cons_succ, h0, h1, h2, h3, h4, h5, h6, h7, h8]
            have hb := below_drew_left hbx
            clear hbx hSx hRx hdx h0 h1 h2 h3 h4 h5 h6 h7 h8 H8
            have hrx := own_none HROW.out (grown_of_below hb none)
            obtain ⟨g, x, hidx, hB, hg, hcell, hx, hfr, hob, hst⟩ := own_at1 Try.underlying42 hi hz1 hrx hql
            have HO := hid hob
            have HST := hid hst
            have HX := hid hx
            have HR := hid hrx
            have HBX := hid hb
            clear hob hst hx hrx hb
            have hne : ¬ g0 = g := by
              intro e
              have := HS.out.ls k hlt g (by rw [HV.out]; exact HO.out)
              exact this (by rw [HO0.out, e])
            refine wpAny_one (i := 9) (by kernel_rfl) rfl (fun K hK => ?_)
            go_simp
            refine hK.out _ _ ?_
            clear hK
            refine wpAny_one (i := 10) (by kernel_rfl) rfl (fun K hK => ?_)
            go_simp
            refine hK.out _ _ ?_
            clear hK
            refine wpAny_done (by kernel_rfl) ?_ _
            go_wp2
            go_roundw
            case rel =>
              have hst := HST.out wx HR.out (Value.string (markTexts (k + 10) q))
              have hgr : wx.grownBy (wx.setCell ⟨g, q, none⟩ (Value.string (markTexts (k + 10) q))) (some g) := hst.2
              have hown : (wx.setCell ⟨g, q, none⟩ (Value.string (markTexts (k + 10) q))).ownsRow B 9 1 (V k) (N k) (((L' k).set q (markTexts (k + 10) q)).map Value.string) := by rw [HV.out, List.map_set]; exact hst.1
              refine ⟨q + 1, _, by omega, by go_num, (HFam'.out.later HBX.out).store HS.out hlt (by rw [HV.out]; exact HO.out) hgr hown, fun j hj => ?_, ?_⟩
              · simp only [show ¬ j = k from by omega, if_false]; exact HL'.out j hj
              · simp only [if_true]
                have hlen := HFam'.out.len hlt
                rw [marksOf_succ, ← HT.out, List.take_succ_eq_append_getElem (by rw [List.length_set, hlen]; exact hql), List.take_set_of_le (Nat.le_refl _)]
                simp
            case measure => simp [intOf]; omega
        · go_wp2
          go_roundw
          case rel =>
            obtain rfl : q = N k := by omega
            refine ⟨k + 1, L', by omega, by go_num, HFam'.out, fun j hj => ?_⟩
            by_cases hjk : j = k
            · subst hjk
              have := HT.out
              rwa [List.take_of_length_le (by have := HFam'.out.len hlt; omega)] at this
            · exact HL'.out j (by omega)
          case measure => simp [intOf]; omega
    · obtain rfl : k = m := by omega
      have hgs := Gs.start (ST := 42) (HFam.out.congr (L' := fun j => marksOf markTexts (j + 10) (N j)) HL.out)
      have hof := HFam.out.ownForm
      have HGS := hid hgs
      have HOF := hid hof
      clear hgs hof
      go_wp2
      go_loopw [5, 6] (fun out i wr => ∃ (q : Nat) (G : Nat → Value), q ≤ k ∧ i = .int .i64 q ∧ Gs (Value.string) markTexts 9 42 B k (.slice a0 k c0) V N q q out G w0 wr) (fun _ i _ => k - (intOf i).toNat)
      case atStart => exact ⟨0, V, by omega, rfl, HGS.out⟩
      case round =>
        obtain ⟨q, G, hq, rfl, hgs⟩ := hrel
        have HG := hid hgs
        clear hgs HGS
        by_cases hql : q < k
        · obtain ⟨a, c, hV⟩ := (HG.out.old q hql).form
          have hNq : (N q + 6) * 16 ≤ 140737488355328 := HN.out q hql
          have HV := hid hV
          clear hV
          obtain ⟨g0, o0, hidx0, hg0, hcell0, hob0⟩ := HG.out.list.atV Try.underlying51 hiS hS1 hql HV.out
          clear hob0
          obtain ⟨wo, hwo⟩ : ∃ wo : World, wo = wr := ⟨_, rfl⟩
          subst hwo
          go_wp2
          clear hidx0 hg0 hcell0
          go_loopw [7, 8] (fun gv i wr => ∃ r : Nat, r ≤ 6 ∧ i = .int .i64 r ∧ Gs (Value.string) markTexts 9 42 B k (.slice a0 k c0) V N q (q + 1) u5 G w0 wr ∧ Cur (Value.string) markTexts 9 B k (.slice a0 k c0) V N q (N q + r) u5 gv G wr) (fun _ i _ => 6 - (intOf i).toNat)
          case atStart =>
            have hc := Cur.begin HG.out HS.out hql
            rw [HV.out] at hc
            exact ⟨0, by omega, rfl, HG.out.less (by omega), hc⟩
          case round =>
            obtain ⟨r, hr, rfl, hgs, hcur⟩ := hrel
            have HG2 := hid hgs
            have HC := hid hcur
            clear hgs hcur
            have hown := HC.out.own
            have hsz := HG2.out.size
            by_cases hrl : r < 6
            · obtain ⟨g0, o0, hidx0, hg0, hcell0, hob0⟩ := HG2.out.list.atV Try.underlying51 hiS hS1 hql HV.out
              clear hob0
              go_wp2_with (first | (go_at_call 36; refine (marktexts_any (q + 10) (N q + r) _ (by omega) (by omega)).mono ?_; rintro e wm ⟨rfl, hbm⟩; have HG3 := hid (HG2.out.later hbm); have HC3 := hid (HC.out.later hbm); clear hown hsz; have hown := HC3.out.own; have hsz := HG3.out.size; clear hbm) | (refine wpList_push2 rfl rfl _ rfl _ _ _ rfl rfl B 9 1 16 i0 (.string ⟨#[]⟩) Try.underlying42 hi hz0 hz1 hz2 rfl (by decide) (by decide) _ (N q + r) _ hown hsz _ rfl rfl (str_one _) rfl rfl (by simp [maxLen]; omega) (by omega) ?_; intro g1 cap1 w1 hown1 hlt1 htwo))
              go_roundw
              case rel =>
                have hp := Gs.push_in HG3.out HC3.out HS.out HOF.out hql (by omega) hown1 htwo
                exact ⟨r + 1, by omega, by go_num, hp.1, hp.2⟩
              case measure => simp [intOf]; omega
            · obtain rfl : r = 6 := by omega
              have hsq := HG2.out.outR
              obtain ⟨a7, c7, h7⟩ := (IsSl.of_own HC.out.own).form
              have h7c : u7.cells.toList = [u7] := by rw [h7]; rfl
              have h7s : u7.cells.size = 1 := by rw [h7]; rfl
              have h7o : ∀ u ∈ u7.cells.toList, u.oneCell' = true := by rw [h7]; simp [Value.cells, Value.oneCell']
              have H7 := hid h7c
              clear h7c h7
              have H7S := hid h7s
              have H7O := hid h7o
              clear h7s h7o
              go_wp2_with (refine wpList_push2 rfl rfl _ rfl _ _ _ rfl rfl B 42 1 24 iS (.slice none 0 0) Try.underlying51 hiS hS0 hS1 hS2 rfl (by decide) (by decide) _ q _ hsq hsz u7 rfl H7S.out H7O.out rfl rfl (by simp [maxLen]; omega) (by omega) ?_; intro g1 cap1 w1 hown1 hlt1 htwo)
              go_roundw
              case rel =>
                have hown1' := hown1
                rw [H7.out] at hown1'
                exact ⟨q + 1, _, by omega, by go_num, Gs.push_out HG2.out HC.out HS.out hql hown1' htwo⟩
              case measure => simp [intOf]; omega
        · obtain rfl : q = k := by omega
          obtain ⟨a5, c5, h5⟩ := (IsSl.of_own HG.out.outR).form
          have hout : IsSl wr 1 (.slice a5 q c5) q ((List.range q).map G) := by rw [← h5]; exact IsSl.of_own HG.out.outR
          have HOUT := hid hout
          clear hout
          go_wp2
          rw [h5]
          clear h5
          clear HFam HF
          go_loopw [9] (fun i wr => ∃ (s : Nat), s ≤ q ∧ i = .int .i64 s ∧ IsSl wr 1 (.slice a5 q c5) q ((List.range q).map G) ∧ Gs (Value.string) markTexts 9 42 B q (.slice a0 q c0) V N q q u5 G w0 wr) (fun i _ => q - (intOf i).toNat)
          case atStart => exact ⟨0, by omega, rfl, HOUT.out, HG.out⟩
          case round =>
            obtain ⟨s, hsq, rfl, hout, hgs⟩ := hrel
            have HO3 := hid hout
            have HG3 := hid hgs
            clear hout hgs
            by_cases hsl : s < q
            · obtain ⟨a, c, hV⟩ := (HG3.out.old s hsl).form
              obtain ⟨ag, cg, hGs⟩ := (HG3.out.new s hsl).form
              have hNs : (N s + 6) * 16 ≤ 140737488355328 := HN.out s hsl
              have HV := hid hV
              have HGs := hid hGs
              clear hV hGs
              obtain ⟨wo, hwo⟩ : ∃ wo : World, wo = wr := ⟨_, rfl⟩
              subst hwo
              go_wp2
              go_loopw [10] (fun i wr => ∃ (r : Nat), r ≤ N s + 6 ∧ i = .int .i64 r ∧ IsSl wr 1 (.slice a5 q c5) q ((List.range q).map G) ∧ Gs (Value.string) markTexts 9 42 B q (.slice a0 q c0) V N q q u5 G w0 wr) (fun i _ => N s + 6 - (intOf i).toNat)
              case atStart => exact ⟨0, by omega, rfl, HO3.out, HG3.out⟩
              case round =>
                obtain ⟨r, hr, rfl, hout, hgs⟩ := hrel
                have HO4 := hid hout
                have HG4 := hid hgs
                clear hout hgs
                obtain ⟨g1, o1, hidx1, hg1, hcell1, hob1⟩ := HO4.out.atV Try.underlying51 hiS hS1 hsl HGs.out
                clear hob1
                by_cases hrl : r < N s + 6
                · have hgn := HG4.out.new s hsl
                  rw [HGs.out] at hgn
                  obtain ⟨g2, o2, x2, hidx2, hg2, hcell2, hx2⟩ := IsSl.at1 Try.underlying42 hi hz1 hgn hrl
                  obtain ⟨b2, hb2, rfl⟩ := map_getElem? hx2
                  rw [marksOf_get _ (by omega)] at hb2
                  obtain rfl := Option.some.inj hb2
                  clear hx2 hb2 hgn
                  obtain ⟨g3, o3, hidx3, hg3, hcell3, hob3⟩ := HG4.out.list.atV Try.underlying51 hiS hS1 hsl HV.out
                  clear hob3
                  have hk10 : IntKind.i64.wrap ((s : Int) + 10) = ((s + 10 : Nat) : Int) := by rw [IntWalk.i64_in _ ⟨by omega, by omega⟩]; omega
                  by_cases hrs : r < N s
                  · have hvo := HG4.out.old s hsl
                    rw [HV.out] at hvo
                    obtain ⟨g4, o4, x4, hidx4, hg4, hcell4, hx4⟩ := IsSl.at1 Try.underlying42 hi hz1 hvo hrs
                    obtain ⟨b4, hb4, rfl⟩ := map_getElem? hx4
                    rw [marksOf_get _ (by omega)] at hb4
                    obtain rfl := Option.some.inj hb4
                    clear hx4 hb4 hvo
                    have hd : decide ((r : Int) < (N s : Int)) = true := by simpa using hrs
                    have hd2 : decide (r < N s) = true := by simpa using hrs
                    go_wp2_with fail
                    have hd3 : decide ((r : Int) < (N s : Int) + 6) = true := by simp; omega
                    simp only [hd3]
                    clear hd3
                    refine wp_region_any (by kernel_rfl) ?_
                    change wpAny _ _ _ _ _ _ _ (World.drew _)
                    refine wpAny_makersD [⟨some 82, 0, []⟩, ⟨some 83, 1, []⟩, ⟨some 84, 2, []⟩, ⟨some 85, 3, []⟩, ⟨some 86, 4, []⟩, ⟨some 87, 5, []⟩, ⟨some 88, 6, []⟩, ⟨some 89, 7, []⟩, ⟨some 90, 8, []⟩, ⟨some 91, 9, []⟩, ⟨some 92, 10, []⟩, ⟨some 93, 11, []⟩, ⟨some 94, 12, []⟩, ⟨some 95, 13, []⟩, ⟨some 96, 14, []⟩, ⟨some 97, 15, []⟩, ⟨some 98, 16, []⟩, ⟨some 99, 17, []⟩, ⟨some 100, 18, []⟩, ⟨some 101, 19, []⟩, ⟨some 102, 20, []⟩, ⟨some 103, 21, []⟩, ⟨some 104, 22, []⟩, ⟨some 105, 23, []⟩, ⟨some 106, 24, []⟩, ⟨some 107, 25, []⟩, ⟨some 108, 26, []⟩, ⟨some 109, 27, []⟩, ⟨some 110, 28, []⟩, ⟨some 111, 29, []⟩, ⟨some 112, 30, []⟩, ⟨some 113, 31, []⟩, ⟨some 114, 32, []⟩, ⟨some 115, 33, []⟩, ⟨some 116, 34, []⟩, ⟨some 117, 35, []⟩, ⟨some 118, 36, []⟩, ⟨some 119, 37, []⟩]
                      (fun w' => w'.cell? ⟨g1, o1, none⟩ = some (.slice ag (N s + 6) cg) ∧ w'.cell? ⟨g2, o2, none⟩ = some (.string (markTexts (s + 10) r)) ∧ w'.cell? ⟨g3, o3, none⟩ = some (.slice a (N s) c) ∧ w'.cell? ⟨g4, o4, none⟩ = some (.string (markTexts (s + 10) r)))
                      (fun oq v _ _ _ _ => match oq with | 0 => v = .slice a5 q c5 | 1 => v = .int .i64 s | 2 => v = .pointer (some ⟨g1, o1, none⟩) | 3 => v = .slice ag (N s + 6) cg | 4 => v = .int .i64 r | 5 => v = .pointer (some ⟨g2, o2, none⟩) | 6 => v = .string (markTexts (s + 10) r) | 7 => v = .int .i64 s | 8 => v = .int .i64 ((s + 10 : Nat) : Int) | 9 => v = .int .i64 r | 10 => v = Value.string (markTexts (s + 10) r) | 11 => v = .bool false | 12 => v = .bool false | 13 => v = .int .i64 r | 14 => v = .slice a0 q c0 | 15 => v = .int .i64 s | 16 => v = .pointer (some ⟨g3, o3, none⟩) | 17 => v = .slice a (N s) c | 18 => v = .int .i64 (N s) | 19 => v = .bool true | 20 => v = .bool true | 21 => v = .slice a0 q c0 | 22 => v = .int .i64 s | 23 => v = .pointer (some ⟨g3, o3, none⟩) | 24 => v = .slice a (N s) c | 25 => v = .int .i64 r | 26 => v = .pointer (some ⟨g4, o4, none⟩) | 27 => v = .string (markTexts (s + 10) r) | 28 => v = .slice a5 q c5 | 29 => v = .int .i64 s | 30 => v = .pointer (some ⟨g1, o1, none⟩) | 31 => v = .slice ag (N s + 6) cg | 32 => v = .int .i64 r | 33 => v = .pointer (some ⟨g2, o2, none⟩) | 34 => v = .string (markTexts (s + 10) r) | 35 => v = .bool false | 36 => v = .bool false | 37 => v = .bool false | _ => True) (by kernel_rfl) ?hSy (fun _ _ hb h => ⟨cell_later hb h.1, cell_later hb h.2.1, cell_later hb h.2.2.1, cell_later hb h.2.2.2⟩) (fun _ _ _ _ _ _ _ _ _ h => h) ?hopy ?hendy
                    case hSy => exact ⟨hcell1, hcell2, hcell3, hcell4⟩
                    case hopy =>
                      delta Owed
                      simp only [fillD, Act.put, List.setIfInBounds_toArray, List.set_cons_zero, List.set_cons_succ]
                      refine Each.cons rfl ?_ (Each.cons rfl ?_ (Each.cons rfl ?_ (Each.cons rfl ?_ (Each.cons rfl ?_ (Each.cons rfl ?_ (Each.cons rfl ?_ (Each.cons rfl ?_ (Each.cons rfl ?_ (Each.cons rfl ?_ (Each.cons rfl ?_ (Each.cons rfl ?_ (Each.cons rfl ?_ (Each.cons rfl ?_ (Each.cons rfl ?_ (Each.cons rfl ?_ (Each.cons rfl ?_ (Each.cons rfl ?_ (Each.cons rfl ?_ (Each.cons rfl ?_ (Each.cons rfl ?_ (Each.cons rfl ?_ (Each.cons rfl ?_ (Each.cons rfl ?_ (Each.cons rfl ?_ (Each.cons rfl ?_ (Each.cons rfl ?_ (Each.cons rfl ?_ (Each.cons rfl ?_ (Each.cons rfl ?_ (Each.cons rfl ?_ (Each.cons rfl ?_ (Each.cons rfl ?_ (Each.cons rfl ?_ (Each.cons rfl ?_ (Each.cons rfl ?_ (Each.cons rfl ?_ (Each.cons rfl ?_ Each.nil)))))))))))))))))))))))))))))))))))))
                      · intro vs w2 hb2 hS2 hR2 K hK
                        simp only [List.set_cons_zero, List.set_cons_succ] at hK ⊢
                        go_simp
                        exact hK.out _ _ (Below.refl _ _) rfl
                      · intro vs w2 hb2 hS2 hR2 K hK
                        simp only [List.set_cons_zero, List.set_cons_succ] at hK ⊢
                        go_simp
                        exact hK.out _ _ (Below.refl _ _) rfl
                      · intro vs w2 hb2 hS2 hR2 K hK
                        have h0 : vs 0 = .slice a5 q c5 := by obtain ⟨_, _, _, h⟩ := hR2 0 (by kernel_rfl); exact h
                        have h1 : vs 1 = .int .i64 s := by obtain ⟨_, _, _, h⟩ := hR2 1 (by kernel_rfl); exact h
                        simp only [List.set_cons_zero, List.set_cons_succ] at hK ⊢
                        have k1 := hS2.1
                        have k2 := hS2.2.1
                        have k3 := hS2.2.2.1
                        have k4 := hS2.2.2.2
                        simp only [h0, h1] at hK ⊢
                        go_simp
                        exact hK.out _ _ (Below.refl _ _) rfl
                      · intro vs w2 hb2 hS2 hR2 K hK
                        have h2 : vs 2 = .pointer (some ⟨g1, o1, none⟩) := by obtain ⟨_, _, _, h⟩ := hR2 2 (by kernel_rfl); exact h
                        simp only [List.set_cons_zero, List.set_cons_succ] at hK ⊢
                        have k1 := hS2.1
                        have k2 := hS2.2.1
                        have k3 := hS2.2.2.1
                        have k4 := hS2.2.2.2
                        simp only [h2] at hK ⊢
                        go_simp
                        exact hK.out _ _ (Below.refl _ _) rfl
                      · intro vs w2 hb2 hS2 hR2 K hK
                        simp only [List.set_cons_zero, List.set_cons_succ] at hK ⊢
                        go_simp
                        exact hK.out _ _ (Below.refl _ _) rfl
                      · intro vs w2 hb2 hS2 hR2 K hK
                        have h3 : vs 3 = .slice ag (N s + 6) cg := by obtain ⟨_, _, _, h⟩ := hR2 3 (by kernel_rfl); exact h
                        have h4 : vs 4 = .int .i64 r := by obtain ⟨_, _, _, h⟩ := hR2 4 (by kernel_rfl); exact h
                        simp only [List.set_cons_zero, List.set_cons_succ] at hK ⊢
                        have k1 := hS2.1
                        have k2 := hS2.2.1
                        have k3 := hS2.2.2.1
                        have k4 := hS2.2.2.2
                        simp only [h3, h4] at hK ⊢
                        go_simp
                        exact hK.out _ _ (Below.refl _ _) rfl
                      · intro vs w2 hb2 hS2 hR2 K hK
                        have h5 : vs 5 = .pointer (some ⟨g2, o2, none⟩) := by obtain ⟨_, _, _, h⟩ := hR2 5 (by kernel_rfl); exact h
                        simp only [List.set_cons_zero, List.set_cons_succ] at hK ⊢
                        have k1 := hS2.1
                        have k2 := hS2.2.1
                        have k3 := hS2.2.2.1
                        have k4 := hS2.2.2.2
                        simp only [h5] at hK ⊢
                        go_simp
                        exact hK.out _ _ (Below.refl _ _) rfl
                      · intro vs w2 hb2 hS2 hR2 K hK
                        simp only [List.set_cons_zero, List.set_cons_succ] at hK ⊢
                        go_simp
                        exact hK.out _ _ (Below.refl _ _) rfl
                      · intro vs w2 hb2 hS2 hR2 K hK
                        have h7 : vs 7 = .int .i64 s := by obtain ⟨_, _, _, h⟩ := hR2 7 (by kernel_rfl); exact h
                        simp only [List.set_cons_zero, List.set_cons_succ] at hK ⊢
                        simp only [h7] at hK ⊢
                        go_simp
                        exact hK.out _ _ (Below.refl _ _) rfl
                      · intro vs w2 hb2 hS2 hR2 K hK
                        simp only [List.set_cons_zero, List.set_cons_succ] at hK ⊢
                        go_simp
                        exact hK.out _ _ (Below.refl _ _) rfl
                      · intro vs w2 hb2 hS2 hR2 K hK
                        have h8 : vs 8 = .int .i64 ((s + 10 : Nat) : Int) := by obtain ⟨_, _, _, h⟩ := hR2 8 (by kernel_rfl); exact h
                        have h9 : vs 9 = .int .i64 r := by obtain ⟨_, _, _, h⟩ := hR2 9 (by kernel_rfl); exact h
                        simp only [List.set_cons_zero, List.set_cons_succ] at hK ⊢
                        simp only [h8, h9] at hK ⊢
                        rw [if_pos (by rfl)]
                        go_wp2_with (go_at_call 36; refine (marktexts_any (s + 10) r _ (by omega) (by omega)).mono ?_; rintro e w3 ⟨rfl, hb3⟩)
                        exact hK.out _ _ hb3 rfl
                      · intro vs w2 hb2 hS2 hR2 K hK
                        have h6 : vs 6 = .string (markTexts (s + 10) r) := by obtain ⟨_, _, _, h⟩ := hR2 6 (by kernel_rfl); exact h
                        obtain ⟨_, _, _, H10⟩ := hR2 10 (by kernel_rfl)
                        have h10 : vs 10 = Value.string (markTexts (s + 10) r) := H10
                        simp only [List.set_cons_zero, List.set_cons_succ] at hK ⊢
                        simp only [h6, h10] at hK ⊢
                        go_simp
                        exact hK.out _ _ (Below.refl _ _) rfl
                      · intro vs w2 hb2 hS2 hR2 K hK
                        have h11 : vs 11 = .bool false := by obtain ⟨_, _, _, h⟩ := hR2 11 (by kernel_rfl); exact h
                        simp only [List.set_cons_zero, List.set_cons_succ] at hK ⊢
                        simp only [h11] at hK ⊢
                        go_simp
                        exact hK.out _ _ (Below.refl _ _) rfl
                      · intro vs w2 hb2 hS2 hR2 K hK
                        have h12 : vs 12 = .bool false := by obtain ⟨_, _, _, h⟩ := hR2 12 (by kernel_rfl); exact h
                        simp only [List.set_cons_zero, List.set_cons_succ] at hK ⊢
                        simp only [h12] at hK ⊢
                        rw [if_pos (by rfl)]
                        go_simp
                        exact hK.out _ _ (Below.refl _ _) rfl
                      · intro vs w2 hb2 hS2 hR2 K hK
                        have h12 : vs 12 = .bool false := by obtain ⟨_, _, _, h⟩ := hR2 12 (by kernel_rfl); exact h
                        simp only [List.set_cons_zero, List.set_cons_succ] at hK ⊢
                        simp only [h12] at hK ⊢
                        rw [if_pos (by rfl)]
                        go_simp
                        exact hK.out _ _ (Below.refl _ _) rfl
                      · intro vs w2 hb2 hS2 hR2 K hK
                        have h12 : vs 12 = .bool false := by obtain ⟨_, _, _, h⟩ := hR2 12 (by kernel_rfl); exact h
                        simp only [List.set_cons_zero, List.set_cons_succ] at hK ⊢
                        simp only [h12] at hK ⊢
                        rw [if_pos (by rfl)]
                        go_simp
                        exact hK.out _ _ (Below.refl _ _) rfl
                      · intro vs w2 hb2 hS2 hR2 K hK
                        have h12 : vs 12 = .bool false := by obtain ⟨_, _, _, h⟩ := hR2 12 (by kernel_rfl); exact h
                        have h14 : vs 14 = .slice a0 q c0 := by obtain ⟨_, _, _, h⟩ := hR2 14 (by kernel_rfl); exact h
                        have h15 : vs 15 = .int .i64 s := by obtain ⟨_, _, _, h⟩ := hR2 15 (by kernel_rfl); exact h
                        simp only [List.set_cons_zero, List.set_cons_succ] at hK ⊢
                        have k1 := hS2.1
                        have k2 := hS2.2.1
                        have k3 := hS2.2.2.1
                        have k4 := hS2.2.2.2
                        simp only [h12, h14, h15] at hK ⊢
                        rw [if_pos (by rfl)]
                        go_simp
                        exact hK.out _ _ (Below.refl _ _) rfl
                      · intro vs w2 hb2 hS2 hR2 K hK
                        have h12 : vs 12 = .bool false := by obtain ⟨_, _, _, h⟩ := hR2 12 (by kernel_rfl); exact h
                        have h16 : vs 16 = .pointer (some ⟨g3, o3, none⟩) := by obtain ⟨_, _, _, h⟩ := hR2 16 (by kernel_rfl); exact h
                        simp only [List.set_cons_zero, List.set_cons_succ] at hK ⊢
                        have k1 := hS2.1
                        have k2 := hS2.2.1
                        have k3 := hS2.2.2.1
                        have k4 := hS2.2.2.2
                        simp only [h12, h16] at hK ⊢
                        rw [if_pos (by rfl)]
                        go_simp
                        exact hK.out _ _ (Below.refl _ _) rfl
                      · intro vs w2 hb2 hS2 hR2 K hK
                        have h12 : vs 12 = .bool false := by obtain ⟨_, _, _, h⟩ := hR2 12 (by kernel_rfl); exact h
                        have h17 : vs 17 = .slice a (N s) c := by obtain ⟨_, _, _, h⟩ := hR2 17 (by kernel_rfl); exact h
                        simp only [List.set_cons_zero, List.set_cons_succ] at hK ⊢
                        simp only [h12, h17] at hK ⊢
                        rw [if_pos (by rfl)]
                        go_simp
                        exact hK.out _ _ (Below.refl _ _) rfl
                      · intro vs w2 hb2 hS2 hR2 K hK
                        have h12 : vs 12 = .bool false := by obtain ⟨_, _, _, h⟩ := hR2 12 (by kernel_rfl); exact h
                        have h13 : vs 13 = .int .i64 r := by obtain ⟨_, _, _, h⟩ := hR2 13 (by kernel_rfl); exact h
                        have h18 : vs 18 = .int .i64 (N s) := by obtain ⟨_, _, _, h⟩ := hR2 18 (by kernel_rfl); exact h
                        simp only [List.set_cons_zero, List.set_cons_succ] at hK ⊢
                        simp only [h12, h13, h18] at hK ⊢
                        rw [if_pos (by rfl)]
                        go_simp
                        exact hK.out _ _ (Below.refl _ _) rfl
                      · intro vs w2 hb2 hS2 hR2 K hK
                        have h12 : vs 12 = .bool false := by obtain ⟨_, _, _, h⟩ := hR2 12 (by kernel_rfl); exact h
                        have h19 : vs 19 = .bool true := by obtain ⟨_, _, _, h⟩ := hR2 19 (by kernel_rfl); exact h
                        simp only [List.set_cons_zero, List.set_cons_succ] at hK ⊢
                        simp only [h12, h19] at hK ⊢
                        rw [if_pos (by rfl)]
                        go_simp
                        exact hK.out _ _ (Below.refl _ _) rfl
                      · intro vs w2 hb2 hS2 hR2 K hK
                        have h20 : vs 20 = .bool true := by obtain ⟨_, _, _, h⟩ := hR2 20 (by kernel_rfl); exact h
                        simp only [List.set_cons_zero, List.set_cons_succ] at hK ⊢
                        simp only [h20] at hK ⊢
                        rw [if_pos (by rfl)]
                        go_simp
                        exact hK.out _ _ (Below.refl _ _) rfl
                      · intro vs w2 hb2 hS2 hR2 K hK
                        have h20 : vs 20 = .bool true := by obtain ⟨_, _, _, h⟩ := hR2 20 (by kernel_rfl); exact h
                        simp only [List.set_cons_zero, List.set_cons_succ] at hK ⊢
                        simp only [h20] at hK ⊢
                        rw [if_pos (by rfl)]
                        go_simp
                        exact hK.out _ _ (Below.refl _ _) rfl
                      · intro vs w2 hb2 hS2 hR2 K hK
                        have h20 : vs 20 = .bool true := by obtain ⟨_, _, _, h⟩ := hR2 20 (by kernel_rfl); exact h
                        have h21 : vs 21 = .slice a0 q c0 := by obtain ⟨_, _, _, h⟩ := hR2 21 (by kernel_rfl); exact h
                        have h22 : vs 22 = .int .i64 s := by obtain ⟨_, _, _, h⟩ := hR2 22 (by kernel_rfl); exact h
                        simp only [List.set_cons_zero, List.set_cons_succ] at hK ⊢
                        have k1 := hS2.1
                        have k2 := hS2.2.1
                        have k3 := hS2.2.2.1
                        have k4 := hS2.2.2.2
                        simp only [h20, h21, h22] at hK ⊢
                        rw [if_pos (by rfl)]
                        go_simp
                        exact hK.out _ _ (Below.refl _ _) rfl
                      · intro vs w2 hb2 hS2 hR2 K hK
                        have h20 : vs 20 = .bool true := by obtain ⟨_, _, _, h⟩ := hR2 20 (by kernel_rfl); exact h
                        have h23 : vs 23 = .pointer (some ⟨g3, o3, none⟩) := by obtain ⟨_, _, _, h⟩ := hR2 23 (by kernel_rfl); exact h
                        simp only [List.set_cons_zero, List.set_cons_succ] at hK ⊢
                        have k1 := hS2.1
                        have k2 := hS2.2.1
                        have k3 := hS2.2.2.1
                        have k4 := hS2.2.2.2
                        simp only [h20, h23] at hK ⊢
                        rw [if_pos (by rfl)]
                        go_simp
                        exact hK.out _ _ (Below.refl _ _) rfl
                      · intro vs w2 hb2 hS2 hR2 K hK
                        have h20 : vs 20 = .bool true := by obtain ⟨_, _, _, h⟩ := hR2 20 (by kernel_rfl); exact h
                        simp only [List.set_cons_zero, List.set_cons_succ] at hK ⊢
                        simp only [h20] at hK ⊢
                        rw [if_pos (by rfl)]
                        go_simp
                        exact hK.out _ _ (Below.refl _ _) rfl
                      · intro vs w2 hb2 hS2 hR2 K hK
                        have h20 : vs 20 = .bool true := by obtain ⟨_, _, _, h⟩ := hR2 20 (by kernel_rfl); exact h
                        have h24 : vs 24 = .slice a (N s) c := by obtain ⟨_, _, _, h⟩ := hR2 24 (by kernel_rfl); exact h
                        have h25 : vs 25 = .int .i64 r := by obtain ⟨_, _, _, h⟩ := hR2 25 (by kernel_rfl); exact h
                        simp only [List.set_cons_zero, List.set_cons_succ] at hK ⊢
                        have k1 := hS2.1
                        have k2 := hS2.2.1
                        have k3 := hS2.2.2.1
                        have k4 := hS2.2.2.2
                        simp only [h20, h24, h25] at hK ⊢
                        rw [if_pos (by rfl)]
                        go_simp
                        exact hK.out _ _ (Below.refl _ _) rfl
                      · intro vs w2 hb2 hS2 hR2 K hK
                        have h20 : vs 20 = .bool true := by obtain ⟨_, _, _, h⟩ := hR2 20 (by kernel_rfl); exact h
                        have h26 : vs 26 = .pointer (some ⟨g4, o4, none⟩) := by obtain ⟨_, _, _, h⟩ := hR2 26 (by kernel_rfl); exact h
                        simp only [List.set_cons_zero, List.set_cons_succ] at hK ⊢
                        have k1 := hS2.1
                        have k2 := hS2.2.1
                        have k3 := hS2.2.2.1
                        have k4 := hS2.2.2.2
                        simp only [h20, h26] at hK ⊢
                        rw [if_pos (by rfl)]
                        go_simp
                        exact hK.out _ _ (Below.refl _ _) rfl
                      · intro vs w2 hb2 hS2 hR2 K hK
                        have h20 : vs 20 = .bool true := by obtain ⟨_, _, _, h⟩ := hR2 20 (by kernel_rfl); exact h
                        simp only [List.set_cons_zero, List.set_cons_succ] at hK ⊢
                        simp only [h20] at hK ⊢
                        rw [if_pos (by rfl)]
                        go_simp
                        exact hK.out _ _ (Below.refl _ _) rfl
                      · intro vs w2 hb2 hS2 hR2 K hK
                        have h20 : vs 20 = .bool true := by obtain ⟨_, _, _, h⟩ := hR2 20 (by kernel_rfl); exact h
                        simp only [List.set_cons_zero, List.set_cons_succ] at hK ⊢
                        simp only [h20] at hK ⊢
                        rw [if_pos (by rfl)]
                        go_simp
                        exact hK.out _ _ (Below.refl _ _) rfl
                      · intro vs w2 hb2 hS2 hR2 K hK
                        have h20 : vs 20 = .bool true := by obtain ⟨_, _, _, h⟩ := hR2 20 (by kernel_rfl); exact h
                        have h28 : vs 28 = .slice a5 q c5 := by obtain ⟨_, _, _, h⟩ := hR2 28 (by kernel_rfl); exact h
                        have h29 : vs 29 = .int .i64 s := by obtain ⟨_, _, _, h⟩ := hR2 29 (by kernel_rfl); exact h
                        simp only [List.set_cons_zero, List.set_cons_succ] at hK ⊢
                        have k1 := hS2.1
                        have k2 := hS2.2.1
                        have k3 := hS2.2.2.1
                        have k4 := hS2.2.2.2
                        simp only [h20, h28, h29] at hK ⊢
                        rw [if_pos (by rfl)]
                        go_simp
                        exact hK.out _ _ (Below.refl _ _) rfl
                      · intro vs w2 hb2 hS2 hR2 K hK
                        have h20 : vs 20 = .bool true := by obtain ⟨_, _, _, h⟩ := hR2 20 (by kernel_rfl); exact h
                        have h30 : vs 30 = .pointer (some ⟨g1, o1, none⟩) := by obtain ⟨_, _, _, h⟩ := hR2 30 (by kernel_rfl); exact h
                        simp only [List.set_cons_zero, List.set_cons_succ] at hK ⊢
                        have k1 := hS2.1
                        have k2 := hS2.2.1
                        have k3 := hS2.2.2.1
                        have k4 := hS2.2.2.2
                        simp only [h20, h30] at hK ⊢
                        rw [if_pos (by rfl)]
                        go_simp
                        exact hK.out _ _ (Below.refl _ _) rfl
                      · intro vs w2 hb2 hS2 hR2 K hK
                        have h20 : vs 20 = .bool true := by obtain ⟨_, _, _, h⟩ := hR2 20 (by kernel_rfl); exact h
                        simp only [List.set_cons_zero, List.set_cons_succ] at hK ⊢
                        simp only [h20] at hK ⊢
                        rw [if_pos (by rfl)]
                        go_simp
                        exact hK.out _ _ (Below.refl _ _) rfl
                      · intro vs w2 hb2 hS2 hR2 K hK
                        have h20 : vs 20 = .bool true := by obtain ⟨_, _, _, h⟩ := hR2 20 (by kernel_rfl); exact h
                        have h31 : vs 31 = .slice ag (N s + 6) cg := by obtain ⟨_, _, _, h⟩ := hR2 31 (by kernel_rfl); exact h
                        have h32 : vs 32 = .int .i64 r := by obtain ⟨_, _, _, h⟩ := hR2 32 (by kernel_rfl); exact h
                        simp only [List.set_cons_zero, List.set_cons_succ] at hK ⊢
                        have k1 := hS2.1
                        have k2 := hS2.2.1
                        have k3 := hS2.2.2.1
                        have k4 := hS2.2.2.2
                        simp only [h20, h31, h32] at hK ⊢
                        rw [if_pos (by rfl)]
                        go_simp
                        exact hK.out _ _ (Below.refl _ _) rfl
                      · intro vs w2 hb2 hS2 hR2 K hK
                        have h20 : vs 20 = .bool true := by obtain ⟨_, _, _, h⟩ := hR2 20 (by kernel_rfl); exact h
                        have h33 : vs 33 = .pointer (some ⟨g2, o2, none⟩) := by obtain ⟨_, _, _, h⟩ := hR2 33 (by kernel_rfl); exact h
                        simp only [List.set_cons_zero, List.set_cons_succ] at hK ⊢
                        have k1 := hS2.1
                        have k2 := hS2.2.1
                        have k3 := hS2.2.2.1
                        have k4 := hS2.2.2.2
                        simp only [h20, h33] at hK ⊢
                        rw [if_pos (by rfl)]
                        go_simp
                        exact hK.out _ _ (Below.refl _ _) rfl
                      · intro vs w2 hb2 hS2 hR2 K hK
                        have h20 : vs 20 = .bool true := by obtain ⟨_, _, _, h⟩ := hR2 20 (by kernel_rfl); exact h
                        have h27 : vs 27 = .string (markTexts (s + 10) r) := by obtain ⟨_, _, _, h⟩ := hR2 27 (by kernel_rfl); exact h
                        have h34 : vs 34 = .string (markTexts (s + 10) r) := by obtain ⟨_, _, _, h⟩ := hR2 34 (by kernel_rfl); exact h
                        simp only [List.set_cons_zero, List.set_cons_succ] at hK ⊢
                        simp only [h20, h27, h34] at hK ⊢
                        rw [if_pos (by rfl)]
                        go_simp
                        exact hK.out _ _ (Below.refl _ _) rfl
                      · intro vs w2 hb2 hS2 hR2 K hK
                        have h12 : vs 12 = .bool false := by obtain ⟨_, _, _, h⟩ := hR2 12 (by kernel_rfl); exact h
                        have h20 : vs 20 = .bool true := by obtain ⟨_, _, _, h⟩ := hR2 20 (by kernel_rfl); exact h
                        have h35 : vs 35 = .bool false := by obtain ⟨_, _, _, h⟩ := hR2 35 (by kernel_rfl); exact h
                        simp only [List.set_cons_zero, List.set_cons_succ] at hK ⊢
                        simp only [h12, h20, h35] at hK ⊢
                        rw [if_pos (by rfl)]
                        go_simp
                        exact hK.out _ _ (Below.refl _ _) rfl
                      · intro vs w2 hb2 hS2 hR2 K hK
                        have h12 : vs 12 = .bool false := by obtain ⟨_, _, _, h⟩ := hR2 12 (by kernel_rfl); exact h
                        have h36 : vs 36 = .bool false := by obtain ⟨_, _, _, h⟩ := hR2 36 (by kernel_rfl); exact h
                        simp only [List.set_cons_zero, List.set_cons_succ] at hK ⊢
                        simp only [h12, h36] at hK ⊢
                        go_simp
                        exact hK.out _ _ (Below.refl _ _) rfl
                    case hendy =>
                      intro vs wx lo hiv hbx hSx hRx hdx
                      have h0 : vs 0 = .slice a5 q c5 := (hRx 0 (by kernel_rfl)).1
                      have h1 : vs 1 = .int .i64 s := (hRx 1 (by kernel_rfl)).1
                      have h2 : vs 2 = .pointer (some ⟨g1, o1, none⟩) := (hRx 2 (by kernel_rfl)).1
                      have h3 : vs 3 = .slice ag (N s + 6) cg := (hRx 3 (by kernel_rfl)).1
                      have h4 : vs 4 = .int .i64 r := (hRx 4 (by kernel_rfl)).1
                      have h5 : vs 5 = .pointer (some ⟨g2, o2, none⟩) := (hRx 5 (by kernel_rfl)).1
                      have h6 : vs 6 = .string (markTexts (s + 10) r) := (hRx 6 (by kernel_rfl)).1
                      have h7 : vs 7 = .int .i64 s := (hRx 7 (by kernel_rfl)).1
                      have h8 : vs 8 = .int .i64 ((s + 10 : Nat) : Int) := (hRx 8 (by kernel_rfl)).1
                      have h9 : vs 9 = .int .i64 r := (hRx 9 (by kernel_rfl)).1
                      have H10 := (hRx 10 (by kernel_rfl)).1
                      have h10 : vs 10 = Value.string (markTexts (s + 10) r) := H10
                      have h11 : vs 11 = .bool false := (hRx 11 (by kernel_rfl)).1
                      have h12 : vs 12 = .bool false := (hRx 12 (by kernel_rfl)).1
                      have h13 : vs 13 = .int .i64 r := (hRx 13 (by kernel_rfl)).1
                      have h14 : vs 14 = .slice a0 q c0 := (hRx 14 (by kernel_rfl)).1
                      have h15 : vs 15 = .int .i64 s := (hRx 15 (by kernel_rfl)).1
                      have h16 : vs 16 = .pointer (some ⟨g3, o3, none⟩) := (hRx 16 (by kernel_rfl)).1
                      have h17 : vs 17 = .slice a (N s) c := (hRx 17 (by kernel_rfl)).1
                      have h18 : vs 18 = .int .i64 (N s) := (hRx 18 (by kernel_rfl)).1
                      have h19 : vs 19 = .bool true := (hRx 19 (by kernel_rfl)).1
                      have h20 : vs 20 = .bool true := (hRx 20 (by kernel_rfl)).1
                      have h21 : vs 21 = .slice a0 q c0 := (hRx 21 (by kernel_rfl)).1
                      have h22 : vs 22 = .int .i64 s := (hRx 22 (by kernel_rfl)).1
                      have h23 : vs 23 = .pointer (some ⟨g3, o3, none⟩) := (hRx 23 (by kernel_rfl)).1
                      have h24 : vs 24 = .slice a (N s) c := (hRx 24 (by kernel_rfl)).1
                      have h25 : vs 25 = .int .i64 r := (hRx 25 (by kernel_rfl)).1
                      have h26 : vs 26 = .pointer (some ⟨g4, o4, none⟩) := (hRx 26 (by kernel_rfl)).1
                      have h27 : vs 27 = .string (markTexts (s + 10) r) := (hRx 27 (by kernel_rfl)).1
                      have h28 : vs 28 = .slice a5 q c5 := (hRx 28 (by kernel_rfl)).1
                      have h29 : vs 29 = .int .i64 s := (hRx 29 (by kernel_rfl)).1
                      have h30 : vs 30 = .pointer (some ⟨g1, o1, none⟩) := (hRx 30 (by kernel_rfl)).1
                      have h31 : vs 31 = .slice ag (N s + 6) cg := (hRx 31 (by kernel_rfl)).1
                      have h32 : vs 32 = .int .i64 r := (hRx 32 (by kernel_rfl)).1
                      have h33 : vs 33 = .pointer (some ⟨g2, o2, none⟩) := (hRx 33 (by kernel_rfl)).1
                      have h34 : vs 34 = .string (markTexts (s + 10) r) := (hRx 34 (by kernel_rfl)).1
                      have h35 : vs 35 = .bool false := (hRx 35 (by kernel_rfl)).1
                      have h36 : vs 36 = .bool false := (hRx 36 (by kernel_rfl)).1
                      have h37 : vs 37 = .bool false := (hRx 37 (by kernel_rfl)).1
                      simp only [fillD, Act.put, List.setIfInBounds_toArray, List.set_cons_zero, List.set_cons_succ, h0, h1, h2, h3, h4, h5, h6, h7, h8, h9, h10, h11, h12, h13, h14, h15, h16, h17, h18, h19, h20, h21, h22, h23, h24, h25, h26, h27, h28, h29, h30, h31, h32, h33, h34, h35, h36, h37]
                      have HBX := hid (below_drew_left hbx)
                      clear hbx hSx hRx hdx H10 h0 h1 h2 h3 h4 h5 h6 h7 h8 h9 h10 h11 h12 h13 h14 h15 h16 h17 h18 h19 h20 h21 h22 h23 h24 h25 h26 h27 h28 h29 h30 h31 h32 h33 h34 h35 h36 h37
                      refine wpAny_done (by kernel_rfl) ?_ _
                      go_wp2
                      go_roundw
                      case rel => exact ⟨r + 1, by omega, by go_num, HO4.out.below HBX.out (Nat.le_refl _), HG4.out.later HBX.out⟩
                      case measure => simp [intOf]; omega
                  · have hd : decide ((r : Int) < (N s : Int)) = false := by simp; omega
                    have hd2 : decide (r < N s) = false := by simpa using hrs
                    go_wp2_with fail
                    have hd3 : decide ((r : Int) < (N s : Int) + 6) = true := by simp; omega
                    simp only [hd3]
                    clear hd3
                    refine wp_region_any (by kernel_rfl) ?_
                    change wpAny _ _ _ _ _ _ _ (World.drew _)
                    refine wpAny_makersD [⟨some 82, 0, []⟩, ⟨some 83, 1, []⟩, ⟨some 84, 2, []⟩, ⟨some 85, 3, []⟩, ⟨some 86, 4, []⟩, ⟨some 87, 5, []⟩, ⟨some 88, 6, []⟩, ⟨some 89, 7, []⟩, ⟨some 90, 8, []⟩, ⟨some 91, 9, []⟩, ⟨some 92, 10, []⟩, ⟨some 93, 11, []⟩, ⟨some 94, 12, []⟩, ⟨some 95, 13, []⟩, ⟨some 96, 14, []⟩, ⟨some 97, 15, []⟩, ⟨some 98, 16, []⟩, ⟨some 99, 17, []⟩, ⟨some 100, 18, []⟩, ⟨some 101, 19, []⟩, ⟨some 102, 20, []⟩, ⟨some 103, 21, []⟩, ⟨some 104, 22, []⟩, ⟨some 105, 23, []⟩, ⟨some 106, 24, []⟩, ⟨some 107, 25, []⟩, ⟨some 108, 26, []⟩, ⟨some 109, 27, []⟩, ⟨some 110, 28, []⟩, ⟨some 111, 29, []⟩, ⟨some 112, 30, []⟩, ⟨some 113, 31, []⟩, ⟨some 114, 32, []⟩, ⟨some 115, 33, []⟩, ⟨some 116, 34, []⟩, ⟨some 117, 35, []⟩, ⟨some 118, 36, []⟩, ⟨some 119, 37, []⟩]
                      (fun w' => w'.cell? ⟨g1, o1, none⟩ = some (.slice ag (N s + 6) cg) ∧ w'.cell? ⟨g2, o2, none⟩ = some (.string (markTexts (s + 10) r)) ∧ w'.cell? ⟨g3, o3, none⟩ = some (.slice a (N s) c))
                      (fun oq v _ _ _ _ => match oq with | 0 => v = .slice a5 q c5 | 1 => v = .int .i64 s | 2 => v = .pointer (some ⟨g1, o1, none⟩) | 3 => v = .slice ag (N s + 6) cg | 4 => v = .int .i64 r | 5 => v = .pointer (some ⟨g2, o2, none⟩) | 6 => v = .string (markTexts (s + 10) r) | 7 => v = .int .i64 s | 8 => v = .int .i64 ((s + 10 : Nat) : Int) | 9 => v = .int .i64 r | 10 => v = Value.string (markTexts (s + 10) r) | 11 => v = .bool false | 12 => v = .bool false | 13 => v = .int .i64 r | 14 => v = .slice a0 q c0 | 15 => v = .int .i64 s | 16 => v = .pointer (some ⟨g3, o3, none⟩) | 17 => v = .slice a (N s) c | 18 => v = .int .i64 (N s) | 19 => v = .bool false | 20 => v = .bool false | 21 => v = undef | 22 => v = undef | 23 => v = undef | 24 => v = undef | 25 => v = undef | 26 => v = undef | 27 => v = undef | 28 => v = undef | 29 => v = undef | 30 => v = undef | 31 => v = undef | 32 => v = undef | 33 => v = undef | 34 => v = undef | 35 => v = undef | 36 => v = .bool false | 37 => v = .bool false | _ => True) (by kernel_rfl) ?hSn (fun _ _ hb h => ⟨cell_later hb h.1, cell_later hb h.2.1, cell_later hb h.2.2⟩) (fun _ _ _ _ _ _ _ _ _ h => h) ?hopn ?hendn
                    case hSn => exact ⟨hcell1, hcell2, hcell3⟩
                    case hopn =>
                      delta Owed
                      simp only [fillD, Act.put, List.setIfInBounds_toArray, List.set_cons_zero, List.set_cons_succ]
                      refine Each.cons rfl ?_ (Each.cons rfl ?_ (Each.cons rfl ?_ (Each.cons rfl ?_ (Each.cons rfl ?_ (Each.cons rfl ?_ (Each.cons rfl ?_ (Each.cons rfl ?_ (Each.cons rfl ?_ (Each.cons rfl ?_ (Each.cons rfl ?_ (Each.cons rfl ?_ (Each.cons rfl ?_ (Each.cons rfl ?_ (Each.cons rfl ?_ (Each.cons rfl ?_ (Each.cons rfl ?_ (Each.cons rfl ?_ (Each.cons rfl ?_ (Each.cons rfl ?_ (Each.cons rfl ?_ (Each.cons rfl ?_ (Each.cons rfl ?_ (Each.cons rfl ?_ (Each.cons rfl ?_ (Each.cons rfl ?_ (Each.cons rfl ?_ (Each.cons rfl ?_ (Each.cons rfl ?_ (Each.cons rfl ?_ (Each.cons rfl ?_ (Each.cons rfl ?_ (Each.cons rfl ?_ (Each.cons rfl ?_ (Each.cons rfl ?_ (Each.cons rfl ?_ (Each.cons rfl ?_ (Each.cons rfl ?_ Each.nil)))))))))))))))))))))))))))))))))))))
                      · intro vs w2 hb2 hS2 hR2 K hK
                        simp only [List.set_cons_zero, List.set_cons_succ] at hK ⊢
                        go_simp
                        exact hK.out _ _ (Below.refl _ _) rfl
                      · intro vs w2 hb2 hS2 hR2 K hK
                        simp only [List.set_cons_zero, List.set_cons_succ] at hK ⊢
                        go_simp
                        exact hK.out _ _ (Below.refl _ _) rfl
                      · intro vs w2 hb2 hS2 hR2 K hK
                        have h0 : vs 0 = .slice a5 q c5 := by obtain ⟨_, _, _, h⟩ := hR2 0 (by kernel_rfl); exact h
                        have h1 : vs 1 = .int .i64 s := by obtain ⟨_, _, _, h⟩ := hR2 1 (by kernel_rfl); exact h
                        simp only [List.set_cons_zero, List.set_cons_succ] at hK ⊢
                        have k1 := hS2.1
                        have k2 := hS2.2.1
                        have k3 := hS2.2.2
                        simp only [h0, h1] at hK ⊢
                        go_simp
                        exact hK.out _ _ (Below.refl _ _) rfl
                      · intro vs w2 hb2 hS2 hR2 K hK
                        have h2 : vs 2 = .pointer (some ⟨g1, o1, none⟩) := by obtain ⟨_, _, _, h⟩ := hR2 2 (by kernel_rfl); exact h
                        simp only [List.set_cons_zero, List.set_cons_succ] at hK ⊢
                        have k1 := hS2.1
                        have k2 := hS2.2.1
                        have k3 := hS2.2.2
                        simp only [h2] at hK ⊢
                        go_simp
                        exact hK.out _ _ (Below.refl _ _) rfl
                      · intro vs w2 hb2 hS2 hR2 K hK
                        simp only [List.set_cons_zero, List.set_cons_succ] at hK ⊢
                        go_simp
                        exact hK.out _ _ (Below.refl _ _) rfl
                      · intro vs w2 hb2 hS2 hR2 K hK
                        have h3 : vs 3 = .slice ag (N s + 6) cg := by obtain ⟨_, _, _, h⟩ := hR2 3 (by kernel_rfl); exact h
                        have h4 : vs 4 = .int .i64 r := by obtain ⟨_, _, _, h⟩ := hR2 4 (by kernel_rfl); exact h
                        simp only [List.set_cons_zero, List.set_cons_succ] at hK ⊢
                        have k1 := hS2.1
                        have k2 := hS2.2.1
                        have k3 := hS2.2.2
                        simp only [h3, h4] at hK ⊢
                        go_simp
                        exact hK.out _ _ (Below.refl _ _) rfl
                      · intro vs w2 hb2 hS2 hR2 K hK
                        have h5 : vs 5 = .pointer (some ⟨g2, o2, none⟩) := by obtain ⟨_, _, _, h⟩ := hR2 5 (by kernel_rfl); exact h
                        simp only [List.set_cons_zero, List.set_cons_succ] at hK ⊢
                        have k1 := hS2.1
                        have k2 := hS2.2.1
                        have k3 := hS2.2.2
                        simp only [h5] at hK ⊢
                        go_simp
                        exact hK.out _ _ (Below.refl _ _) rfl
                      · intro vs w2 hb2 hS2 hR2 K hK
                        simp only [List.set_cons_zero, List.set_cons_succ] at hK ⊢
                        go_simp
                        exact hK.out _ _ (Below.refl _ _) rfl
                      · intro vs w2 hb2 hS2 hR2 K hK
                        have h7 : vs 7 = .int .i64 s := by obtain ⟨_, _, _, h⟩ := hR2 7 (by kernel_rfl); exact h
                        simp only [List.set_cons_zero, List.set_cons_succ] at hK ⊢
                        simp only [h7] at hK ⊢
                        go_simp
                        exact hK.out _ _ (Below.refl _ _) rfl
                      · intro vs w2 hb2 hS2 hR2 K hK
                        simp only [List.set_cons_zero, List.set_cons_succ] at hK ⊢
                        go_simp
                        exact hK.out _ _ (Below.refl _ _) rfl
                      · intro vs w2 hb2 hS2 hR2 K hK
                        have h8 : vs 8 = .int .i64 ((s + 10 : Nat) : Int) := by obtain ⟨_, _, _, h⟩ := hR2 8 (by kernel_rfl); exact h
                        have h9 : vs 9 = .int .i64 r := by obtain ⟨_, _, _, h⟩ := hR2 9 (by kernel_rfl); exact h
                        simp only [List.set_cons_zero, List.set_cons_succ] at hK ⊢
                        simp only [h8, h9] at hK ⊢
                        rw [if_pos (by rfl)]
                        go_wp2_with (go_at_call 36; refine (marktexts_any (s + 10) r _ (by omega) (by omega)).mono ?_; rintro e w3 ⟨rfl, hb3⟩)
                        exact hK.out _ _ hb3 rfl
                      · intro vs w2 hb2 hS2 hR2 K hK
                        have h6 : vs 6 = .string (markTexts (s + 10) r) := by obtain ⟨_, _, _, h⟩ := hR2 6 (by kernel_rfl); exact h
                        obtain ⟨_, _, _, H10⟩ := hR2 10 (by kernel_rfl)
                        have h10 : vs 10 = Value.string (markTexts (s + 10) r) := H10
                        simp only [List.set_cons_zero, List.set_cons_succ] at hK ⊢
                        simp only [h6, h10] at hK ⊢
                        go_simp
                        exact hK.out _ _ (Below.refl _ _) rfl
                      · intro vs w2 hb2 hS2 hR2 K hK
                        have h11 : vs 11 = .bool false := by obtain ⟨_, _, _, h⟩ := hR2 11 (by kernel_rfl); exact h
                        simp only [List.set_cons_zero, List.set_cons_succ] at hK ⊢
                        simp only [h11] at hK ⊢
                        go_simp
                        exact hK.out _ _ (Below.refl _ _) rfl
                      · intro vs w2 hb2 hS2 hR2 K hK
                        have h12 : vs 12 = .bool false := by obtain ⟨_, _, _, h⟩ := hR2 12 (by kernel_rfl); exact h
                        simp only [List.set_cons_zero, List.set_cons_succ] at hK ⊢
                        simp only [h12] at hK ⊢
                        rw [if_pos (by rfl)]
                        go_simp
                        exact hK.out _ _ (Below.refl _ _) rfl
                      · intro vs w2 hb2 hS2 hR2 K hK
                        have h12 : vs 12 = .bool false := by obtain ⟨_, _, _, h⟩ := hR2 12 (by kernel_rfl); exact h
                        simp only [List.set_cons_zero, List.set_cons_succ] at hK ⊢
                        simp only [h12] at hK ⊢
                        rw [if_pos (by rfl)]
                        go_simp
                        exact hK.out _ _ (Below.refl _ _) rfl
                      · intro vs w2 hb2 hS2 hR2 K hK
                        have h12 : vs 12 = .bool false := by obtain ⟨_, _, _, h⟩ := hR2 12 (by kernel_rfl); exact h
                        simp only [List.set_cons_zero, List.set_cons_succ] at hK ⊢
                        simp only [h12] at hK ⊢
                        rw [if_pos (by rfl)]
                        go_simp
                        exact hK.out _ _ (Below.refl _ _) rfl
                      · intro vs w2 hb2 hS2 hR2 K hK
                        have h12 : vs 12 = .bool false := by obtain ⟨_, _, _, h⟩ := hR2 12 (by kernel_rfl); exact h
                        have h14 : vs 14 = .slice a0 q c0 := by obtain ⟨_, _, _, h⟩ := hR2 14 (by kernel_rfl); exact h
                        have h15 : vs 15 = .int .i64 s := by obtain ⟨_, _, _, h⟩ := hR2 15 (by kernel_rfl); exact h
                        simp only [List.set_cons_zero, List.set_cons_succ] at hK ⊢
                        have k1 := hS2.1
                        have k2 := hS2.2.1
                        have k3 := hS2.2.2
                        simp only [h12, h14, h15] at hK ⊢
                        rw [if_pos (by rfl)]
                        go_simp
                        exact hK.out _ _ (Below.refl _ _) rfl
                      · intro vs w2 hb2 hS2 hR2 K hK
                        have h12 : vs 12 = .bool false := by obtain ⟨_, _, _, h⟩ := hR2 12 (by kernel_rfl); exact h
                        have h16 : vs 16 = .pointer (some ⟨g3, o3, none⟩) := by obtain ⟨_, _, _, h⟩ := hR2 16 (by kernel_rfl); exact h
                        simp only [List.set_cons_zero, List.set_cons_succ] at hK ⊢
                        have k1 := hS2.1
                        have k2 := hS2.2.1
                        have k3 := hS2.2.2
                        simp only [h12, h16] at hK ⊢
                        rw [if_pos (by rfl)]
                        go_simp
                        exact hK.out _ _ (Below.refl _ _) rfl
                      · intro vs w2 hb2 hS2 hR2 K hK
                        have h12 : vs 12 = .bool false := by obtain ⟨_, _, _, h⟩ := hR2 12 (by kernel_rfl); exact h
                        have h17 : vs 17 = .slice a (N s) c := by obtain ⟨_, _, _, h⟩ := hR2 17 (by kernel_rfl); exact h
                        simp only [List.set_cons_zero, List.set_cons_succ] at hK ⊢
                        simp only [h12, h17] at hK ⊢
                        rw [if_pos (by rfl)]
                        go_simp
                        exact hK.out _ _ (Below.refl _ _) rfl
                      · intro vs w2 hb2 hS2 hR2 K hK
                        have h12 : vs 12 = .bool false := by obtain ⟨_, _, _, h⟩ := hR2 12 (by kernel_rfl); exact h
                        have h13 : vs 13 = .int .i64 r := by obtain ⟨_, _, _, h⟩ := hR2 13 (by kernel_rfl); exact h
                        have h18 : vs 18 = .int .i64 (N s) := by obtain ⟨_, _, _, h⟩ := hR2 18 (by kernel_rfl); exact h
                        simp only [List.set_cons_zero, List.set_cons_succ] at hK ⊢
                        simp only [h12, h13, h18] at hK ⊢
                        rw [if_pos (by rfl)]
                        go_simp
                        exact hK.out _ _ (Below.refl _ _) rfl
                      · intro vs w2 hb2 hS2 hR2 K hK
                        have h12 : vs 12 = .bool false := by obtain ⟨_, _, _, h⟩ := hR2 12 (by kernel_rfl); exact h
                        have h19 : vs 19 = .bool false := by obtain ⟨_, _, _, h⟩ := hR2 19 (by kernel_rfl); exact h
                        simp only [List.set_cons_zero, List.set_cons_succ] at hK ⊢
                        simp only [h12, h19] at hK ⊢
                        rw [if_pos (by rfl)]
                        go_simp
                        exact hK.out _ _ (Below.refl _ _) rfl
                      · intro vs w2 hb2 hS2 hR2 K hK
                        have h20 : vs 20 = .bool false := by obtain ⟨_, _, _, h⟩ := hR2 20 (by kernel_rfl); exact h
                        simp only [List.set_cons_zero, List.set_cons_succ] at hK ⊢
                        simp only [h20] at hK ⊢
                        rw [if_neg (by intro hh; exact absurd (show false = true from hh) (by decide))]
                        exact hK.out _ _ (Below.refl _ _) rfl
                      · intro vs w2 hb2 hS2 hR2 K hK
                        have h20 : vs 20 = .bool false := by obtain ⟨_, _, _, h⟩ := hR2 20 (by kernel_rfl); exact h
                        simp only [List.set_cons_zero, List.set_cons_succ] at hK ⊢
                        simp only [h20] at hK ⊢
                        rw [if_neg (by intro hh; exact absurd (show false = true from hh) (by decide))]
                        exact hK.out _ _ (Below.refl _ _) rfl
                      · intro vs w2 hb2 hS2 hR2 K hK
                        have h20 : vs 20 = .bool false := by obtain ⟨_, _, _, h⟩ := hR2 20 (by kernel_rfl); exact h
                        have h21 : vs 21 = undef := by obtain ⟨_, _, _, h⟩ := hR2 21 (by kernel_rfl); exact h
                        have h22 : vs 22 = undef := by obtain ⟨_, _, _, h⟩ := hR2 22 (by kernel_rfl); exact h
                        simp only [List.set_cons_zero, List.set_cons_succ] at hK ⊢
                        have k1 := hS2.1
                        have k2 := hS2.2.1
                        have k3 := hS2.2.2
                        simp only [h20, h21, h22] at hK ⊢
                        rw [if_neg (by intro hh; exact absurd (show false = true from hh) (by decide))]
                        exact hK.out _ _ (Below.refl _ _) rfl
                      · intro vs w2 hb2 hS2 hR2 K hK
                        have h20 : vs 20 = .bool false := by obtain ⟨_, _, _, h⟩ := hR2 20 (by kernel_rfl); exact h
                        have h23 : vs 23 = undef := by obtain ⟨_, _, _, h⟩ := hR2 23 (by kernel_rfl); exact h
                        simp only [List.set_cons_zero, List.set_cons_succ] at hK ⊢
                        have k1 := hS2.1
                        have k2 := hS2.2.1
                        have k3 := hS2.2.2
                        simp only [h20, h23] at hK ⊢
                        rw [if_neg (by intro hh; exact absurd (show false = true from hh) (by decide))]
                        exact hK.out _ _ (Below.refl _ _) rfl
                      · intro vs w2 hb2 hS2 hR2 K hK
                        have h20 : vs 20 = .bool false := by obtain ⟨_, _, _, h⟩ := hR2 20 (by kernel_rfl); exact h
                        simp only [List.set_cons_zero, List.set_cons_succ] at hK ⊢
                        simp only [h20] at hK ⊢
                        rw [if_neg (by intro hh; exact absurd (show false = true from hh) (by decide))]
                        exact hK.out _ _ (Below.refl _ _) rfl
                      · intro vs w2 hb2 hS2 hR2 K hK
                        have h20 : vs 20 = .bool false := by obtain ⟨_, _, _, h⟩ := hR2 20 (by kernel_rfl); exact h
                        have h24 : vs 24 = undef := by obtain ⟨_, _, _, h⟩ := hR2 24 (by kernel_rfl); exact h
                        have h25 : vs 25 = undef := by obtain ⟨_, _, _, h⟩ := hR2 25 (by kernel_rfl); exact h
                        simp only [List.set_cons_zero, List.set_cons_succ] at hK ⊢
                        have k1 := hS2.1
                        have k2 := hS2.2.1
                        have k3 := hS2.2.2
                        simp only [h20, h24, h25] at hK ⊢
                        rw [if_neg (by intro hh; exact absurd (show false = true from hh) (by decide))]
                        exact hK.out _ _ (Below.refl _ _) rfl
                      · intro vs w2 hb2 hS2 hR2 K hK
                        have h20 : vs 20 = .bool false := by obtain ⟨_, _, _, h⟩ := hR2 20 (by kernel_rfl); exact h
                        have h26 : vs 26 = undef := by obtain ⟨_, _, _, h⟩ := hR2 26 (by kernel_rfl); exact h
                        simp only [List.set_cons_zero, List.set_cons_succ] at hK ⊢
                        have k1 := hS2.1
                        have k2 := hS2.2.1
                        have k3 := hS2.2.2
                        simp only [h20, h26] at hK ⊢
                        rw [if_neg (by intro hh; exact absurd (show false = true from hh) (by decide))]
                        exact hK.out _ _ (Below.refl _ _) rfl
                      · intro vs w2 hb2 hS2 hR2 K hK
                        have h20 : vs 20 = .bool false := by obtain ⟨_, _, _, h⟩ := hR2 20 (by kernel_rfl); exact h
                        simp only [List.set_cons_zero, List.set_cons_succ] at hK ⊢
                        simp only [h20] at hK ⊢
                        rw [if_neg (by intro hh; exact absurd (show false = true from hh) (by decide))]
                        exact hK.out _ _ (Below.refl _ _) rfl
                      · intro vs w2 hb2 hS2 hR2 K hK
                        have h20 : vs 20 = .bool false := by obtain ⟨_, _, _, h⟩ := hR2 20 (by kernel_rfl); exact h
                        simp only [List.set_cons_zero, List.set_cons_succ] at hK ⊢
                        simp only [h20] at hK ⊢
                        rw [if_neg (by intro hh; exact absurd (show false = true from hh) (by decide))]
                        exact hK.out _ _ (Below.refl _ _) rfl
                      · intro vs w2 hb2 hS2 hR2 K hK
                        have h20 : vs 20 = .bool false := by obtain ⟨_, _, _, h⟩ := hR2 20 (by kernel_rfl); exact h
                        have h28 : vs 28 = undef := by obtain ⟨_, _, _, h⟩ := hR2 28 (by kernel_rfl); exact h
                        have h29 : vs 29 = undef := by obtain ⟨_, _, _, h⟩ := hR2 29 (by kernel_rfl); exact h
                        simp only [List.set_cons_zero, List.set_cons_succ] at hK ⊢
                        have k1 := hS2.1
                        have k2 := hS2.2.1
                        have k3 := hS2.2.2
                        simp only [h20, h28, h29] at hK ⊢
                        rw [if_neg (by intro hh; exact absurd (show false = true from hh) (by decide))]
                        exact hK.out _ _ (Below.refl _ _) rfl
                      · intro vs w2 hb2 hS2 hR2 K hK
                        have h20 : vs 20 = .bool false := by obtain ⟨_, _, _, h⟩ := hR2 20 (by kernel_rfl); exact h
                        have h30 : vs 30 = undef := by obtain ⟨_, _, _, h⟩ := hR2 30 (by kernel_rfl); exact h
                        simp only [List.set_cons_zero, List.set_cons_succ] at hK ⊢
                        have k1 := hS2.1
                        have k2 := hS2.2.1
                        have k3 := hS2.2.2
                        simp only [h20, h30] at hK ⊢
                        rw [if_neg (by intro hh; exact absurd (show false = true from hh) (by decide))]
                        exact hK.out _ _ (Below.refl _ _) rfl
                      · intro vs w2 hb2 hS2 hR2 K hK
                        have h20 : vs 20 = .bool false := by obtain ⟨_, _, _, h⟩ := hR2 20 (by kernel_rfl); exact h
                        simp only [List.set_cons_zero, List.set_cons_succ] at hK ⊢
                        simp only [h20] at hK ⊢
                        rw [if_neg (by intro hh; exact absurd (show false = true from hh) (by decide))]
                        exact hK.out _ _ (Below.refl _ _) rfl
                      · intro vs w2 hb2 hS2 hR2 K hK
                        have h20 : vs 20 = .bool false := by obtain ⟨_, _, _, h⟩ := hR2 20 (by kernel_rfl); exact h
                        have h31 : vs 31 = undef := by obtain ⟨_, _, _, h⟩ := hR2 31 (by kernel_rfl); exact h
                        have h32 : vs 32 = undef := by obtain ⟨_, _, _, h⟩ := hR2 32 (by kernel_rfl); exact h
                        simp only [List.set_cons_zero, List.set_cons_succ] at hK ⊢
                        have k1 := hS2.1
                        have k2 := hS2.2.1
                        have k3 := hS2.2.2
                        simp only [h20, h31, h32] at hK ⊢
                        rw [if_neg (by intro hh; exact absurd (show false = true from hh) (by decide))]
                        exact hK.out _ _ (Below.refl _ _) rfl
                      · intro vs w2 hb2 hS2 hR2 K hK
                        have h20 : vs 20 = .bool false := by obtain ⟨_, _, _, h⟩ := hR2 20 (by kernel_rfl); exact h
                        have h33 : vs 33 = undef := by obtain ⟨_, _, _, h⟩ := hR2 33 (by kernel_rfl); exact h
                        simp only [List.set_cons_zero, List.set_cons_succ] at hK ⊢
                        have k1 := hS2.1
                        have k2 := hS2.2.1
                        have k3 := hS2.2.2
                        simp only [h20, h33] at hK ⊢
                        rw [if_neg (by intro hh; exact absurd (show false = true from hh) (by decide))]
                        exact hK.out _ _ (Below.refl _ _) rfl
                      · intro vs w2 hb2 hS2 hR2 K hK
                        have h20 : vs 20 = .bool false := by obtain ⟨_, _, _, h⟩ := hR2 20 (by kernel_rfl); exact h
                        have h27 : vs 27 = undef := by obtain ⟨_, _, _, h⟩ := hR2 27 (by kernel_rfl); exact h
                        have h34 : vs 34 = undef := by obtain ⟨_, _, _, h⟩ := hR2 34 (by kernel_rfl); exact h
                        simp only [List.set_cons_zero, List.set_cons_succ] at hK ⊢
                        simp only [h20, h27, h34] at hK ⊢
                        rw [if_neg (by intro hh; exact absurd (show false = true from hh) (by decide))]
                        exact hK.out _ _ (Below.refl _ _) rfl
                      · intro vs w2 hb2 hS2 hR2 K hK
                        have h12 : vs 12 = .bool false := by obtain ⟨_, _, _, h⟩ := hR2 12 (by kernel_rfl); exact h
                        have h20 : vs 20 = .bool false := by obtain ⟨_, _, _, h⟩ := hR2 20 (by kernel_rfl); exact h
                        have h35 : vs 35 = undef := by obtain ⟨_, _, _, h⟩ := hR2 35 (by kernel_rfl); exact h
                        simp only [List.set_cons_zero, List.set_cons_succ] at hK ⊢
                        simp only [h12, h20, h35] at hK ⊢
                        rw [if_pos (by rfl)]
                        go_simp
                        exact hK.out _ _ (Below.refl _ _) rfl
                      · intro vs w2 hb2 hS2 hR2 K hK
                        have h12 : vs 12 = .bool false := by obtain ⟨_, _, _, h⟩ := hR2 12 (by kernel_rfl); exact h
                        have h36 : vs 36 = .bool false := by obtain ⟨_, _, _, h⟩ := hR2 36 (by kernel_rfl); exact h
                        simp only [List.set_cons_zero, List.set_cons_succ] at hK ⊢
                        simp only [h12, h36] at hK ⊢
                        go_simp
                        exact hK.out _ _ (Below.refl _ _) rfl
                    case hendn =>
                      intro vs wx lo hiv hbx hSx hRx hdx
                      have h0 : vs 0 = .slice a5 q c5 := (hRx 0 (by kernel_rfl)).1
                      have h1 : vs 1 = .int .i64 s := (hRx 1 (by kernel_rfl)).1
                      have h2 : vs 2 = .pointer (some ⟨g1, o1, none⟩) := (hRx 2 (by kernel_rfl)).1
                      have h3 : vs 3 = .slice ag (N s + 6) cg := (hRx 3 (by kernel_rfl)).1
                      have h4 : vs 4 = .int .i64 r := (hRx 4 (by kernel_rfl)).1
                      have h5 : vs 5 = .pointer (some ⟨g2, o2, none⟩) := (hRx 5 (by kernel_rfl)).1
                      have h6 : vs 6 = .string (markTexts (s + 10) r) := (hRx 6 (by kernel_rfl)).1
                      have h7 : vs 7 = .int .i64 s := (hRx 7 (by kernel_rfl)).1
                      have h8 : vs 8 = .int .i64 ((s + 10 : Nat) : Int) := (hRx 8 (by kernel_rfl)).1
                      have h9 : vs 9 = .int .i64 r := (hRx 9 (by kernel_rfl)).1
                      have H10 := (hRx 10 (by kernel_rfl)).1
                      have h10 : vs 10 = Value.string (markTexts (s + 10) r) := H10
                      have h11 : vs 11 = .bool false := (hRx 11 (by kernel_rfl)).1
                      have h12 : vs 12 = .bool false := (hRx 12 (by kernel_rfl)).1
                      have h13 : vs 13 = .int .i64 r := (hRx 13 (by kernel_rfl)).1
                      have h14 : vs 14 = .slice a0 q c0 := (hRx 14 (by kernel_rfl)).1
                      have h15 : vs 15 = .int .i64 s := (hRx 15 (by kernel_rfl)).1
                      have h16 : vs 16 = .pointer (some ⟨g3, o3, none⟩) := (hRx 16 (by kernel_rfl)).1
                      have h17 : vs 17 = .slice a (N s) c := (hRx 17 (by kernel_rfl)).1
                      have h18 : vs 18 = .int .i64 (N s) := (hRx 18 (by kernel_rfl)).1
                      have h19 : vs 19 = .bool false := (hRx 19 (by kernel_rfl)).1
                      have h20 : vs 20 = .bool false := (hRx 20 (by kernel_rfl)).1
                      have h21 : vs 21 = undef := (hRx 21 (by kernel_rfl)).1
                      have h22 : vs 22 = undef := (hRx 22 (by kernel_rfl)).1
                      have h23 : vs 23 = undef := (hRx 23 (by kernel_rfl)).1
                      have h24 : vs 24 = undef := (hRx 24 (by kernel_rfl)).1
                      have h25 : vs 25 = undef := (hRx 25 (by kernel_rfl)).1
                      have h26 : vs 26 = undef := (hRx 26 (by kernel_rfl)).1
                      have h27 : vs 27 = undef := (hRx 27 (by kernel_rfl)).1
                      have h28 : vs 28 = undef := (hRx 28 (by kernel_rfl)).1
                      have h29 : vs 29 = undef := (hRx 29 (by kernel_rfl)).1
                      have h30 : vs 30 = undef := (hRx 30 (by kernel_rfl)).1
                      have h31 : vs 31 = undef := (hRx 31 (by kernel_rfl)).1
                      have h32 : vs 32 = undef := (hRx 32 (by kernel_rfl)).1
                      have h33 : vs 33 = undef := (hRx 33 (by kernel_rfl)).1
                      have h34 : vs 34 = undef := (hRx 34 (by kernel_rfl)).1
                      have h35 : vs 35 = undef := (hRx 35 (by kernel_rfl)).1
                      have h36 : vs 36 = .bool false := (hRx 36 (by kernel_rfl)).1
                      have h37 : vs 37 = .bool false := (hRx 37 (by kernel_rfl)).1
                      simp only [fillD, Act.put, List.setIfInBounds_toArray, List.set_cons_zero, List.set_cons_succ, h0, h1, h2, h3, h4, h5, h6, h7, h8, h9, h10, h11, h12, h13, h14, h15, h16, h17, h18, h19, h20, h21, h22, h23, h24, h25, h26, h27, h28, h29, h30, h31, h32, h33, h34, h35, h36, h37]
                      have HBX := hid (below_drew_left hbx)
                      clear hbx hSx hRx hdx H10 h0 h1 h2 h3 h4 h5 h6 h7 h8 h9 h10 h11 h12 h13 h14 h15 h16 h17 h18 h19 h20 h21 h22 h23 h24 h25 h26 h27 h28 h29 h30 h31 h32 h33 h34 h35 h36 h37
                      refine wpAny_done (by kernel_rfl) ?_ _
                      go_wp2
                      go_roundw
                      case rel => exact ⟨r + 1, by omega, by go_num, HO4.out.below HBX.out (Nat.le_refl _), HG4.out.later HBX.out⟩
                      case measure => simp [intOf]; omega
                · go_wp2
                  go_roundw
                  case rel => exact ⟨s + 1, by omega, by go_num, HO4.out, HG4.out⟩
                  case measure => simp [intOf]; omega
            · go_wp2
              go_ret
              exact ⟨rfl, HG3.out.below⟩
end Go.Proofs.Ytejooaeppcjhjaa
