/- WaveTurns walked. -/
import Derived.Test.YtlgfpfjfoajjbaaTri
import Derived.Test.YtlgfpfjfoajjbaaWaveTones
import Derived.Test.YtlgfpfjfoajjbaaWaveSum
import Derived.Test.YtlgfpfjfoajjbaaTurnsLaw
namespace Go.Proofs.Ytlgfpfjfoajjbaa
open Go.RowKit

/-- Two variables of the round, each in a block of its own. -/
def TwoBox (x y : Tn) (w0 wx : World) (s t : Value) : Prop :=
  ∃ g1 g2 : Nat, s = .pointer (some ⟨g1, 0, none⟩) ∧ t = .pointer (some ⟨g2, 0, none⟩) ∧ ¬ g1 = g2 ∧ w0.heap.size ≤ g1 ∧ w0.heap.size ≤ g2 ∧ Below w0.heap.size w0 wx ∧
    wx.heap[g1]? = some (.cells #[.float .f64 x.1, .int .i64 x.2.1, .int .i64 x.2.2] 71 (0, 0)) ∧ wx.heap[g2]? = some (.cells #[.float .f64 y.1, .int .i64 y.2.1, .int .i64 y.2.2] 71 (0, 0))

theorem all_succ (l : List Tn) (k : Nat) (x : Tn) (h : l[k]? = some x) : ((l.take (k + 1)).all fun t => midB t.1) = (((l.take k).all fun t => midB t.1) && midB x.1) := by
  obtain ⟨hk, hx⟩ := List.getElem?_eq_some_iff.1 h
  rw [List.take_succ_eq_append_getElem hk, List.all_append, hx]; simp
theorem tmod_40 (x : Int) : -1099511627776 < Int.tmod x 1099511627776 ∧ Int.tmod x 1099511627776 < 1099511627776 := by
  have h1 : Int.tmod x 1099511627776 = _ := Int.tmod_eq_emod
  have h2 := Int.emod_nonneg x (show (1099511627776 : Int) ≠ 0 by decide)
  have h3 := Int.emod_lt_of_pos x (show (0 : Int) < 1099511627776 by decide)
  have h4 : (1099511627776 : Int).natAbs = 1099511627776 := rfl
  rw [h1]
  split
  · omega
  · rename_i h5
    have : x % 1099511627776 ≠ 0 := fun e => h5 (.inr (Int.dvd_of_emod_eq_zero e))
    rw [h4]; omega
theorem norm_12 (x : Tn) : wrap64 ((norm x).2.1 + 12) = (norm x).2.1 + 12 := by
  have h := tmod_40 x.2.1
  show wrap64 (Int.tmod x.2.1 1099511627776 + 12) = Int.tmod x.2.1 1099511627776 + 12
  unfold wrap64; omega
theorem heap_2 (w : World) (a b : Obj) : ((w.alloc a).alloc b).heap[w.heap.size + 1]? = some b := by
  have := heap_alloc_new (w.alloc a) b
  simpa using this
/-- The two variables, turned. -/
theorem boxes_turned {w : World} {g1 g2 T n : Nat} {a b c d e f b' d' : Value} (h1 : w.heap[g1]? = some (.cells #[a, b, c] T (0, 0))) (h2 : w.heap[g2]? = some (.cells #[d, e, f] T (0, 0))) (hne : ¬ g1 = g2) :
    (((w.setCell ⟨g1, 1, none⟩ b').drewN n).setCell ⟨g2, 0, none⟩ d').heap[g1]? = some (.cells #[a, b', c] T (0, 0)) ∧ (((w.setCell ⟨g1, 1, none⟩ b').drewN n).setCell ⟨g2, 0, none⟩ d').heap[g2]? = some (.cells #[d', e, f] T (0, 0)) := by
  have k1 := Go.heap_setCell_same w g1 1 _ T b' h1
  have k2 : ((w.setCell ⟨g1, 1, none⟩ b').drewN n).heap[g2]? = some (.cells #[d, e, f] T (0, 0)) := (Below.heap_setCell w ⟨g1, 1, none⟩ b' g2 (fun e => hne e.symm)).trans h2
  refine ⟨(Below.heap_setCell _ ⟨g2, 0, none⟩ d' g1 hne).trans k1, Go.heap_setCell_same _ g2 0 _ T d' k2⟩
theorem two_a {x y : Tn} {w0 : World} : TwoBox x y w0 ((w0.alloc (.cells #[.float .f64 x.1, .int .i64 x.2.1, .int .i64 x.2.2] 71)).alloc (.cells #[.float .f64 y.1, .int .i64 y.2.1, .int .i64 y.2.2] 71)).drew (.pointer (some ⟨w0.heap.size, 0, none⟩)) (.pointer (some ⟨w0.heap.size + 1, 0, none⟩)) := by
  refine ⟨_, _, rfl, rfl, by omega, Nat.le_refl _, by omega, (((Below.refl _ _).alloc (Nat.le_refl _) _).alloc (by simp) _).drew, ?_, ?_⟩
  · exact (heap_alloc_old (w0.alloc _) _ (by simp)).trans (heap_alloc_new w0 _)
  · exact heap_2 w0 _ _
theorem two_b {x : Tn} {w0 : World} : TwoBox x x w0 ((w0.alloc (.cells #[.float .f64 x.1, .int .i64 x.2.1, .int .i64 x.2.2] 71)).alloc (.cells #[.float .f64 x.1, .int .i64 x.2.1, .int .i64 x.2.2] 71)).drew (.pointer (some ⟨w0.heap.size + 1, 0, none⟩)) (.pointer (some ⟨w0.heap.size, 0, none⟩)) := by
  obtain ⟨g1, g2, e1, e2, h1, h2, h3, h4, h5, h6⟩ := two_a (x := x) (y := x) (w0 := w0)
  exact ⟨g2, g1, by rw [← e2], by rw [← e1], fun e => h1 e.symm, h3, h2, h4, h6, h5⟩
theorem tone_at {w1 : World} {g t : Nat} {a b c : Value} (h : w1.heap[g]? = some (.cells #[a, b, c] t (0, 0))) : w1.cell? ⟨g, 0, none⟩ = some a ∧ w1.cell? ⟨g, 1, none⟩ = some b ∧ w1.cell? ⟨g, 2, none⟩ = some c ∧
    w1.frozen? ⟨g, 0, none⟩ = false ∧ w1.frozen? ⟨g, 1, none⟩ = false ∧ w1.frozen? ⟨g, 2, none⟩ = false := by
  have hf : ∀ o, w1.frozen? ⟨g, o, none⟩ = false := fun o => by simp [World.frozen?, h]
  exact ⟨cell_of_row _ _ _ _ _ _ h, cell_of_row _ _ _ _ _ _ h, cell_of_row _ _ _ _ _ _ h, hf 0, hf 1, hf 2⟩

set_option maxRecDepth 100000 in
set_option maxHeartbeats 2000000 in
theorem wturns_walk (v : Value) (l : List Tn) (t n f : Int) (w : World) (hv : InSl w 3 v l.length (l.flatMap tz)) (hl : l.length * 24 ≤ 140737488351232) :
    Calls Try.prog 7 #[v, .int .i64 t, .int .i64 n, .int .i64 f] w fun e w' => e = .returned (.bool true) ∧ Below w.heap.size w w' := by
  obtain ⟨a, k0, rfl⟩ := hv.form
  have hll : l.length ≤ 140737488355328 := by omega
  have HV := hid hv
  clear hv
  by_cases h64 : 64 < l.length
  · have h64' : (64 : Int) < (l.length : Int) := by omega
    go_enter Try.func7, Try.ntmps7
    go_wp2_with (go_at_call 37; refine (awake_any _).mono ?_; rintro e w' ⟨rfl, hb⟩)
    go_ret
    exact ⟨rfl, hb⟩
  · have h64' : ¬ (64 : Int) < (l.length : Int) := by omega
    obtain ⟨i0, hi, hz0, hz1, hz2⟩ := info_parts infoTa
    go_enter Try.func7, Try.ntmps7
    go_wp2_with fail
    refine (tones_any _ l _ HV.out hl).mono ?_
    rintro e w1 ⟨v1, xs, rfl, hown1, rfl, hb1⟩
    obtain ⟨a1, c1, h1⟩ := (IsSl.of_own hown1).form
    subst h1
    have HO1 := hid (show Tri w.heap.size (.slice a1 l.length c1) (al l 0) (.slice none 0 0) [] (.slice none 0 0) [] w1 by rw [al_zero]; exact tri_start hb1.size hown1)
    have HB1 := hid hb1
    clear hown1 hb1 HV
    go_wp2_with fail
    go_loopg [10, 11, 12, 13] l.length (fun gk vb vc tm i wr => ∃ (k : Nat) (cs : List Tn), k + gk = l.length ∧ i = .int .i64 k ∧ tm = .bool ((l.take k).all fun t => midB t.1) ∧
      Tri w.heap.size (.slice a1 l.length c1) (al l k) vb (((l.take k).map norm).map half) vc cs wr ∧ cs.map tcan = ((l.take k).map norm).map twice ∧ Below w.heap.size w wr)
    case atStart => exact ⟨0, [], by omega, rfl, rfl, HO1.out, rfl, HB1.out⟩
    case round =>
      obtain ⟨k, cs, hk, rfl, rfl, hO, hcs, hb⟩ := hrel
      by_cases hlt : k < l.length
      · have hown := Tri.a hO
        rw [al_len] at hown
        obtain ⟨g, x, hidx, hB, hg, hx, c0, c1', c2, hfr, hob, hst1, hst2⟩ := own_at3 Try.underlying60 hi hz1 hown (al_len l k) hlt
        have f1 := hfr (k * 3 + 1)
        have f2 := hfr (k * 3 + 2)
        have hlx : l[k]? = some x := by rw [← al_get]; exact hx
        have HX := hid hlx
        have HO := hid hO
        have HCS := hid hcs
        have HB := hid hb
        have HOB := hid hob
        have HS1 := hid hst1
        have HS2 := hid hst2
        clear hlx hx hO hcs hb hob hst1 hst2 hown hfr hB
        go_upto_region 10 with fail
        go_cut [13] (fun i wx => i = .int .i64 k ∧ Tri w.heap.size (.slice a1 l.length c1) (al l (k + 1)) u10 (((l.take k).map norm).map half) u11 cs wx ∧ Below w.heap.size w wx)
        case first =>
          go_region
          all_goals (go_wp2_with fail)
          all_goals go_meet
          all_goals
            have h1 := HS1.out (x.2.1.tmod 1099511627776) (x.2.2.tmod 1048576)
            rw [← HOB.out] at h1
            have e : (al l k).set k (x.1, x.2.1.tmod 1099511627776, x.2.2.tmod 1048576) = al l (k + 1) := (al_succ l k x HX.out).symm
            rw [e] at h1
            exact ⟨rfl, (Tri.write HO.out h1.2 (by rw [al_len]; exact h1.1)).drew, HB.out.trans (HO.out.below_write (i := (0, 0)) ⟨by decide, rfl⟩ h1.2).drew⟩
        case rest =>
          obtain ⟨wa, rfl⟩ : ∃ wa : World, wa = wc := ⟨_, rfl⟩
          obtain ⟨rfl, hO, hb⟩ := hcut
          have hown := Tri.a hO
          rw [al_len] at hown
          clear hidx c0 c1' c2 f1 f2 HS1 HS2 HOB HO HB
          obtain ⟨g, y, hidx, hB, hg, hy, c0, c1', c2, hfr, hob, _, _⟩ := own_at3 Try.underlying60 hi hz1 hown (al_len l (k + 1)) hlt
          obtain rfl : y = norm x := by
            rw [al_succ l k x HX.out, List.getElem?_set_self (by rw [al_len]; exact hlt)] at hy
            exact (Option.some.inj hy).symm
          have HO := hid hO
          have HB := hid hb
          have HGB := hid hB
          clear hO hb hy hown hob hB hfr
          go_upto_region 11 with fail
          go_cut [14, 15] (fun s14 s15 wx => TwoBox (norm x) (norm x) wa wx s14 s15)
          case first =>
            go_region
            all_goals (go_wp2_with fail)
            all_goals go_meet
            all_goals first | exact two_a | exact two_b
          case rest =>
            obtain ⟨g1, g2, rfl, rfl, hgg, hg1, hg2, hbx, hc1, hc2⟩ := hcut
            obtain ⟨p0, p1, p2, q0, q1, q2⟩ := tone_at hc1
            obtain ⟨r0, r1, r2, z0, z1, z2⟩ := tone_at hc2
            have hgg2 : ¬ g2 = g1 := fun e => hgg e.symm
            have HC1 := hid hc1
            have HC2 := hid hc2
            have HBX := hid hbx
            have hw12 : wrap64 ((norm x).2.1 + 12) = (norm x).2.1 + 12 := norm_12 x
            clear hc1 hc2 hbx
            go_upto_region 14 with (refine wpList_float rfl _ _ _ _ _ rfl rfl _ _ rfl rfl ?_; intro rr nn hrr)
            have hkeep : Below wa.heap.size wa (((wc.setCell ⟨g1, 1, none⟩ (.int .i64 ((norm x).2.1 + 12))).drewN nn).setCell ⟨g2, 0, none⟩ (.float .f64 rr)) := (below_n (HBX.out.setCell hg1 _) _).setCell hg2 _
            have hbox := boxes_turned (n := nn) (b' := .int .i64 ((norm x).2.1 + 12)) (d' := .float .f64 rr) HC1.out HC2.out hgg
            generalize ((wc.setCell ⟨g1, 1, none⟩ (.int .i64 ((norm x).2.1 + 12))).drewN nn).setCell ⟨g2, 0, none⟩ (.float .f64 rr) = wd at *
            have HOD := hid (HO.out.later hkeep)
            have HBD := hid (HB.out.trans (hkeep.mono HB.out.size))
            have HD1 := hid hbox.1
            have HD2 := hid hbox.2
            have HRR := hid hrr
            have HUB := hid (fun (g : Nat) (e : u10.ownBlock = some g) => (HO.out.lt (i := (1, 0)) ⟨by decide, rfl⟩ (g := g) e).2)
            have HUC := hid (fun (g : Nat) (e : u11.ownBlock = some g) => (HO.out.lt (i := (2, 0)) ⟨by decide, rfl⟩ (g := g) e).2)
            obtain ⟨p0, p1, p2, _, _, _⟩ := tone_at hbox.1
            have hlen : ((((l.take k).map norm).map half)).length = k := by simp; omega
            have hlc : cs.length = k := by have := congrArg List.length HCS.out; simpa [Nat.min_eq_left (Nat.le_of_lt hlt)] using this
            have HTB := hid (Tri.b HOD.out)
            have hbase := HBD.out.size
            have HCL := hid hlc
            have HBL := hid hlen
            clear hkeep hbox hrr hlen hlc HO HB HC1 HC2 HBX
            go_upto_region 15 with (refine wpList_push2 rfl rfl _ rfl _ _ _ rfl rfl w.heap.size 71 3 24 i0 (.agg #[.float .f64 0, .int .i64 0, .int .i64 0]) Try.underlying60 hi hz0 hz1 hz2 rfl (by decide) (by decide) _ k _ (by have := HTB.out; rw [HBL.out] at this; exact this) hbase (.agg #[.float .f64 (norm x).1, .int .i64 ((norm x).2.1 + 12), .int .i64 (norm x).2.2]) rfl rfl (ta_one (half (norm x))) rfl rfl (by simp [maxLen]; omega) (by omega) ?_; intro g3 cap3 we hown3 hlt3 hgr3)
            have HOE := hid (Tri.pushb HOD.out (x := half (norm x)) HBL.out hown3 hgr3)
            have HBE := hid (HBD.out.trans (HOD.out.below_push (i := (1, 0)) ⟨by decide, rfl⟩ hgr3))
            have hkept2 : we.heap[g2]? = some (.cells #[.float .f64 rr, .int .i64 (norm x).2.1, .int .i64 (norm x).2.2] 71 (0, 0)) := by
              rcases hgr3 with ⟨e, hg⟩ | ⟨_, hg⟩
              · have := HUB.out _ e
                exact (hg.block g2 (Array.getElem?_eq_some_iff.1 HD2.out).1 (by intro e; cases e; omega)).trans HD2.out
              · exact (hg.block g2 (Array.getElem?_eq_some_iff.1 HD2.out).1 (by simp)).trans HD2.out
            have HTC := hid (Tri.c HOE.out)
            obtain ⟨r0, r1, r2, _, _, _⟩ := tone_at hkept2
            have hbase2 := HBE.out.size
            clear hown3 hgr3 HOD HBD HD1 HD2 HTB hkept2 p0 p1 p2 hbase
            go_upto_region 16 with (refine wpList_push2 rfl rfl _ rfl _ _ _ rfl rfl w.heap.size 71 3 24 i0 (.agg #[.float .f64 0, .int .i64 0, .int .i64 0]) Try.underlying60 hi hz0 hz1 hz2 rfl (by decide) (by decide) _ k _ (by have := HTC.out; rw [HCL.out] at this; exact this) hbase2 (.agg #[.float .f64 rr, .int .i64 (norm x).2.1, .int .i64 (norm x).2.2]) rfl rfl (ta_one (rr, (norm x).2.1, (norm x).2.2)) rfl rfl (by simp [maxLen]; omega) (by omega) ?_; intro g4 cap4 wf hown4 hlt4 hgr4)
            have HOF := hid (Tri.pushc HOE.out (x := (rr, (norm x).2.1, (norm x).2.2)) HCL.out hown4 hgr4)
            have HBF := hid (HBE.out.trans (HOE.out.below_push (i := (2, 0)) ⟨by decide, rfl⟩ hgr4))
            have hownA := Tri.a HOF.out
            rw [al_len] at hownA
            obtain ⟨g5, y, hidx5, _, _, hy, d0, _, _, _, _, _, _⟩ := own_at3 Try.underlying60 hi hz1 hownA (al_len l (k + 1)) hlt
            obtain rfl : y = norm x := by
              rw [al_succ l k x HX.out, List.getElem?_set_self (by rw [al_len]; exact hlt)] at hy
              exact (Option.some.inj hy).symm
            have HT := hid (all_succ l k x HX.out)
            clear hown4 hgr4 HOE HBE HTC hownA hy hbase2 r0 r1 r2 hidx
            cases htm : (l.take k).all fun t => midB t.1
            all_goals
              have HTM := hid htm
              clear htm
              go_wp2_with (go_at_call 38; refine (midd_any _ _).mono ?_; rintro e w' ⟨rfl, rfl⟩)
              go_roundg (l.length - (k + 1))
              case measure => omega
              case rel =>
                refine ⟨k + 1, cs ++ [(rr, (norm x).2.1, (norm x).2.2)], by omega, by go_num, by rw [HT.out, HTM.out]; rfl, ?_, ?_, HBF.out⟩
                · rw [take_succ_map norm l k x HX.out, List.map_append]; exact HOF.out
                · rw [take_succ_map norm l k x HX.out, List.map_append, List.map_append, HCS.out]
                  have : fc rr = fmul two64 (norm x).1 := by rw [HRR.out]; exact fop_fc .mul two64 (norm x).1
                  simp [tcan, twice, this]
      · obtain rfl : k = l.length := by omega
        rw [al_all l _ (Nat.le_refl _), List.take_length] at hO
        rw [List.take_length] at hcs ⊢
        have hLl : (l.map norm).length = l.length := by simp
        have hmid : (l.all fun t => midB t.1) = ((l.map norm).all fun t => midB t.1) := by rw [List.all_map]; rfl
        rw [hmid]
        have HLL := hid (show (l.map norm).length ≤ 64 by rw [hLl]; omega)
        have HSA := hid (IsSl.of_own (Tri.a hO))
        have HSB := hid (IsSl.of_own (Tri.b hO))
        have HSC := hid (IsSl.of_own (Tri.c hO))
        have HCS := hid hcs
        have HB := hid hb
        clear hO hcs hb HO1 HB1 hLl hmid hlt hk
        generalize l.map norm = L at *
        obtain ⟨wo, rfl⟩ : ∃ wo : World, wo = wr := ⟨_, rfl⟩
        have htb : -1099511627776 < t.tmod 1099511627776 ∧ t.tmod 1099511627776 < 1099511627776 := tmod_40 t
        obtain ⟨t0, ht0⟩ : ∃ t0, t.tmod 1099511627776 = t0 := ⟨_, rfl⟩
        rw [ht0] at htb
        obtain ⟨htb1, htb2⟩ := htb
        have hL3 : L.length ≤ 140737488355328 := by have := HLL.out; omega
        go_wp2_with fail
        refine (wsample_any _ L t0 _ HSA.out hL3).mono ?_
        rintro e w2 ⟨v2, rfl, hb2, r2, rfl, hr2⟩
        have HA2 := hid (HSA.out.below hb2 (Nat.le_refl _))
        have HB2 := hid (HSB.out.below hb2 (Nat.le_refl _))
        have HC2 := hid (HSC.out.below hb2 (Nat.le_refl _))
        have HW2 := hid (below_step HB.out hb2)
        have HR2 := hid hr2
        clear hb2 hr2 HSA HSB HSC HB
        go_wp2_with fail
        refine (wperiod_any _ L _ HA2.out hL3).mono ?_
        rintro e w3 ⟨v3, rfl, hb3, p, rfl, hp⟩
        have HA3 := hid (HA2.out.below hb3 (Nat.le_refl _))
        have HB3 := hid (HB2.out.below hb3 (Nat.le_refl _))
        have HC3 := hid (HC2.out.below hb3 (Nat.le_refl _))
        have HW3 := hid (below_step HW2.out hb3)
        have HP := hid hp
        have hp1 : ¬ p < 1 := by have := hp.pos; omega
        have hp2 : ¬ 24 < p := by have := hp.le; omega
        clear hb3 hp HA2 HB2 HC2 HW2
        go_wp2_with fail
        refine (wsample_any _ L (t0 + 24) _ HA3.out hL3).mono ?_
        rintro e w4 ⟨v4, rfl, hb4, r4, rfl, hr4⟩
        have HA4 := hid (HA3.out.below hb4 (Nat.le_refl _))
        have HB4 := hid (HB3.out.below hb4 (Nat.le_refl _))
        have HC4 := hid (HC3.out.below hb4 (Nat.le_refl _))
        have HW4 := hid (below_step HW3.out hb4)
        rw [smp_24] at hr4
        have HR4 := hid (hr4.trans HR2.out.symm)
        clear hb4 hr4 HA3 HB3 HC3 HW3
        go_wp2_with fail
        refine (samereal_eq _ _ HR4.out _).mono ?_
        rintro e w5 ⟨rfl, rfl⟩
        go_wp2_with fail
        refine (wsample_any _ L (t0 + p) _ HA4.out hL3).mono ?_
        rintro e w5 ⟨v5, rfl, hb5, r5, rfl, hr5⟩
        have HA5 := hid (HA4.out.below hb5 (Nat.le_refl _))
        have HB5 := hid (HB4.out.below hb5 (Nat.le_refl _))
        have HC5 := hid (HC4.out.below hb5 (Nat.le_refl _))
        have HW5 := hid (below_step HW4.out hb5)
        rw [smp_per HP.out] at hr5
        have HR5 := hid (hr5.trans HR2.out.symm)
        clear hb5 hr5 HA4 HB4 HC4 HW4
        go_wp2_with fail
        refine (samereal_eq _ _ HR5.out _).mono ?_
        rintro e w6 ⟨rfl, rfl⟩
        go_wp2_with fail
        refine (awake_any _).mono ?_
        rintro e w6 ⟨rfl, hb6⟩
        have HA6 := hid (HA5.out.below hb6 (Nat.le_refl _))
        have HB6 := hid (HB5.out.below hb6 (Nat.le_refl _))
        have HC6 := hid (HC5.out.below hb6 (Nat.le_refl _))
        have HW6 := hid (below_step HW5.out hb6)
        clear hb6 HA5 HB5 HC5 HW5 HR4 HR5
        cases htame : L.all fun t => midB t.1
        · clear htame HR2 HB6 HC6
          go_upto_region 25 with fail
          have HPA := hid HA6.out
          have HPW := hid HW6.out
          clear HA6 HW6
          obtain ⟨m, hm⟩ := Int.eq_ofNat_of_zero_le (Int.emod_nonneg n (show (100 : Int) ≠ 0 by decide))
          have hm100 : (m : Int) < 100 := by have := Int.emod_lt_of_pos n (show (0 : Int) < 100 by decide); omega
          obtain ⟨q, hq⟩ := Int.eq_ofNat_of_zero_le (Int.emod_nonneg f (show ((m : Int) + 1) ≠ 0 by omega))
          have hqm : (q : Int) < (m : Int) + 1 := by have := Int.emod_lt_of_pos f (show (0 : Int) < (m : Int) + 1 by omega); omega
          have HM := hid hm
          have HQ := hid hq
          clear hm hq
          go_wp2_with fail
          refine (pick_int n 100 _ (by omega) (by omega)).mono ?_
          rintro e w' ⟨rfl, rfl⟩
          rw [HM.out]
          go_wp2_with fail
          refine (pick_int f ((m : Int) + 1) _ (by omega) (by omega)).mono ?_
          rintro e w' ⟨rfl, rfl⟩
          rw [HQ.out]
          go_wp2_with fail
          refine (wrow_any _ L m _ HPA.out hL3).mono ?_
          rintro e w7 ⟨v7, k7, xa, rfl, hoa, hsa, hb7⟩
          rw [rowSpec_in L m (by omega)] at hsa
          obtain ⟨hsa1, hsa2⟩ := Prod.mk.inj hsa
          subst hsa2
          have hla : xa.length = m := by have := congrArg List.length hsa1; simpa [smps_len] using this
          subst hla
          obtain ⟨aa, ca, ha⟩ := (IsSl.of_own hoa).form
          subst ha
          have HPA7 := hid (HPA.out.below hb7 (Nat.le_refl _))
          have HX7 := hid (IsSl.of_own hoa)
          have hcap := own_cap hoa
          have HW7 := hid (below_step HPW.out hb7)
          have HSA1 := hid hsa1
          clear hoa hb7 hsa hsa1 HPA HPW
          go_wp2_with fail
          refine (wrow_any _ L q _ HPA7.out hL3).mono ?_
          rintro e w8 ⟨v8, k8, xb, rfl, hob, hsb, hb8⟩
          rw [rowSpec_in L q (by omega)] at hsb
          obtain ⟨hsb1, hsb2⟩ := Prod.mk.inj hsb
          subst hsb2
          have hlb : xb.length = q := by have := congrArg List.length hsb1; simpa [smps_len] using this
          obtain ⟨ab, cb, hb⟩ := (IsSl.of_own hob).form
          subst hb
          have HX8 := hid (HX7.out.below hb8 (Nat.le_refl _))
          have HY8 := hid (IsSl.of_own hob)
          have HW8 := hid (below_step HW7.out hb8)
          have hxt : (xa.take q).map fc = xb.map fc := by rw [List.map_take, HSA1.out, hsb1]; exact smps_take L (by omega)
          have HXT := hid hxt
          have HTK := hid (show IsSl w8 1 (.slice aa q ca) (xa.take q).length ((xa.take q).map (Value.float .f64)) by
            have := HX8.out.take (k := q) (by omega)
            rw [Nat.mul_one, ← List.map_take] at this
            rw [show (xa.take q).length = q by rw [List.length_take]; omega]; exact this)
          have hcapq : (q : Int) ≤ (ca : Int) := by omega
          have HLB := hid hlb
          clear hob hsb hsb1 hb8 hxt HX7 HPA7 HW7 hlb
          go_wp2_with fail
          refine (samereals_any _ _ (xa.take q) xb _ HTK.out HY8.out (by rw [List.length_take]; omega) (by rw [HLB.out]; omega)).mono ?_
          rintro e w' ⟨v9, n9, rfl, rfl, rfl⟩
          rw [HXT.out, beq_self_eq_true]
          have HRR := hid (show RRows ((w8.drewN n9).alloc (.cells #[.slice aa xa.length ca, .slice aa xa.length ca] 24)) (.slice (some ⟨w8.heap.size, 0, none⟩) 2 2) 2 (fun _ => .slice aa xa.length ca) (fun _ => xa) from
            ⟨sl_new (w := w8.drewN n9) (size := 1) (n := 2) (cs := #[.slice aa xa.length ca, .slice aa xa.length ca]) rfl rfl, fun j _ => HX8.out.below ((below_n (Below.refl _ w8) n9).alloc (Nat.le_refl _) _) (Nat.le_refl _)⟩)
          have HX9 := hid (HX8.out.below ((below_n (Below.refl _ w8) n9).alloc (Nat.le_refl _) (.cells #[.slice aa xa.length ca, .slice aa xa.length ca] 24)) (Nat.le_refl _))
          have HW9 := hid ((below_n HW8.out n9).alloc HW8.out.size (.cells #[.slice aa xa.length ca, .slice aa xa.length ca] 24))
          clear HXT HTK HY8 HX8 HW8
          go_wp2_with fail
          refine (wsum_any _ 2 _ _ _ HRR.out (by decide) (by intro j _; show xa.length ≤ _; omega)).mono ?_
          rintro e wz ⟨vz, kz, xz, rfl, hoz, hsz, hbz⟩
          rw [sum_two xa (by omega)] at hsz
          obtain ⟨hsz1, hsz2⟩ := Prod.mk.inj hsz
          subst hsz2
          have hlz : xz.length = xa.length := by have := congrArg List.length hsz1; simpa using this
          obtain ⟨az, cz, hz⟩ := (IsSl.of_own hoz).form
          subst hz
          have hslz := IsSl.of_own hoz
          rw [hlz] at hslz
          have HZ := hid hslz
          have HXZ := hid (HX9.out.below hbz (Nat.le_refl _))
          have HWZ := hid (below_step HW9.out hbz)
          have HSZ := hid hsz1
          have HLZ := hid hlz
          rw [hlz]
          clear hoz hbz hsz hsz1 hslz HX9 HW9 HRR hlz
          obtain ⟨wo2, rfl⟩ : ∃ wo2 : World, wo2 = wz := ⟨_, rfl⟩
          go_wp2_with fail
          refine wp_loop_rounds 1 ?_
          rw [rounds_succ]
          go_wp2_with fail
          all_goals (try rw [Exit.noGoto_ret])
          all_goals go_ret
          all_goals exact ⟨rfl, HWZ.out⟩
        · obtain ⟨U, hU⟩ : ∃ U : Nat, U = 1074 := ⟨_, rfl⟩
          obtain ⟨K, hK⟩ : ∃ K : Nat, K = 2045 := ⟨_, rfl⟩
          have HU := hid hU
          have HK := hid hK
          clear hU hK
          have HTL : Hid (TameL U L) := hid fun t ht => tame_of_mid U HU.out (List.all_eq_true.1 htame t ht)
          clear htame
          obtain ⟨s1, s2, s3, s4, s5⟩ := smp_half U HU.out K HK.out t0 L (by have := HLL.out; omega) HTL.out
          obtain ⟨_, u2, u3, _, u5⟩ := smp_twice U HU.out K HK.out t0 L (by have := HLL.out; omega) HTL.out
          obtain ⟨d1, d2, d3⟩ := mul_two_fin U HU.out K HK.out s1 s4
          obtain ⟨z1, z2, _, _⟩ := add_zero_fin K HK.out s1 fin_zero val_zero (fin_range U HU.out K HK.out (by rw [p976]; omega))
          obtain rfl : r2 = smp L t0 := eq_of_fc HR2.out s1
          have hSc : smp cs t0 = smp (L.map twice) t0 := by rw [← smp_tcan cs, HCS.out]
          have hSd := smp_five L t0
          have ho1 : FloatKind.f64.format.order (smp (L.map half) t0) (Op.negFloat .f64 (smp L t0)) = some .eq := ford_eq s2 (by rw [negf_eq, (FV.neg_fin _).1]; exact s1) (by rw [s3, negf_eq, (FV.neg_fin _).2.1, Int.neg_one_mul])
          have ho2 : FloatKind.f64.format.order (smp (L.map twice) t0) (fmul two64 (smp L t0)) = some .eq := ford_eq u2 d2 (by rw [u3, d3])
          have ho3 : FloatKind.f64.format.order (fadd (smp L t0) 0) (smp L t0) = some .eq := ford_eq z1 s1 z2
          have hm : ∀ w, (binOp .mul 63 (.float .f64 4611686018427387904) (.float .f64 (smp L t0))).run Try.prog w = .ok (.float .f64 (fmul two64 (smp L t0))) w := fun w => run_float_arith w .mul _ .f64 _ _ _ d1
          have hn := fun (x : Nat) (w : World) => run_negf (P := Try.prog) x w
          have hlc : cs.length ≤ 64 := by have := congrArg List.length HCS.out; simp at this; have := HLL.out; omega
          rw [← hSc] at ho2 u2
          rw [← hSd] at ho3 z1
          have HSB := hid s2
          have HSC := hid u2
          have HSD := hid z1
          clear s1 s2 s3 s4 s5 u2 u3 u5 d1 d2 d3 z1 z2 hSc hSd HR2 HCS
          obtain ⟨S, hS⟩ : ∃ S, smp L t0 = S := ⟨_, rfl⟩
          obtain ⟨Sb, hSb⟩ : ∃ S, smp (L.map half) t0 = S := ⟨_, rfl⟩
          obtain ⟨Sc, hSc⟩ : ∃ S, smp cs t0 = S := ⟨_, rfl⟩
          obtain ⟨Sd, hSd⟩ : ∃ S, smp (L ++ [five]) t0 = S := ⟨_, rfl⟩
          obtain ⟨M, hM⟩ : ∃ S, fmul two64 (smp L t0) = S := ⟨_, rfl⟩
          rw [hM] at ho2
          simp only [hM] at hm
          rw [hS] at ho1 ho3
          simp only [hS] at hm ⊢
          rw [hSb] at ho1
          rw [hSc] at ho2
          rw [hSd] at ho3
          have KB := hid hSb
          have KC := hid hSc
          have KD := hid hSd
          rw [hSb] at HSB
          rw [hSc] at HSC
          rw [hSd] at HSD
          clear hSb hSc hSd hM hS
          go_wp2_with fail
          refine (sample_lit _ (L.map half) t0 Sb _ HB6.out (by have := HLL.out; simp; omega) KB.out HSB.out).mono ?_
          rintro e wa ⟨rfl, hba⟩
          have HAa := hid (HA6.out.below hba (Nat.le_refl _))
          have HCa := hid (HC6.out.below hba (Nat.le_refl _))
          have HWa := hid (below_step HW6.out hba)
          clear hba HA6 HB6 HC6 HW6
          go_wp2_with fail
          refine (sample_lit _ cs t0 Sc _ HCa.out (by omega) KC.out HSC.out).mono ?_
          rintro e wb ⟨rfl, hbb⟩
          have HAb := hid (HAa.out.below hbb (Nat.le_refl _))
          have HWb := hid (below_step HWa.out hbb)
          clear hbb HAa HCa HWa
          go_wp2_with fail
          refine (gridtones_any _ L _ HAb.out (by have := HLL.out; omega)).mono ?_
          rintro e wg ⟨vg, xsg, rfl, hog, rfl, hbg⟩
          obtain ⟨ag, cg, hg⟩ := (IsSl.of_own hog).form
          subst hg
          have HAg := hid (HAb.out.below hbg (Nat.le_refl _))
          have HWg := hid (below_step HWb.out hbg)
          have HOG := hid hog
          have HBG := hid hbg
          have hsg := hbg.size
          have hlt64 := HLL.out
          clear hog hbg
          go_wp2_with (refine wpList_push_w rfl _ rfl rfl _ _ _ rfl rfl wb.heap.size 71 3 24 i0 (.agg #[.float .f64 0, .int .i64 0, .int .i64 0]) Try.underlying60 hi hz0 hz1 hz2 rfl (by decide) (by decide) _ L.length _ HOG.out hsg (.agg #[.float .f64 4617315517961601024, .int .i64 6, .int .i64 0]) rfl rfl (ta_one five) rfl rfl (by simp [maxLen]; omega) (by omega) ?_; intro g7 cap7 wh hown7 hlt7 hgr7)
          have hbh : Below wb.heap.size wb wh := by
            rcases hgr7 with ⟨e, hg⟩ | ⟨_, hg⟩
            · exact HBG.out.grown hg hsg (fun k e' => by cases e'; exact (HOG.out.lt _ e).1)
            · exact HBG.out.grown hg hsg (fun k e' => by cases e')
          have HAh := hid (HAb.out.below hbh (Nat.le_refl _))
          have HWh := hid (below_step HWb.out hbh)
          have HF := hid (show IsSl wh 3 (.slice (some ⟨g7, 0, none⟩) (L.length + 1) cap7) (L ++ [five]).length ((L ++ [five]).flatMap ta) by
            have := IsSl.of_own hown7
            rw [flat_snoc, show (L ++ [five]).length = L.length + 1 by simp]; exact this)
          clear hbh hown7 hgr7 HOG HBG HAb HWb HAg HWg
          refine (sample_lit _ (L ++ [five]) t0 Sd _ HF.out (by have := HLL.out; simp; omega) KD.out HSD.out).mono ?_
          rintro e wi ⟨rfl, hbi⟩
          have HAi := hid (HAh.out.below hbi (Nat.le_refl _))
          have HWi := hid (below_step HWh.out hbi)
          clear hbi HAh HWh HF
          go_upto_region 25 with fail
          have HPA := hid HAi.out
          have HPW := hid HWi.out
          clear HAi HWi
          obtain ⟨m, hm⟩ := Int.eq_ofNat_of_zero_le (Int.emod_nonneg n (show (100 : Int) ≠ 0 by decide))
          have hm100 : (m : Int) < 100 := by have := Int.emod_lt_of_pos n (show (0 : Int) < 100 by decide); omega
          obtain ⟨q, hq⟩ := Int.eq_ofNat_of_zero_le (Int.emod_nonneg f (show ((m : Int) + 1) ≠ 0 by omega))
          have hqm : (q : Int) < (m : Int) + 1 := by have := Int.emod_lt_of_pos f (show (0 : Int) < (m : Int) + 1 by omega); omega
          have HM := hid hm
          have HQ := hid hq
          clear hm hq
          go_wp2_with fail
          refine (pick_int n 100 _ (by omega) (by omega)).mono ?_
          rintro e w' ⟨rfl, rfl⟩
          rw [HM.out]
          go_wp2_with fail
          refine (pick_int f ((m : Int) + 1) _ (by omega) (by omega)).mono ?_
          rintro e w' ⟨rfl, rfl⟩
          rw [HQ.out]
          go_wp2_with fail
          refine (wrow_any _ L m _ HPA.out hL3).mono ?_
          rintro e w7 ⟨v7, k7, xa, rfl, hoa, hsa, hb7⟩
          rw [rowSpec_in L m (by omega)] at hsa
          obtain ⟨hsa1, hsa2⟩ := Prod.mk.inj hsa
          subst hsa2
          have hla : xa.length = m := by have := congrArg List.length hsa1; simpa [smps_len] using this
          subst hla
          obtain ⟨aa, ca, ha⟩ := (IsSl.of_own hoa).form
          subst ha
          have HPA7 := hid (HPA.out.below hb7 (Nat.le_refl _))
          have HX7 := hid (IsSl.of_own hoa)
          have hcap := own_cap hoa
          have HW7 := hid (below_step HPW.out hb7)
          have HSA1 := hid hsa1
          clear hoa hb7 hsa hsa1 HPA HPW
          go_wp2_with fail
          refine (wrow_any _ L q _ HPA7.out hL3).mono ?_
          rintro e w8 ⟨v8, k8, xb, rfl, hob, hsb, hb8⟩
          rw [rowSpec_in L q (by omega)] at hsb
          obtain ⟨hsb1, hsb2⟩ := Prod.mk.inj hsb
          subst hsb2
          have hlb : xb.length = q := by have := congrArg List.length hsb1; simpa [smps_len] using this
          obtain ⟨ab, cb, hb⟩ := (IsSl.of_own hob).form
          subst hb
          have HX8 := hid (HX7.out.below hb8 (Nat.le_refl _))
          have HY8 := hid (IsSl.of_own hob)
          have HW8 := hid (below_step HW7.out hb8)
          have hxt : (xa.take q).map fc = xb.map fc := by rw [List.map_take, HSA1.out, hsb1]; exact smps_take L (by omega)
          have HXT := hid hxt
          have HTK := hid (show IsSl w8 1 (.slice aa q ca) (xa.take q).length ((xa.take q).map (Value.float .f64)) by
            have := HX8.out.take (k := q) (by omega)
            rw [Nat.mul_one, ← List.map_take] at this
            rw [show (xa.take q).length = q by rw [List.length_take]; omega]; exact this)
          have hcapq : (q : Int) ≤ (ca : Int) := by omega
          have HLB := hid hlb
          clear hob hsb hsb1 hb8 hxt HX7 HPA7 HW7 hlb
          go_wp2_with fail
          refine (samereals_any _ _ (xa.take q) xb _ HTK.out HY8.out (by rw [List.length_take]; omega) (by rw [HLB.out]; omega)).mono ?_
          rintro e w' ⟨v9, n9, rfl, rfl, rfl⟩
          rw [HXT.out, beq_self_eq_true]
          have HRR := hid (show RRows ((w8.drewN n9).alloc (.cells #[.slice aa xa.length ca, .slice aa xa.length ca] 24)) (.slice (some ⟨w8.heap.size, 0, none⟩) 2 2) 2 (fun _ => .slice aa xa.length ca) (fun _ => xa) from
            ⟨sl_new (w := w8.drewN n9) (size := 1) (n := 2) (cs := #[.slice aa xa.length ca, .slice aa xa.length ca]) rfl rfl, fun j _ => HX8.out.below ((below_n (Below.refl _ w8) n9).alloc (Nat.le_refl _) _) (Nat.le_refl _)⟩)
          have HX9 := hid (HX8.out.below ((below_n (Below.refl _ w8) n9).alloc (Nat.le_refl _) (.cells #[.slice aa xa.length ca, .slice aa xa.length ca] 24)) (Nat.le_refl _))
          have HW9 := hid ((below_n HW8.out n9).alloc HW8.out.size (.cells #[.slice aa xa.length ca, .slice aa xa.length ca] 24))
          clear HXT HTK HY8 HX8 HW8
          go_wp2_with fail
          refine (wsum_any _ 2 _ _ _ HRR.out (by decide) (by intro j _; show xa.length ≤ _; omega)).mono ?_
          rintro e wz ⟨vz, kz, xz, rfl, hoz, hsz, hbz⟩
          rw [sum_two xa (by omega)] at hsz
          obtain ⟨hsz1, hsz2⟩ := Prod.mk.inj hsz
          subst hsz2
          have hlz : xz.length = xa.length := by have := congrArg List.length hsz1; simpa using this
          obtain ⟨az, cz, hz⟩ := (IsSl.of_own hoz).form
          subst hz
          have hslz := IsSl.of_own hoz
          rw [hlz] at hslz
          have HZ := hid hslz
          have HXZ := hid (HX9.out.below hbz (Nat.le_refl _))
          have HWZ := hid (below_step HW9.out hbz)
          have HSZ := hid hsz1
          have HLZ := hid hlz
          rw [hlz]
          clear hoz hbz hsz hsz1 hslz HX9 HW9 HRR hlz
          obtain ⟨wo2, rfl⟩ : ∃ wo2 : World, wo2 = wz := ⟨_, rfl⟩
          go_wp2_with fail
          obtain ⟨iF, hiF, hF0, hF1, hF2⟩ := info_parts infoF
          go_loopw [23] (fun i wr => ∃ (j n' : Nat), j ≤ xa.length ∧ i = .int .i64 j ∧ wr = wo2.drewN n') (fun i _ => xa.length - (intOf i).toNat)
          case atStart => exact ⟨0, 0, by omega, rfl, rfl⟩
          case round =>
            obtain ⟨j, n', hj, rfl, hwr⟩ := hrel
            have hz1 : IsSl wr 1 (.slice az xa.length cz) xa.length (xz.map (Value.float .f64)) := by rw [hwr]; exact HZ.out
            have hx1 : IsSl wr 1 (.slice aa xa.length ca) xa.length (xa.map (Value.float .f64)) := by rw [hwr]; exact HXZ.out
            have HWR := hid hwr
            clear hwr
            by_cases hjl : j < xa.length
            · obtain ⟨g1, o1, y1, hid1, hg1, hcell1, hy1⟩ := IsSl.at1 Try.underlying24 hiF hF1 hz1 hjl
              obtain ⟨g2, o2, y2, hid2, hg2, hcell2, hy2⟩ := IsSl.at1 Try.underlying24 hiF hF1 hx1 hjl
              obtain ⟨b1, hb1, rfl⟩ := map_getElem? hy1
              obtain ⟨b2, hb2, rfl⟩ := map_getElem? hy2
              have hx := row_elem HSA1.out hb2 hjl
              obtain ⟨s1, s2, s3, s4, s5⟩ := smp_half U HU.out K HK.out (j : Int) L (by have := HLL.out; omega) HTL.out
              have hbx : b2 = smp L j := eq_of_fc hx s1
              have hz := sum_elem HSZ.out hb1 hb2 hjl
              rw [hbx, fin_fc s1] at hz
              obtain ⟨d1, d2, d3⟩ := mul_two_fin U HU.out K HK.out s1 s4
              obtain ⟨a1', a2'⟩ := add_two_fin U HU.out K HK.out s1 s4
              have hb1' : b1 = fadd (fadd 0 (smp L j)) (smp L j) := eq_of_fc hz a1'
              have ho : FloatKind.f64.format.order b1 (fmul two64 b2) = some .eq := by rw [hb1', hbx]; exact ford_eq a1' d2 (by rw [a2', d3])
              have hmul : ∀ w, (binOp .mul 63 (.float .f64 4611686018427387904) (.float .f64 b2)).run Try.prog w = .ok (.float .f64 (fmul two64 b2)) w := fun w => run_float_arith w .mul _ .f64 _ _ _ (by rw [hbx]; exact d1)
              clear hx hbx hz hb1' s1 s2 s3 s4 s5 d1 d2 d3 a1' a2' hb1 hb2 hy1 hy2 hz1 hx1
              go_wp2_with fail
              go_quiet (fail)
              go_wp2_with fail
              go_roundw
              case rel => exact ⟨j + 1, nq + n', by omega, by go_num, by rw [HWR.out]; simp [World.drewN_drewN, Nat.add_comm]⟩
              case measure => simp [intOf]; omega
            · go_wp2_with fail
              (try rw [Exit.noGoto_ret])
              go_ret
              exact ⟨rfl, by rw [HWR.out]; exact below_n HWZ.out _⟩
end Go.Proofs.Ytlgfpfjfoajjbaa
