/- a part of the proof of the last text -/
import Derived.Test.YtdepiggjneoopaaGreatDoorZPp
namespace Go.Proofs.YtdepiggjneoopaaGreatDoor
set_option linter.all false
set_option maxHeartbeats 4000000
set_option maxRecDepth 100000
open Go.RowKit
/-- Are both parts equal to 0? -/
def czero (z : Cx) : Bool := ford z.1 0 == some .eq && ford z.2 0 == some .eq
/-- The sum of the sizes of the parts. -/
def csize1 (z : Cx) : Nat := fadd (fsize z.1) (fsize z.2)
def cgt (x y : Cx) : Bool := ford (csize1 x) (csize1 y) == some .gt
theorem ford_zero (x : Nat) : FloatKind.f64.format.order x 0 = ford (fc x) 0 := by
  show ford x 0 = _
  have e0 : fc 0 = 0 := fc_of_not (by decide +kernel)
  conv => rhs; rw [← e0]
  rw [ford_fc]
set_option maxHeartbeats 400000 in
theorem pzero_any (a b : Nat) (w : World) :
    Calls Tryz.prog 77 #[.complex .f64 a b] w fun e w' => e = .returned (.bool (czero (fc a, fc b))) ∧ w = w' := by
  unfold czero
  dsimp only
  rw [← ford_zero, ← ford_zero]
  go_enter Tryz.func77, Tryz.ntmps77
  cases h : (FloatKind.f64.format.order a 0 == some .eq)
  all_goals go_wp2
  all_goals go_ret
  all_goals exact ⟨by simp [*], rfl⟩
set_option maxHeartbeats 400000 in
theorem psize1_any (a b : Nat) (w : World) :
    Calls Tryz.prog 175 #[.complex .f64 a b] w (Ret (IsF (csize1 (fc a, fc b))) w) := by
  go_enter Tryz.func175, Tryz.ntmps175
  go_wp2_with (first | (refine wpList_float rfl _ _ _ _ _ rfl rfl _ _ rfl rfl ?_; intro _ _ _) | (go_at_call 108; refine (psize_any _ _).mono ?_; rintro e w' ⟨rfl, rfl⟩))
  go_ret
  refine ⟨_, _, rfl, rfl, _, rfl, ?_⟩
  rename_i h
  rw [h]
  unfold csize1 fadd
  dsimp only
  rw [← fop_fc .add (fsize (fc a)), fc_fsize, fc_fsize]
theorem pfin_b (a b : Nat) (w : World) : Calls Tryz.prog 41 #[.complex .f64 a b] w fun e w' => e = .returned (.bool (cfin (fc a, fc b))) ∧ Below w.heap.size w w' :=
  (pfin_any a b w).mono fun _ _ ⟨v, n, he, hw, hv⟩ => ⟨by rw [he, hv], by rw [hw]; exact below_n (Below.refl _ _) n⟩
theorem psize1_b (a b : Nat) (w : World) : Calls Tryz.prog 175 #[.complex .f64 a b] w (RetB (IsF (csize1 (fc a, fc b))) w) :=
  (psize1_any a b w).mono fun _ _ ⟨v, n, he, hw, hv⟩ => ⟨v, he, by rw [hw]; exact below_n (Below.refl _ _) n, hv⟩
/-- What choosing has come to behind m places from k on: the best, whether all were 0; none: one is not finite. -/
def chS (c : List Cx) (k : Nat) : Nat → Option (Nat × Bool)
  | 0 => some (k, true)
  | m + 1 => match chS c k m with
    | none => none
    | some s => if cfin (c.getD (k + m) (0, 0)) then some (if cgt (c.getD (k + m) (0, 0)) (c.getD s.1 (0, 0)) then k + m else s.1, s.2 && czero (c.getD (k + m) (0, 0))) else none
theorem chS_none {c : List Cx} {k m : Nat} (h : chS c k m = none) : ∀ j, chS c k (m + j) = none
  | 0 => h
  | j + 1 => by
    show chS c k (m + j + 1) = none
    unfold chS
    rw [chS_none h j]
def chooseS (c : List Cx) (k : Nat) : Int × Int :=
  match chS c k (c.length - k) with
  | none => (0, 5)
  | some s => if s.2 then (0, 7) else (s.1, 0)
theorem choose_none {c : List Cx} {k m : Nat} (h : chS c k m = none) (hm : k + m ≤ c.length) : chooseS c k = (0, 5) := by
  unfold chooseS
  have := chS_none h (c.length - k - m)
  rw [show m + (c.length - k - m) = c.length - k by omega] at this
  rw [this]
/-- A place, and an error. -/
def RetIE (S : Int × Int) (w : World) (en : Ending) (w' : World) : Prop := ∃ b e, en = .returned (.tuple #[.int .i64 b, .int .i64 e]) ∧ (b, e) = S ∧ Below w.heap.size w w'
theorem getD_ck (c : List Cx) (i : Nat) (x : Cx) (h : c[i]? = some x) : (c.map ck).getD i (0, 0) = ck x := by
  rw [List.getD_eq_getElem?_getD, List.getElem?_map, h]; rfl
set_option maxRecDepth 100000 in
set_option maxHeartbeats 2000000 in
theorem choose_any (v : Value) (c : List Cx) (k : Nat) (w : World) (hv : IsSl w 1 v c.length (c.map mkC)) (hl : c.length ≤ 64) (hk : k < c.length) :
    Calls Tryz.prog 155 #[v, .int .i64 k] w (RetIE (chooseS (c.map ck) k) w) := by
  obtain ⟨a, cap, rfl⟩ := hv.form
  obtain ⟨i0, hi, hz0, hz1, hz2⟩ := info_parts infoC
  have h0 : ¬ (64 : Int) < (c.length : Int) := by omega
  have h1 : ¬ (k : Int) < 0 := by omega
  have h2 : ¬ (c.length : Int) ≤ (k : Int) := by omega
  have HV := hid hv
  clear hv
  go_enter Tryz.func155, Tryz.ntmps155
  go_wp2
  go_loopw [6, 7, 8] (fun b z i wr => ∃ (p bb : Nat) (zz : Bool), k ≤ p ∧ p ≤ c.length ∧ i = .int .i64 p ∧ b = .int .i64 bb ∧ z = .bool zz ∧ chS (c.map ck) k (p - k) = some (bb, zz) ∧ bb < c.length ∧ Below w.heap.size w wr) (fun _ _ i _ => c.length - (intOf i).toNat)
  case atStart => exact ⟨k, k, true, Nat.le_refl _, by omega, rfl, rfl, rfl, by rw [Nat.sub_self]; rfl, hk, Below.refl _ _⟩
  case round =>
    obtain ⟨p, bb, zz, hkp, hm, rfl, rfl, rfl, hch, hbb, hb⟩ := hrel
    have hpk : k + (p - k) = p := by omega
    obtain ⟨wo, rfl⟩ : ∃ wo : World, wo = wr := ⟨_, rfl⟩
    have HB := hid hb
    have HCH := hid hch
    have HVO := hid (HV.out.below hb (Nat.le_refl _))
    clear hb hch
    by_cases hlt : p < c.length
    · obtain ⟨g1, o1, x0, hidx1, hg1, hc1, hx1⟩ := IsSl.at1 Tryz.underlying41 hi hz1 HVO.out hlt
      obtain ⟨x, hx, rfl⟩ := map_getElem? hx1
      obtain ⟨g2, o2, y0, hidx2, hg2, hc2, hy1⟩ := IsSl.at1 Tryz.underlying41 hi hz1 HVO.out hbb
      obtain ⟨y, hy, rfl⟩ := map_getElem? hy1
      have HX := hid (getD_ck c _ x hx)
      have HY := hid (getD_ck c _ y hy)
      unfold mkC at hc1 hc2
      clear hx hy hx1 hy1
      cases hf : cfin (fc x.1, fc x.2)
      · have HF := hid hf
        clear hf
        go_wp2_with (go_at_call 41; refine (pfin_b _ _ _).mono ?_; rintro e w1 ⟨rfl, hb1⟩; rw [HF.out])
        (try simp only [Exit.inBlock, Exit.then])
        (try rw [Exit.noGoto_ret])
        refine bodyPost_ret (v := .tuple #[.int .i64 0, .int .i64 5]) ?_ rfl ⟨0, 5, rfl, ?_, below_step HB.out (by assumption)⟩
        · rw [results_tmp2 rfl]; rfl
        · refine (choose_none (m := p - k + 1) ?_ (by rw [List.length_map]; omega)).symm
          unfold chS
          rw [HCH.out]
          dsimp only
          rw [hpk, HX.out, show cfin (ck x) = false from HF.out]; rfl
      · have HF := hid hf
        clear hf
        cases zz
        all_goals
          go_upto_region 13 with (first | (go_at_call 41; refine (pfin_b _ _ _).mono ?_; rintro e w1 ⟨rfl, hb1⟩; rw [HF.out]; have HB1 := hid hb1; have c1 := cell_later hb1 hc1; have c2 := cell_later hb1 hc2; clear hb1) | (go_at_call 77; refine (pzero_any _ _ _).mono ?_; rintro e w' ⟨rfl, rfl⟩))
          clear hc1 hc2
          go_region_held3 (fun w' => Below w1.heap.size w1 w' ∧ w'.cell? ⟨g1, o1, none⟩ = some (.complex .f64 x.1 x.2) ∧ w'.cell? ⟨g2, o2, none⟩ = some (.complex .f64 y.1 y.2))
            (((try dsimp only); (try go_split_ands); refine ⟨?_, ?_, ?_⟩ <;> (first | with_reducible exact below_step (by assumption) hb | with_reducible exact cell_later hb (by assumption) | with_reducible exact (Below.refl _ _).drew | with_reducible assumption | (go_keep; done))))
            ((go_at_call 175; refine (psize1_b _ _ _).mono ?_; rintro en w' ⟨v, rfl, hb, r, rfl, hr⟩; have HR := hid hr; clear hr))
          rename_i wa hba r1 HR1 hH
          obtain ⟨w6, rfl⟩ : ∃ w6 : World, w6 = w' := ⟨_, rfl⟩
          clear hb hba
          obtain ⟨hb, -⟩ := hH
          have HB6 := hid (below_step HB.out (below_step HB1.out hb))
          clear hb
          have hgt : (FloatKind.f64.format.order r1 r == some .gt) = cgt (ck x) (ck y) := by
            show (ford r1 r == _) = _
            rw [← ford_fc, HR1.out, HR.out]; rfl
          (try simp only [Exit.inBlock, Exit.then])
          go_wp2_with fail
          all_goals
            rename_i hq
            rw [hgt] at hq
            have HG := hid hq
            clear hq
            go_roundw
            case rel =>
              refine ⟨p + 1, _, _, by omega, by omega, by go_num, rfl, rfl, ?_, ?_, HB6.out⟩
              · rw [show p + 1 - k = (p - k) + 1 by omega]
                unfold chS
                rw [HCH.out]
                dsimp only
                rw [hpk, HX.out, HY.out, if_pos (show cfin (ck x) = true from HF.out), HG.out]
                rfl
              · omega
            case measure => simp [intOf]; omega
    · obtain rfl : p = c.length := by omega
      have hs : chooseS (c.map ck) k = if zz then (0, 7) else ((bb : Int), 0) := by
        unfold chooseS
        rw [List.length_map, HCH.out]
      have HS := hid hs
      clear hs
      cases zz
      · go_wp2_with fail
        (try simp only [Exit.inBlock, Exit.then])
        (try rw [Exit.noGoto_ret])
        refine bodyPost_ret (v := .tuple #[.int .i64 bb, .int .i64 0]) ?_ rfl ⟨bb, 0, rfl, (show ((bb : Int), (0 : Int)) = chooseS (c.map ck) k by rw [HS.out]; rfl), HB.out⟩
        rw [results_tmp2 rfl]; rfl
      · go_wp2_with fail
        (try simp only [Exit.inBlock, Exit.then])
        (try rw [Exit.noGoto_ret])
        refine bodyPost_ret (v := .tuple #[.int .i64 0, .int .i64 7]) ?_ rfl ⟨0, 7, rfl, (show ((0 : Int), (7 : Int)) = chooseS (c.map ck) k by rw [HS.out]; rfl), HB.out⟩
        rw [results_tmp2 rfl]; rfl
end Go.Proofs.YtdepiggjneoopaaGreatDoor
