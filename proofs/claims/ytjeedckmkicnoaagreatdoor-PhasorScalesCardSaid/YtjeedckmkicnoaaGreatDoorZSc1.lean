/- a part of the proof of the last text -/
import Derived.Test.YtjeedckmkicnoaaGreatDoorZSc0
namespace Go.Proofs.YtjeedckmkicnoaaGreatDoor
set_option linter.all false
set_option maxHeartbeats 4000000
set_option maxRecDepth 100000
open Go.RowKit
/-- A net with changed sources; or none: one is not finite. -/
def RetSca (R : World → Value → List El → Prop) (f : Nat → Nat) (l : List El) (w : World) (e : Ending) (w' : World) : Prop :=
  (srcsS f l = true ∧ ∃ g : Nat, e = .returned (.tuple #[.pointer (some ⟨g, 0, none⟩), .int .i64 0]) ∧ R w' (.pointer (some ⟨g, 0, none⟩)) (l.map (chg f)) ∧ Below w.heap.size w w') ∨
  (srcsS f l = false ∧ e = .returned (.tuple #[.pointer none, .int .i64 6]) ∧ Below w.heap.size w w')
theorem RetSca.form {R : World → Value → List El → Prop} {f : Nat → Nat} {l : List El} {w w' : World} {e : Ending} (h : RetSca R f l w e w') : ∃ q k, e = .returned (.tuple #[q, .int .i64 k]) ∧ Below w.heap.size w w' := by
  rcases h with ⟨_, g, rfl, _, hb⟩ | ⟨_, rfl, hb⟩
  · exact ⟨_, _, rfl, hb⟩
  · exact ⟨_, _, rfl, hb⟩
theorem RetSca.base {R : World → Value → List El → Prop} {f : Nat → Nat} {l : List El} {w w1 w' : World} {e : Ending} (h : RetSca R f l w1 e w') (hb : Below w.heap.size w w1) : RetSca R f l w e w' := by
  rcases h with ⟨h1, g, h2, h3, h4⟩ | ⟨h1, h2, h4⟩
  · exact .inl ⟨h1, g, h2, h3, below_next hb h4⟩
  · exact .inr ⟨h1, h2, below_next hb h4⟩
theorem fin_eq {r : Nat} (h : ffin r = true) : r = fc r := by
  cases hn : fnan r
  · exact (fc_of_not hn).symm
  · exfalso
    unfold ffin fsub at h
    rw [show fop .sub r r = qnan by unfold fop; rw [bits_nan_left hn]; rfl] at h
    exact absurd h (by decide +kernel)
/-- A net with sources so many times as great; the error. -/
def RetScl (R : World → Value → List El → Prop) (by_ : Nat) (l : List El) (w : World) (e : Ending) (w' : World) : Prop :=
  (ffin (fc by_) = false ∧ e = .returned (.tuple #[.pointer none, .int .i64 5]) ∧ Below w.heap.size w w') ∨ (ffin (fc by_) = true ∧ RetSca R (fun v => fmul v (fc by_)) l w e w')
theorem RetScl.no {R : World → Value → List El → Prop} {by_ : Nat} {l : List El} {w w' : World} (h : ffin (fc by_) = false) (hb : Below w.heap.size w w') : RetScl R by_ l w (.returned (.tuple #[.pointer none, .int .i64 5])) w' := .inl ⟨h, rfl, hb⟩
theorem RetScl.yes {R : World → Value → List El → Prop} {by_ : Nat} {l : List El} {w w' : World} {e : Ending} (h : ffin (fc by_) = true) (hr : RetSca R (fun v => fmul v (fc by_)) l w e w') : RetScl R by_ l w e w' := .inr ⟨h, hr⟩
theorem fsub_neq {r : Nat} {w : World} {b : Bool} (h : ffin r = b) : (FloatKind.f64.format.order (fval .sub r r w) 0 != some .eq) = !b := neq_fin (x := r) (fc_fval .sub r r w) (by rw [ffin_fc]; exact h)
theorem quiet1_any (v : Nat) (w : World) : Calls Tryz.prog 36 #[.float .f64 v] w fun e w' => ∃ r n, e = .returned (.float .f64 r) ∧ w' = w.drewN n ∧ fc r = (fun _ => 0) (fc v) := by
  go_enter Tryz.func36, Tryz.ntmps36
  go_wp2
  (try rw [Exit.noGoto_ret])
  go_ret
  exact ⟨0, 0, rfl, rfl, fc_zero⟩
theorem enter_q1 (args : Array Value) (w : World) : (callFunc 36 args).run Tryz.prog w = .ok (.enter 36 args) w := by
  have h : (Tryz.f36.name == "runtime.NumGoroutine") = false := by kernel_rfl
  have h2 : Tryz.f36.body.isNone = false := by kernel_rfl
  simp only [callFunc, Sem.run_bind, run_program, Result.andThen_ok, Tryz.func36, h, h2, Bool.false_eq_true, if_false, Sem.run_pure]
set_option maxRecDepth 100000 in
set_option maxHeartbeats 4000000 in
theorem sourcesQ_any (p : Value) (l : List El) (w : World) (hp : NN w p l) (hob : (ofL l).1 = true) (hok : ∀ x ∈ l, x.Ok) :
    Calls Tryz.prog 35 #[p, .func (.func 36) #[] #[]] w (RetSca NN (fun _ => 0) l w) := by
  obtain ⟨ie, hie, he0, he1, he2⟩ := info_parts infoEa
  have HP := hid hp
  have HNG := hid (netg_of hob hok)
  have HOB := hid hob
  have HOK := hid hok
  have HLEN := hid (show l.length ≤ 256 from (netg_of hob hok).len)
  clear hp hob hok
  go_enter Tryz.func35, Tryz.ntmps35
  go_upto_region 2 with (go_at_call 15; refine (nelements_any p l _ HP.out (by have := HLEN.out; omega)).mono ?_; rintro e w1 ⟨v, ws, rfl, hown, rfl, hb⟩; have HOW := hid hown; have HB := hid hb; obtain ⟨ao, co, rfl⟩ := (IsSl.of_own hown).form; clear hown hb)
  clear HP
  go_wp2
  go_loopw [14] (fun i wr => ∃ k : Nat, k ≤ l.length ∧ i = .int .i64 k ∧ wr.ownsRow w.heap.size 81 8 (.slice ao l.length co) l.length ((mixS (fun _ => 0) l k).flatMap ea) ∧ srcsS (fun _ => 0) (l.take k) = true ∧ Below w.heap.size w wr) (fun i _ => l.length - (intOf i).toNat)
  case atStart => exact ⟨0, Nat.zero_le _, rfl, by rw [mix_zero]; exact HOW.out, rfl, HB.out⟩
  case round =>
    obtain ⟨k, hk, rfl, hown, hsr, hb⟩ := hrel
    obtain ⟨wo, rfl⟩ : ∃ wo : World, wo = wr := ⟨_, rfl⟩
    have HO := hid hown
    have HBW := hid hb
    have HSR := hid hsr
    have hg0 := HLEN.out
    clear hown hb hsr
    by_cases hlt : k < l.length
    · obtain ⟨x, hx⟩ : ∃ x, l[k]? = some x := ⟨_, List.getElem?_eq_getElem hlt⟩
      have HXK := hid hx
      obtain ⟨ga, rfl⟩ : ∃ ga, ao = some ⟨ga, 0, none⟩ := by
        rcases HO.out.2 with ⟨h1, h2⟩ | ⟨g, cap, cur, h1, _⟩
        · omega
        · cases h1; exact ⟨g, rfl⟩
      obtain ⟨hidx, hcell, hfr⟩ := own_atF Tryz.underlying37 hie he1 HO.out (mix_len _ _ _) (mix_at (f := (fun _ => 0)) hx)
      have c0 := hcell 0 _ rfl
      have c6 := hcell 6 _ rfl
      rw [Nat.add_zero] at c0
      clear hcell hx
      rcases srcv_ways x.kind with ⟨q0, q1, _⟩ | ⟨q0, q1, _, q2, _⟩ | ⟨q1, q1', q2, q2'⟩
      rotate_left 2
      · have hs : isSrc x = false := by unfold isSrc; rw [q1', q2']; rfl
        have HS := hid hs
        clear hs q1' q2'
        go_wp2_with fail
        go_roundw
        case rel => exact ⟨k + 1, by omega, by go_num, by rw [mix_same HXK.out HS.out]; exact HO.out, srcs_take HXK.out HSR.out (.inl HS.out), HBW.out⟩
        case measure => simp [intOf]; omega
      all_goals
        have HS := hid (show isSrc x = true by unfold isSrc; rw [q0]; rfl)
        clear q0
        have f6 := hfr (k * 8 + 6)
        go_upto_region 7 with (first | (go_at_call 36; refine (quiet1_any x.val _).mono ?_; rintro e wq ⟨r, n, rfl, hwq, hr⟩; have HR := hid hr; have HOA := hid (show wq.ownsRow w.heap.size 81 8 (.slice (some ⟨ga, 0, none⟩) l.length co) l.length ((mixS (fun _ => 0) l k).flatMap ea) by rw [hwq]; exact HO.out); have HBA := hid (show Below w.heap.size w wq by rw [hwq]; exact below_n HBW.out n); replace f6 : wq.frozen? ⟨ga, k * 8 + 6, none⟩ = false := (by rw [hwq]; exact f6); replace c6 : wq.cell? ⟨ga, k * 8 + 6, none⟩ = some (.float .f64 x.val) := (by rw [hwq]; exact c6); clear hwq hr) | (go_simp; refine (quiet1_any x.val _).mono ?_; rintro e wq ⟨r, n, rfl, hwq, hr⟩; have HR := hid hr; have HOA := hid (show wq.ownsRow w.heap.size 81 8 (.slice (some ⟨ga, 0, none⟩) l.length co) l.length ((mixS (fun _ => 0) l k).flatMap ea) by rw [hwq]; exact HO.out); have HBA := hid (show Below w.heap.size w wq by rw [hwq]; exact below_n HBW.out n); replace f6 : wq.frozen? ⟨ga, k * 8 + 6, none⟩ = false := (by rw [hwq]; exact f6); replace c6 : wq.cell? ⟨ga, k * 8 + 6, none⟩ = some (.float .f64 x.val) := (by rw [hwq]; exact c6); clear hwq hr))
        clear c0 c6 f6 q1 hidx hfr
        (try clear q2)
        have HGE := hid (HO.out.lt _ rfl)
        have HOQ : Hid ((wq.setCell ⟨ga, k * 8 + 6, none⟩ (.float .f64 r)).ownsRow w.heap.size 81 8 (.slice (some ⟨ga, 0, none⟩) l.length co) l.length (((mixS (fun _ => 0) l k).set k (setV x r)).flatMap ea)) := hid (by
          rw [flat_setV (mix_at HXK.out) r]
          exact own_put8 HOA.out rfl (by omega))
        have HBQ := hid (HBA.out.setCell (p := ⟨ga, k * 8 + 6, none⟩) HGE.out.1 (.float .f64 r))
        have HXS := hid (show ((mixS (fun _ => 0) l k).set k (setV x r))[k]? = some (setV x r) by rw [List.getElem?_set_self (by rw [mix_len]; exact hlt)])
        clear HOA HBA
        generalize (wq.setCell ⟨ga, k * 8 + 6, none⟩ (.float .f64 r)) = w5 at *
        refine wp_region_any (by kernel_rfl) ?_
        change wpAny _ _ _ _ _ _ _ (World.drew _)
        refine wpAny_makersD [⟨some 42, 0, []⟩, ⟨some 43, 1, []⟩, ⟨some 44, 2, []⟩, ⟨some 45, 3, []⟩, ⟨some 46, 4, []⟩, ⟨some 47, 5, []⟩, ⟨some 48, 6, []⟩, ⟨some 49, 7, []⟩, ⟨some 50, 8, []⟩, ⟨some 51, 9, []⟩]
          (fun w' => w'.ownsRow w.heap.size 81 8 (.slice (some ⟨ga, 0, none⟩) l.length co) l.length (((mixS (fun _ => 0) l k).set k (setV x r)).flatMap ea))
          (fun oq v _ _ _ _ => match oq with | 0 => v = .slice (some ⟨ga, 0, none⟩) l.length co | 1 => v = .int .i64 k | 2 => v = .pointer (some ⟨ga, k * 8, none⟩) | 3 => v = .pointer (some ⟨ga, k * 8 + 6, none⟩) | 4 => v = .float .f64 r | 5 => v = .slice (some ⟨ga, 0, none⟩) l.length co | 6 => v = .int .i64 k | 7 => v = .pointer (some ⟨ga, k * 8, none⟩) | 8 => v = .pointer (some ⟨ga, k * 8 + 6, none⟩) | 9 => v = .float .f64 r | _ => True) (by kernel_rfl) ?hSl (fun _ _ hb h => own_none h (grown_of_below hb none)) (fun _ _ _ _ _ _ _ _ _ h => h) ?hopl ?hendl
        case hSl => exact own_none HOQ.out (grown_of_below (Below.refl _ _).drew none)
        case hopl =>
          delta Owed
          simp only [fillD, Act.put, List.setIfInBounds_toArray, List.set_cons_zero, List.set_cons_succ]
          refine Each.cons rfl ?_ (Each.cons rfl ?_ (Each.cons rfl ?_ (Each.cons rfl ?_ (Each.cons rfl ?_ (Each.cons rfl ?_ (Each.cons rfl ?_ (Each.cons rfl ?_ (Each.cons rfl ?_ (Each.cons rfl ?_ Each.nil)))))))))
          · intro vs w2 hb2 hS2 hR2 K hK
            simp only [List.set_cons_zero, List.set_cons_succ] at hK ⊢
            go_simp
            exact hK.out _ _ (Below.refl _ _) rfl
          · intro vs w2 hb2 hS2 hR2 K hK
            simp only [List.set_cons_zero, List.set_cons_succ] at hK ⊢
            go_simp
            exact hK.out _ _ (Below.refl _ _) rfl
          · intro vs w2 hb2 hS2 hR2 K hK
            have h0 : vs 0 = .slice (some ⟨ga, 0, none⟩) l.length co := by obtain ⟨_, _, _, h⟩ := hR2 0 (by kernel_rfl); exact h
            have h1 : vs 1 = .int .i64 k := by obtain ⟨_, _, _, h⟩ := hR2 1 (by kernel_rfl); exact h
            simp only [List.set_cons_zero, List.set_cons_succ] at hK ⊢
            obtain ⟨k0, hcl, _⟩ := own_atF Tryz.underlying37 hie he1 hS2 (by rw [List.length_set, mix_len]) HXS.out
            have k6 := hcl 6 _ rfl
            simp only [h0, h1] at hK ⊢
            go_simp
            exact hK.out _ _ (Below.refl _ _) rfl
          · intro vs w2 hb2 hS2 hR2 K hK
            have h2 : vs 2 = .pointer (some ⟨ga, k * 8, none⟩) := by obtain ⟨_, _, _, h⟩ := hR2 2 (by kernel_rfl); exact h
            simp only [List.set_cons_zero, List.set_cons_succ] at hK ⊢
            simp only [h2] at hK ⊢
            go_simp
            exact hK.out _ _ (Below.refl _ _) rfl
          · intro vs w2 hb2 hS2 hR2 K hK
            have h3 : vs 3 = .pointer (some ⟨ga, k * 8 + 6, none⟩) := by obtain ⟨_, _, _, h⟩ := hR2 3 (by kernel_rfl); exact h
            simp only [List.set_cons_zero, List.set_cons_succ] at hK ⊢
            obtain ⟨k0, hcl, _⟩ := own_atF Tryz.underlying37 hie he1 hS2 (by rw [List.length_set, mix_len]) HXS.out
            have k6 := hcl 6 _ rfl
            simp only [h3] at hK ⊢
            go_simp
            exact hK.out _ _ (Below.refl _ _) rfl
          · intro vs w2 hb2 hS2 hR2 K hK
            simp only [List.set_cons_zero, List.set_cons_succ] at hK ⊢
            go_simp
            exact hK.out _ _ (Below.refl _ _) rfl
          · intro vs w2 hb2 hS2 hR2 K hK
            simp only [List.set_cons_zero, List.set_cons_succ] at hK ⊢
            go_simp
            exact hK.out _ _ (Below.refl _ _) rfl
          · intro vs w2 hb2 hS2 hR2 K hK
            have h5 : vs 5 = .slice (some ⟨ga, 0, none⟩) l.length co := by obtain ⟨_, _, _, h⟩ := hR2 5 (by kernel_rfl); exact h
            have h6 : vs 6 = .int .i64 k := by obtain ⟨_, _, _, h⟩ := hR2 6 (by kernel_rfl); exact h
            simp only [List.set_cons_zero, List.set_cons_succ] at hK ⊢
            obtain ⟨k0, hcl, _⟩ := own_atF Tryz.underlying37 hie he1 hS2 (by rw [List.length_set, mix_len]) HXS.out
            have k6 := hcl 6 _ rfl
            simp only [h5, h6] at hK ⊢
            go_simp
            exact hK.out _ _ (Below.refl _ _) rfl
          · intro vs w2 hb2 hS2 hR2 K hK
            have h7 : vs 7 = .pointer (some ⟨ga, k * 8, none⟩) := by obtain ⟨_, _, _, h⟩ := hR2 7 (by kernel_rfl); exact h
            simp only [List.set_cons_zero, List.set_cons_succ] at hK ⊢
            simp only [h7] at hK ⊢
            go_simp
            exact hK.out _ _ (Below.refl _ _) rfl
          · intro vs w2 hb2 hS2 hR2 K hK
            have h8 : vs 8 = .pointer (some ⟨ga, k * 8 + 6, none⟩) := by obtain ⟨_, _, _, h⟩ := hR2 8 (by kernel_rfl); exact h
            simp only [List.set_cons_zero, List.set_cons_succ] at hK ⊢
            obtain ⟨k0, hcl, _⟩ := own_atF Tryz.underlying37 hie he1 hS2 (by rw [List.length_set, mix_len]) HXS.out
            have k6 := hcl 6 _ rfl
            simp only [h8] at hK ⊢
            go_simp
            exact hK.out _ _ (Below.refl _ _) rfl
        case hendl =>
          intro vs wx lo hiv hbx hSx hRx hdx
          have h0 : vs 0 = .slice (some ⟨ga, 0, none⟩) l.length co := (hRx 0 (by kernel_rfl)).1
          have h1 : vs 1 = .int .i64 k := (hRx 1 (by kernel_rfl)).1
          have h2 : vs 2 = .pointer (some ⟨ga, k * 8, none⟩) := (hRx 2 (by kernel_rfl)).1
          have h3 : vs 3 = .pointer (some ⟨ga, k * 8 + 6, none⟩) := (hRx 3 (by kernel_rfl)).1
          have h4 : vs 4 = .float .f64 r := (hRx 4 (by kernel_rfl)).1
          have h5 : vs 5 = .slice (some ⟨ga, 0, none⟩) l.length co := (hRx 5 (by kernel_rfl)).1
          have h6 : vs 6 = .int .i64 k := (hRx 6 (by kernel_rfl)).1
          have h7 : vs 7 = .pointer (some ⟨ga, k * 8, none⟩) := (hRx 7 (by kernel_rfl)).1
          have h8 : vs 8 = .pointer (some ⟨ga, k * 8 + 6, none⟩) := (hRx 8 (by kernel_rfl)).1
          have h9 : vs 9 = .float .f64 r := (hRx 9 (by kernel_rfl)).1
          simp only [fillD, Act.put, List.setIfInBounds_toArray, List.set_cons_zero, List.set_cons_succ, h0, h1, h2, h3, h4, h5, h6, h7, h8, h9]
          have hb := below_drew_left hbx
          have HOX := hid hSx
          have HBX := hid (HBQ.out.trans (hb.mono HBQ.out.size))
          clear hbx hSx hRx hdx hb HOQ HBQ
          have hfs := @run_fsub Tryz.prog
          refine wpAny_one (i := 10) (by kernel_rfl) rfl (fun K hK => ?_)
          go_simp
          refine hK.out _ _ ?_
          clear hK hfs
          obtain ⟨rr, hrr⟩ : ∃ rr, fval .sub r r wx = rr := ⟨_, rfl⟩
          cases hfin : ffin r
          · have hq := fsub_neq (w := wx) hfin
            rw [hrr] at hq ⊢
            simp only [Bool.not_false] at hq
            clear hrr
            have HNO := hid (srcs_no HXK.out HS.out (f := (fun _ => 0)) (by rw [← HR.out, ffin_fc]; exact hfin))
            clear hfin
            refine wpAny_one (i := 11) (by kernel_rfl) rfl (fun K hK => ?_)
            go_simp
            refine hK.out _ _ ?_
            clear hK
            refine wpAny_done (by kernel_rfl) ?_ _
            go_wp2
            (try simp only [Exit.inBlock, Exit.then])
            (try rw [Exit.noGoto_ret])
            refine bodyPost_ret (v := .tuple #[.pointer none, .int .i64 6]) ?_ rfl (.inr ⟨HNO.out, rfl, below_n HBX.out _⟩)
            rw [results_tmp2 rfl]; rfl
          · have hq := fsub_neq (w := wx) hfin
            rw [hrr] at hq ⊢
            simp only [Bool.not_true] at hq
            clear hrr
            have HFI := hid hfin
            clear hfin
            refine wpAny_one (i := 11) (by kernel_rfl) rfl (fun K hK => ?_)
            go_simp
            refine hK.out _ _ ?_
            clear hK
            refine wpAny_done (by kernel_rfl) ?_ _
            go_wp2
            go_roundw
            case rel =>
              have hr : r = (fun _ => 0) (fc x.val) := (fin_eq HFI.out).trans HR.out
              exact ⟨k + 1, by omega, by go_num, by rw [mix_next HXK.out]; have h := HOX.out; rw [show setV x r = chg (fun _ => 0) x by unfold chg; rw [if_pos HS.out, hr]] at h; exact h, srcs_take HXK.out HSR.out (.inr (by have h := HFI.out; rw [hr] at h; exact h)), below_n HBX.out _⟩
            case measure => simp [intOf]; omega
    · obtain rfl : k = l.length := by omega
      have h := HSR.out
      rw [List.take_length] at h
      have HSA := hid h
      have ho := HO.out
      rw [mix_all] at ho
      have HSL := hid (show IsSl wo 8 (.slice ao l.length co) (l.map (chg (fun _ => 0))).length ((l.map (chg (fun _ => 0))).flatMap ea) by rw [List.length_map]; exact IsSl.of_own ho)
      have HOB2 := hid (ofL_chg HOB.out h)
      have HOK2 := hid (show ∀ x ∈ l.map (chg (fun _ => 0)), x.Ok from fun x hx => by obtain ⟨y, hy, rfl⟩ := List.mem_map.1 hx; exact chg_ok (HOK.out y hy) (by first | exact fop_lt _ _ _ | decide))
      have HLM := hid (show (l.map (chg (fun _ => 0))).length = l.length by simp)
      clear h ho
      go_upto_region 11 with (go_at_call 27; refine (nof_any _ (l.map (chg (fun _ => 0))) _ (by have h := HSL.out; rw [HLM.out] at h ⊢; exact h) HOK2.out (by rw [HLM.out]; have := HLEN.out; omega)).mono ?_; intro e w2 hr; obtain ⟨gn, rfl, hnn, hb⟩ := retof_good hr HOB2.out; have HN := hid hnn; have HB2 := hid (below_next HBW.out hb); clear hr hnn hb)
      have hb3 := (Below.refl w2.heap.size w2).alloc (Nat.le_refl _) (.cells #[.int .i64 0, .int .i64 0] 62)
      have HF := hid (heap_alloc_new w2 (.cells #[.int .i64 0, .int .i64 0] 62))
      have HN3 := hid (HN.out.below' hb3)
      have HB3 := hid (below_next HB2.out hb3)
      clear hb3 HN HB2
      generalize w2.alloc (.cells #[.int .i64 0, .int .i64 0] 62) = w3 at *
      obtain ⟨gf, hgf⟩ : ∃ gf, w2.heap.size = gf := ⟨_, rfl⟩
      rw [hgf] at HF ⊢
      clear hgf
      refine wp_region_any (by kernel_rfl) ?_
      change wpAny _ _ _ _ _ _ _ (World.drew _)
      refine wpAny_makersD [⟨some 60, 0, []⟩, ⟨some 61, 1, []⟩, ⟨some 62, 2, []⟩, ⟨some 4, 3, []⟩]
        (fun w' => w'.heap[gf]? = some (.cells #[.int .i64 0, .int .i64 0] 62 (0, 0)))
        (fun oq v _ _ _ _ => match oq with | 0 => v = .pointer (some ⟨gn, 0, none⟩) | 1 => v = .pointer (some ⟨gf, 0, none⟩) | 2 => v = .int .i64 0 | 3 => v = .pointer (some ⟨gn, 0, none⟩) | _ => True) (by kernel_rfl) ?hSf (fun _ _ hb h => heap_next hb h) (fun _ _ _ _ _ _ _ _ _ h => h) ?hopf ?hendf
      case hSf => exact heap_next (Below.refl _ _).drew HF.out
      case hopf =>
        delta Owed
        simp only [fillD, Act.put, List.setIfInBounds_toArray, List.set_cons_zero, List.set_cons_succ]
        refine Each.cons rfl ?_ (Each.cons rfl ?_ (Each.cons rfl ?_ (Each.cons rfl ?_ Each.nil)))
        · intro vs w2 hb2 hS2 hR2 K hK
          simp only [List.set_cons_zero, List.set_cons_succ] at hK ⊢
          go_simp
          exact hK.out _ _ (Below.refl _ _) rfl
        · intro vs w2 hb2 hS2 hR2 K hK
          simp only [List.set_cons_zero, List.set_cons_succ] at hK ⊢
          go_simp
          exact hK.out _ _ (Below.refl _ _) rfl
        · intro vs w2 hb2 hS2 hR2 K hK
          have h1 : vs 1 = .pointer (some ⟨gf, 0, none⟩) := by obtain ⟨_, _, _, h⟩ := hR2 1 (by kernel_rfl); exact h
          simp only [List.set_cons_zero, List.set_cons_succ] at hK ⊢
          have k0 := (cells_ofS hS2).1 0 _ rfl
          simp only [h1] at hK ⊢
          go_simp
          exact hK.out _ _ (Below.refl _ _) rfl
        · intro vs w2 hb2 hS2 hR2 K hK
          have h0 : vs 0 = .pointer (some ⟨gn, 0, none⟩) := by obtain ⟨_, _, _, h⟩ := hR2 0 (by kernel_rfl); exact h
          simp only [List.set_cons_zero, List.set_cons_succ] at hK ⊢
          simp only [h0] at hK ⊢
          go_simp
          exact hK.out _ _ (Below.refl _ _) rfl
      case hendf =>
        intro vs wx lo hiv hbx hSx hRx hdx
        have h0 : vs 0 = .pointer (some ⟨gn, 0, none⟩) := (hRx 0 (by kernel_rfl)).1
        have h1 : vs 1 = .pointer (some ⟨gf, 0, none⟩) := (hRx 1 (by kernel_rfl)).1
        have h2 : vs 2 = .int .i64 0 := (hRx 2 (by kernel_rfl)).1
        have h3 : vs 3 = .pointer (some ⟨gn, 0, none⟩) := (hRx 3 (by kernel_rfl)).1
        simp only [fillD, Act.put, List.setIfInBounds_toArray, List.set_cons_zero, List.set_cons_succ, h0, h1, h2, h3]
        have hb := below_drew_left hbx
        have HN4 := hid (HN3.out.below' hb)
        have HB4 := hid (below_next HB3.out hb)
        clear hbx hSx hRx hdx hb
        refine wpAny_one (i := 4) (by kernel_rfl) rfl (fun K hK => ?_)
        go_simp
        refine hK.out _ _ ?_
        clear hK
        refine wpAny_done (by kernel_rfl) ?_ _
        (try go_wp2)
        (try simp only [Exit.inBlock, Exit.then])
        (try rw [Exit.noGoto_ret])
        refine bodyPost_ret (v := .tuple #[.pointer (some ⟨gn, 0, none⟩), .int .i64 0]) ?_ rfl (.inl ⟨HSA.out, gn, rfl, HN4.out, HB4.out⟩)
        rw [results_tmp2 rfl]; rfl
theorem scaled1_any (v gb by_ : Nat) (w : World) (h : w.heap[gb]? = some (.cells #[.float .f64 by_] 29 (0, 0))) : Calls Tryz.prog 37 #[.float .f64 v, .pointer (some ⟨gb, 0, none⟩)] w fun e w' => ∃ r n, e = .returned (.float .f64 r) ∧ w' = w.drewN n ∧ fc r = (fun v => fmul v (fc by_)) (fc v) := by
  have c0 := (block_cells h).1 0 _ rfl
  go_enter Tryz.func37, Tryz.ntmps37
  go_wp2_with (refine wpList_float rfl _ _ _ _ _ rfl rfl _ _ rfl rfl ?_; intro r n hr)
  (try rw [Exit.noGoto_ret])
  go_ret
  exact ⟨_, _, rfl, rfl, by assumption⟩
theorem enter_s1 (args : Array Value) (w : World) : (callFunc 37 args).run Tryz.prog w = .ok (.enter 37 args) w := by
  have h : (Tryz.f37.name == "runtime.NumGoroutine") = false := by kernel_rfl
  have h2 : Tryz.f37.body.isNone = false := by kernel_rfl
  simp only [callFunc, Sem.run_bind, run_program, Result.andThen_ok, Tryz.func37, h, h2, Bool.false_eq_true, if_false, Sem.run_pure]
set_option maxRecDepth 100000 in
set_option maxHeartbeats 4000000 in
theorem sourcesS_any (p : Value) (l : List El) (gb by_ : Nat) (w : World) (hp : NN w p l) (hob : (ofL l).1 = true) (hok : ∀ x ∈ l, x.Ok) (hbx : w.heap[gb]? = some (.cells #[.float .f64 by_] 29 (0, 0))) :
    Calls Tryz.prog 35 #[p, .func (.func 37) #[] #[.pointer (some ⟨gb, 0, none⟩)]] w (RetSca NN (fun v => fmul v (fc by_)) l w) := by
  obtain ⟨ie, hie, he0, he1, he2⟩ := info_parts infoEa
  have HP := hid hp
  have HNG := hid (netg_of hob hok)
  have HOB := hid hob
  have HOK := hid hok
  have HX := hid hbx
  clear hbx
  have HLEN := hid (show l.length ≤ 256 from (netg_of hob hok).len)
  clear hp hob hok
  go_enter Tryz.func35, Tryz.ntmps35
  go_upto_region 2 with (go_at_call 15; refine (nelements_any p l _ HP.out (by have := HLEN.out; omega)).mono ?_; rintro e w1 ⟨v, ws, rfl, hown, rfl, hb⟩; have HOW := hid hown; have HB := hid hb; obtain ⟨ao, co, rfl⟩ := (IsSl.of_own hown).form; clear hown hb)
  clear HP
  go_wp2
  go_loopw [14] (fun i wr => ∃ k : Nat, k ≤ l.length ∧ i = .int .i64 k ∧ wr.ownsRow w.heap.size 81 8 (.slice ao l.length co) l.length ((mixS (fun v => fmul v (fc by_)) l k).flatMap ea) ∧ srcsS (fun v => fmul v (fc by_)) (l.take k) = true ∧ Below w.heap.size w wr) (fun i _ => l.length - (intOf i).toNat)
  case atStart => exact ⟨0, Nat.zero_le _, rfl, by rw [mix_zero]; exact HOW.out, rfl, HB.out⟩
  case round =>
    obtain ⟨k, hk, rfl, hown, hsr, hb⟩ := hrel
    obtain ⟨wo, rfl⟩ : ∃ wo : World, wo = wr := ⟨_, rfl⟩
    have HO := hid hown
    have HBW := hid hb
    have HSR := hid hsr
    have hg0 := HLEN.out
    clear hown hb hsr
    by_cases hlt : k < l.length
    · obtain ⟨x, hx⟩ : ∃ x, l[k]? = some x := ⟨_, List.getElem?_eq_getElem hlt⟩
      have HXK := hid hx
      obtain ⟨ga, rfl⟩ : ∃ ga, ao = some ⟨ga, 0, none⟩ := by
        rcases HO.out.2 with ⟨h1, h2⟩ | ⟨g, cap, cur, h1, _⟩
        · omega
        · cases h1; exact ⟨g, rfl⟩
      obtain ⟨hidx, hcell, hfr⟩ := own_atF Tryz.underlying37 hie he1 HO.out (mix_len _ _ _) (mix_at (f := (fun v => fmul v (fc by_))) hx)
      have c0 := hcell 0 _ rfl
      have c6 := hcell 6 _ rfl
      rw [Nat.add_zero] at c0
      clear hcell hx
      rcases srcv_ways x.kind with ⟨q0, q1, _⟩ | ⟨q0, q1, _, q2, _⟩ | ⟨q1, q1', q2, q2'⟩
      rotate_left 2
      · have hs : isSrc x = false := by unfold isSrc; rw [q1', q2']; rfl
        have HS := hid hs
        clear hs q1' q2'
        go_wp2_with fail
        go_roundw
        case rel => exact ⟨k + 1, by omega, by go_num, by rw [mix_same HXK.out HS.out]; exact HO.out, srcs_take HXK.out HSR.out (.inl HS.out), HBW.out⟩
        case measure => simp [intOf]; omega
      all_goals
        have HS := hid (show isSrc x = true by unfold isSrc; rw [q0]; rfl)
        clear q0
        have f6 := hfr (k * 8 + 6)
        go_upto_region 7 with (first | (go_at_call 37; refine (scaled1_any x.val gb by_ _ (heap_later2 HBW.out HX.out)).mono ?_; rintro e wq ⟨r, n, rfl, hwq, hr⟩; have HR := hid hr; have HOA := hid (show wq.ownsRow w.heap.size 81 8 (.slice (some ⟨ga, 0, none⟩) l.length co) l.length ((mixS (fun v => fmul v (fc by_)) l k).flatMap ea) by rw [hwq]; exact HO.out); have HBA := hid (show Below w.heap.size w wq by rw [hwq]; exact below_n HBW.out n); replace f6 : wq.frozen? ⟨ga, k * 8 + 6, none⟩ = false := (by rw [hwq]; exact f6); replace c6 : wq.cell? ⟨ga, k * 8 + 6, none⟩ = some (.float .f64 x.val) := (by rw [hwq]; exact c6); clear hwq hr) | (go_simp; refine (scaled1_any x.val gb by_ _ (heap_later2 HBW.out HX.out)).mono ?_; rintro e wq ⟨r, n, rfl, hwq, hr⟩; have HR := hid hr; have HOA := hid (show wq.ownsRow w.heap.size 81 8 (.slice (some ⟨ga, 0, none⟩) l.length co) l.length ((mixS (fun v => fmul v (fc by_)) l k).flatMap ea) by rw [hwq]; exact HO.out); have HBA := hid (show Below w.heap.size w wq by rw [hwq]; exact below_n HBW.out n); replace f6 : wq.frozen? ⟨ga, k * 8 + 6, none⟩ = false := (by rw [hwq]; exact f6); replace c6 : wq.cell? ⟨ga, k * 8 + 6, none⟩ = some (.float .f64 x.val) := (by rw [hwq]; exact c6); clear hwq hr))
        clear c0 c6 f6 q1 hidx hfr
        (try clear q2)
        have HGE := hid (HO.out.lt _ rfl)
        have HOQ : Hid ((wq.setCell ⟨ga, k * 8 + 6, none⟩ (.float .f64 r)).ownsRow w.heap.size 81 8 (.slice (some ⟨ga, 0, none⟩) l.length co) l.length (((mixS (fun v => fmul v (fc by_)) l k).set k (setV x r)).flatMap ea)) := hid (by
          rw [flat_setV (mix_at HXK.out) r]
          exact own_put8 HOA.out rfl (by omega))
        have HBQ := hid (HBA.out.setCell (p := ⟨ga, k * 8 + 6, none⟩) HGE.out.1 (.float .f64 r))
        have HXS := hid (show ((mixS (fun v => fmul v (fc by_)) l k).set k (setV x r))[k]? = some (setV x r) by rw [List.getElem?_set_self (by rw [mix_len]; exact hlt)])
        clear HOA HBA
        generalize (wq.setCell ⟨ga, k * 8 + 6, none⟩ (.float .f64 r)) = w5 at *
        refine wp_region_any (by kernel_rfl) ?_
        change wpAny _ _ _ _ _ _ _ (World.drew _)
        refine wpAny_makersD [⟨some 42, 0, []⟩, ⟨some 43, 1, []⟩, ⟨some 44, 2, []⟩, ⟨some 45, 3, []⟩, ⟨some 46, 4, []⟩, ⟨some 47, 5, []⟩, ⟨some 48, 6, []⟩, ⟨some 49, 7, []⟩, ⟨some 50, 8, []⟩, ⟨some 51, 9, []⟩]
          (fun w' => w'.ownsRow w.heap.size 81 8 (.slice (some ⟨ga, 0, none⟩) l.length co) l.length (((mixS (fun v => fmul v (fc by_)) l k).set k (setV x r)).flatMap ea))
          (fun oq v _ _ _ _ => match oq with | 0 => v = .slice (some ⟨ga, 0, none⟩) l.length co | 1 => v = .int .i64 k | 2 => v = .pointer (some ⟨ga, k * 8, none⟩) | 3 => v = .pointer (some ⟨ga, k * 8 + 6, none⟩) | 4 => v = .float .f64 r | 5 => v = .slice (some ⟨ga, 0, none⟩) l.length co | 6 => v = .int .i64 k | 7 => v = .pointer (some ⟨ga, k * 8, none⟩) | 8 => v = .pointer (some ⟨ga, k * 8 + 6, none⟩) | 9 => v = .float .f64 r | _ => True) (by kernel_rfl) ?hSl (fun _ _ hb h => own_none h (grown_of_below hb none)) (fun _ _ _ _ _ _ _ _ _ h => h) ?hopl ?hendl
        case hSl => exact own_none HOQ.out (grown_of_below (Below.refl _ _).drew none)
        case hopl =>
          delta Owed
          simp only [fillD, Act.put, List.setIfInBounds_toArray, List.set_cons_zero, List.set_cons_succ]
          refine Each.cons rfl ?_ (Each.cons rfl ?_ (Each.cons rfl ?_ (Each.cons rfl ?_ (Each.cons rfl ?_ (Each.cons rfl ?_ (Each.cons rfl ?_ (Each.cons rfl ?_ (Each.cons rfl ?_ (Each.cons rfl ?_ Each.nil)))))))))
          · intro vs w2 hb2 hS2 hR2 K hK
            simp only [List.set_cons_zero, List.set_cons_succ] at hK ⊢
            go_simp
            exact hK.out _ _ (Below.refl _ _) rfl
          · intro vs w2 hb2 hS2 hR2 K hK
            simp only [List.set_cons_zero, List.set_cons_succ] at hK ⊢
            go_simp
            exact hK.out _ _ (Below.refl _ _) rfl
          · intro vs w2 hb2 hS2 hR2 K hK
            have h0 : vs 0 = .slice (some ⟨ga, 0, none⟩) l.length co := by obtain ⟨_, _, _, h⟩ := hR2 0 (by kernel_rfl); exact h
            have h1 : vs 1 = .int .i64 k := by obtain ⟨_, _, _, h⟩ := hR2 1 (by kernel_rfl); exact h
            simp only [List.set_cons_zero, List.set_cons_succ] at hK ⊢
            obtain ⟨k0, hcl, _⟩ := own_atF Tryz.underlying37 hie he1 hS2 (by rw [List.length_set, mix_len]) HXS.out
            have k6 := hcl 6 _ rfl
            simp only [h0, h1] at hK ⊢
            go_simp
            exact hK.out _ _ (Below.refl _ _) rfl
          · intro vs w2 hb2 hS2 hR2 K hK
            have h2 : vs 2 = .pointer (some ⟨ga, k * 8, none⟩) := by obtain ⟨_, _, _, h⟩ := hR2 2 (by kernel_rfl); exact h
            simp only [List.set_cons_zero, List.set_cons_succ] at hK ⊢
            simp only [h2] at hK ⊢
            go_simp
            exact hK.out _ _ (Below.refl _ _) rfl
          · intro vs w2 hb2 hS2 hR2 K hK
            have h3 : vs 3 = .pointer (some ⟨ga, k * 8 + 6, none⟩) := by obtain ⟨_, _, _, h⟩ := hR2 3 (by kernel_rfl); exact h
            simp only [List.set_cons_zero, List.set_cons_succ] at hK ⊢
            obtain ⟨k0, hcl, _⟩ := own_atF Tryz.underlying37 hie he1 hS2 (by rw [List.length_set, mix_len]) HXS.out
            have k6 := hcl 6 _ rfl
            simp only [h3] at hK ⊢
            go_simp
            exact hK.out _ _ (Below.refl _ _) rfl
          · intro vs w2 hb2 hS2 hR2 K hK
            simp only [List.set_cons_zero, List.set_cons_succ] at hK ⊢
            go_simp
            exact hK.out _ _ (Below.refl _ _) rfl
          · intro vs w2 hb2 hS2 hR2 K hK
            simp only [List.set_cons_zero, List.set_cons_succ] at hK ⊢
            go_simp
            exact hK.out _ _ (Below.refl _ _) rfl
          · intro vs w2 hb2 hS2 hR2 K hK
            have h5 : vs 5 = .slice (some ⟨ga, 0, none⟩) l.length co := by obtain ⟨_, _, _, h⟩ := hR2 5 (by kernel_rfl); exact h
            have h6 : vs 6 = .int .i64 k := by obtain ⟨_, _, _, h⟩ := hR2 6 (by kernel_rfl); exact h
            simp only [List.set_cons_zero, List.set_cons_succ] at hK ⊢
            obtain ⟨k0, hcl, _⟩ := own_atF Tryz.underlying37 hie he1 hS2 (by rw [List.length_set, mix_len]) HXS.out
            have k6 := hcl 6 _ rfl
            simp only [h5, h6] at hK ⊢
            go_simp
            exact hK.out _ _ (Below.refl _ _) rfl
          · intro vs w2 hb2 hS2 hR2 K hK
            have h7 : vs 7 = .pointer (some ⟨ga, k * 8, none⟩) := by obtain ⟨_, _, _, h⟩ := hR2 7 (by kernel_rfl); exact h
            simp only [List.set_cons_zero, List.set_cons_succ] at hK ⊢
            simp only [h7] at hK ⊢
            go_simp
            exact hK.out _ _ (Below.refl _ _) rfl
          · intro vs w2 hb2 hS2 hR2 K hK
            have h8 : vs 8 = .pointer (some ⟨ga, k * 8 + 6, none⟩) := by obtain ⟨_, _, _, h⟩ := hR2 8 (by kernel_rfl); exact h
            simp only [List.set_cons_zero, List.set_cons_succ] at hK ⊢
            obtain ⟨k0, hcl, _⟩ := own_atF Tryz.underlying37 hie he1 hS2 (by rw [List.length_set, mix_len]) HXS.out
            have k6 := hcl 6 _ rfl
            simp only [h8] at hK ⊢
            go_simp
            exact hK.out _ _ (Below.refl _ _) rfl
        case hendl =>
          intro vs wx lo hiv hbx hSx hRx hdx
          have h0 : vs 0 = .slice (some ⟨ga, 0, none⟩) l.length co := (hRx 0 (by kernel_rfl)).1
          have h1 : vs 1 = .int .i64 k := (hRx 1 (by kernel_rfl)).1
          have h2 : vs 2 = .pointer (some ⟨ga, k * 8, none⟩) := (hRx 2 (by kernel_rfl)).1
          have h3 : vs 3 = .pointer (some ⟨ga, k * 8 + 6, none⟩) := (hRx 3 (by kernel_rfl)).1
          have h4 : vs 4 = .float .f64 r := (hRx 4 (by kernel_rfl)).1
          have h5 : vs 5 = .slice (some ⟨ga, 0, none⟩) l.length co := (hRx 5 (by kernel_rfl)).1
          have h6 : vs 6 = .int .i64 k := (hRx 6 (by kernel_rfl)).1
          have h7 : vs 7 = .pointer (some ⟨ga, k * 8, none⟩) := (hRx 7 (by kernel_rfl)).1
          have h8 : vs 8 = .pointer (some ⟨ga, k * 8 + 6, none⟩) := (hRx 8 (by kernel_rfl)).1
          have h9 : vs 9 = .float .f64 r := (hRx 9 (by kernel_rfl)).1
          simp only [fillD, Act.put, List.setIfInBounds_toArray, List.set_cons_zero, List.set_cons_succ, h0, h1, h2, h3, h4, h5, h6, h7, h8, h9]
          have hb := below_drew_left hbx
          have HOX := hid hSx
          have HBX := hid (HBQ.out.trans (hb.mono HBQ.out.size))
          clear hbx hSx hRx hdx hb HOQ HBQ
          have hfs := @run_fsub Tryz.prog
          refine wpAny_one (i := 10) (by kernel_rfl) rfl (fun K hK => ?_)
          go_simp
          refine hK.out _ _ ?_
          clear hK hfs
          obtain ⟨rr, hrr⟩ : ∃ rr, fval .sub r r wx = rr := ⟨_, rfl⟩
          cases hfin : ffin r
          · have hq := fsub_neq (w := wx) hfin
            rw [hrr] at hq ⊢
            simp only [Bool.not_false] at hq
            clear hrr
            have HNO := hid (srcs_no HXK.out HS.out (f := (fun v => fmul v (fc by_))) (by rw [← HR.out, ffin_fc]; exact hfin))
            clear hfin
            refine wpAny_one (i := 11) (by kernel_rfl) rfl (fun K hK => ?_)
            go_simp
            refine hK.out _ _ ?_
            clear hK
            refine wpAny_done (by kernel_rfl) ?_ _
            go_wp2
            (try simp only [Exit.inBlock, Exit.then])
            (try rw [Exit.noGoto_ret])
            refine bodyPost_ret (v := .tuple #[.pointer none, .int .i64 6]) ?_ rfl (.inr ⟨HNO.out, rfl, below_n HBX.out _⟩)
            rw [results_tmp2 rfl]; rfl
          · have hq := fsub_neq (w := wx) hfin
            rw [hrr] at hq ⊢
            simp only [Bool.not_true] at hq
            clear hrr
            have HFI := hid hfin
            clear hfin
            refine wpAny_one (i := 11) (by kernel_rfl) rfl (fun K hK => ?_)
            go_simp
            refine hK.out _ _ ?_
            clear hK
            refine wpAny_done (by kernel_rfl) ?_ _
            go_wp2
            go_roundw
            case rel =>
              have hr : r = (fun v => fmul v (fc by_)) (fc x.val) := (fin_eq HFI.out).trans HR.out
              exact ⟨k + 1, by omega, by go_num, by rw [mix_next HXK.out]; have h := HOX.out; rw [show setV x r = chg (fun v => fmul v (fc by_)) x by unfold chg; rw [if_pos HS.out, hr]] at h; exact h, srcs_take HXK.out HSR.out (.inr (by have h := HFI.out; rw [hr] at h; exact h)), below_n HBX.out _⟩
            case measure => simp [intOf]; omega
    · obtain rfl : k = l.length := by omega
      have h := HSR.out
      rw [List.take_length] at h
      have HSA := hid h
      have ho := HO.out
      rw [mix_all] at ho
      have HSL := hid (show IsSl wo 8 (.slice ao l.length co) (l.map (chg (fun v => fmul v (fc by_)))).length ((l.map (chg (fun v => fmul v (fc by_)))).flatMap ea) by rw [List.length_map]; exact IsSl.of_own ho)
      have HOB2 := hid (ofL_chg HOB.out h)
      have HOK2 := hid (show ∀ x ∈ l.map (chg (fun v => fmul v (fc by_))), x.Ok from fun x hx => by obtain ⟨y, hy, rfl⟩ := List.mem_map.1 hx; exact chg_ok (HOK.out y hy) (by first | exact fop_lt _ _ _ | decide))
      have HLM := hid (show (l.map (chg (fun v => fmul v (fc by_)))).length = l.length by simp)
      clear h ho
      go_upto_region 11 with (go_at_call 27; refine (nof_any _ (l.map (chg (fun v => fmul v (fc by_)))) _ (by have h := HSL.out; rw [HLM.out] at h ⊢; exact h) HOK2.out (by rw [HLM.out]; have := HLEN.out; omega)).mono ?_; intro e w2 hr; obtain ⟨gn, rfl, hnn, hb⟩ := retof_good hr HOB2.out; have HN := hid hnn; have HB2 := hid (below_next HBW.out hb); clear hr hnn hb)
      have hb3 := (Below.refl w2.heap.size w2).alloc (Nat.le_refl _) (.cells #[.int .i64 0, .int .i64 0] 62)
      have HF := hid (heap_alloc_new w2 (.cells #[.int .i64 0, .int .i64 0] 62))
      have HN3 := hid (HN.out.below' hb3)
      have HB3 := hid (below_next HB2.out hb3)
      clear hb3 HN HB2
      generalize w2.alloc (.cells #[.int .i64 0, .int .i64 0] 62) = w3 at *
      obtain ⟨gf, hgf⟩ : ∃ gf, w2.heap.size = gf := ⟨_, rfl⟩
      rw [hgf] at HF ⊢
      clear hgf
      refine wp_region_any (by kernel_rfl) ?_
      change wpAny _ _ _ _ _ _ _ (World.drew _)
      refine wpAny_makersD [⟨some 60, 0, []⟩, ⟨some 61, 1, []⟩, ⟨some 62, 2, []⟩, ⟨some 4, 3, []⟩]
        (fun w' => w'.heap[gf]? = some (.cells #[.int .i64 0, .int .i64 0] 62 (0, 0)))
        (fun oq v _ _ _ _ => match oq with | 0 => v = .pointer (some ⟨gn, 0, none⟩) | 1 => v = .pointer (some ⟨gf, 0, none⟩) | 2 => v = .int .i64 0 | 3 => v = .pointer (some ⟨gn, 0, none⟩) | _ => True) (by kernel_rfl) ?hSf (fun _ _ hb h => heap_next hb h) (fun _ _ _ _ _ _ _ _ _ h => h) ?hopf ?hendf
      case hSf => exact heap_next (Below.refl _ _).drew HF.out
      case hopf =>
        delta Owed
        simp only [fillD, Act.put, List.setIfInBounds_toArray, List.set_cons_zero, List.set_cons_succ]
        refine Each.cons rfl ?_ (Each.cons rfl ?_ (Each.cons rfl ?_ (Each.cons rfl ?_ Each.nil)))
        · intro vs w2 hb2 hS2 hR2 K hK
          simp only [List.set_cons_zero, List.set_cons_succ] at hK ⊢
          go_simp
          exact hK.out _ _ (Below.refl _ _) rfl
        · intro vs w2 hb2 hS2 hR2 K hK
          simp only [List.set_cons_zero, List.set_cons_succ] at hK ⊢
          go_simp
          exact hK.out _ _ (Below.refl _ _) rfl
        · intro vs w2 hb2 hS2 hR2 K hK
          have h1 : vs 1 = .pointer (some ⟨gf, 0, none⟩) := by obtain ⟨_, _, _, h⟩ := hR2 1 (by kernel_rfl); exact h
          simp only [List.set_cons_zero, List.set_cons_succ] at hK ⊢
          have k0 := (cells_ofS hS2).1 0 _ rfl
          simp only [h1] at hK ⊢
          go_simp
          exact hK.out _ _ (Below.refl _ _) rfl
        · intro vs w2 hb2 hS2 hR2 K hK
          have h0 : vs 0 = .pointer (some ⟨gn, 0, none⟩) := by obtain ⟨_, _, _, h⟩ := hR2 0 (by kernel_rfl); exact h
          simp only [List.set_cons_zero, List.set_cons_succ] at hK ⊢
          simp only [h0] at hK ⊢
          go_simp
          exact hK.out _ _ (Below.refl _ _) rfl
      case hendf =>
        intro vs wx lo hiv hbx hSx hRx hdx
        have h0 : vs 0 = .pointer (some ⟨gn, 0, none⟩) := (hRx 0 (by kernel_rfl)).1
        have h1 : vs 1 = .pointer (some ⟨gf, 0, none⟩) := (hRx 1 (by kernel_rfl)).1
        have h2 : vs 2 = .int .i64 0 := (hRx 2 (by kernel_rfl)).1
        have h3 : vs 3 = .pointer (some ⟨gn, 0, none⟩) := (hRx 3 (by kernel_rfl)).1
        simp only [fillD, Act.put, List.setIfInBounds_toArray, List.set_cons_zero, List.set_cons_succ, h0, h1, h2, h3]
        have hb := below_drew_left hbx
        have HN4 := hid (HN3.out.below' hb)
        have HB4 := hid (below_next HB3.out hb)
        clear hbx hSx hRx hdx hb
        refine wpAny_one (i := 4) (by kernel_rfl) rfl (fun K hK => ?_)
        go_simp
        refine hK.out _ _ ?_
        clear hK
        refine wpAny_done (by kernel_rfl) ?_ _
        (try go_wp2)
        (try simp only [Exit.inBlock, Exit.then])
        (try rw [Exit.noGoto_ret])
        refine bodyPost_ret (v := .tuple #[.pointer (some ⟨gn, 0, none⟩), .int .i64 0]) ?_ rfl (.inl ⟨HSA.out, gn, rfl, HN4.out, HB4.out⟩)
        rw [results_tmp2 rfl]; rfl
theorem srcs_zero (l : List El) : srcsS (fun _ => 0) l = true := by
  unfold srcsS
  rw [List.all_eq_true]
  intro x _
  rw [show ffin 0 = true by decide +kernel]
  simp
set_option maxRecDepth 100000 in
set_option maxHeartbeats 1000000 in
theorem quiet_any (p : Value) (l : List El) (w : World) (hp : NN w p l) (hn : noNet p = false) (hob : (ofL l).1 = true) (hok : ∀ x ∈ l, x.Ok) :
    Calls Tryz.prog 8 #[p] w fun e w' => ∃ g : Nat, e = .returned (.pointer (some ⟨g, 0, none⟩)) ∧ NN w' (.pointer (some ⟨g, 0, none⟩)) (l.map (chg fun _ => 0)) ∧ Below w.heap.size w w' := by
  have HP := hid hp
  have HN := hid hn
  have HOB := hid hob
  have HOK := hid hok
  have HNG := hid (netg_of hob hok)
  clear hp hn hob hok
  go_enter Tryz.func8, Tryz.ntmps8
  go_wp2_with (first | (go_at_call 34; refine (missing_any _ l _ HP.out HNG.out.nm).mono ?_; rintro e w' ⟨rfl, rfl⟩; rw [HN.out]) | (go_at_call 35; refine (sourcesQ_any p l _ HP.out HOB.out HOK.out).mono ?_; rintro e w2 (⟨_, g, rfl, hg, hb⟩ | ⟨h, _⟩); rotate_left; exact absurd (h.symm.trans (srcs_zero l)) (by decide); have HG := hid hg; have HB := hid hb; clear hg hb))
  (try simp only [Exit.inBlock, Exit.then])
  (try rw [Exit.noGoto_ret])
  go_ret
  exact ⟨g, rfl, HG.out, HB.out⟩
set_option maxRecDepth 100000 in
set_option maxHeartbeats 1000000 in
theorem scaled_any (p : Value) (l : List El) (by_ : Nat) (w : World) (hp : NN w p l) (hn : noNet p = false) (hob : (ofL l).1 = true) (hok : ∀ x ∈ l, x.Ok) :
    Calls Tryz.prog 9 #[p, .float .f64 by_] w (RetScl NN by_ l w) := by
  have hb1 := (Below.refl w.heap.size w).alloc (Nat.le_refl _) (.cells #[.float .f64 by_] 29)
  have HX := hid (heap_alloc_new w (.cells #[.float .f64 by_] 29))
  have HB := hid hb1
  have HP := hid (hp.below hb1 (Nat.le_refl _))
  have HN := hid hn
  have HOB := hid hob
  have HOK := hid hok
  have HNG := hid (netg_of hob hok)
  clear hp hn hob hok hb1
  cases hf : ffin (fc by_)
  all_goals
    have HF := hid hf
    clear hf
    go_enter Tryz.func9, Tryz.ntmps9
    go_upto_region 1 with fail
    generalize w.alloc (.cells #[.float .f64 by_] 29) = w1 at *
    obtain ⟨gb, hgb⟩ : ∃ gb, w.heap.size = gb := ⟨_, rfl⟩
    rw [hgb] at HX ⊢
    clear hgb
    have c0 := (block_cells HX.out).1 0 _ rfl
  · go_wp2_with (first | (go_at_call 34; refine (missing_any _ l _ HP.out HNG.out.nm).mono ?_; rintro e w' ⟨rfl, rfl⟩; rw [HN.out]) | (refine wpList_float rfl _ _ _ _ _ rfl rfl _ _ rfl rfl ?_; intro r n hr; have hq := neq_fin hr HF.out; simp only [Bool.not_false] at hq; clear hr))
    (try simp only [Exit.inBlock, Exit.then])
    (try rw [Exit.noGoto_ret])
    refine bodyPost_ret (v := .tuple #[.pointer none, .int .i64 5]) ?_ rfl (RetScl.no HF.out (below_n HB.out _))
    rw [results_tmp2 rfl]; rfl
  · go_upto_region 5 with (first | (go_at_call 34; refine (missing_any _ l _ HP.out HNG.out.nm).mono ?_; rintro e w' ⟨rfl, rfl⟩; rw [HN.out]) | (refine wpList_float rfl _ _ _ _ _ rfl rfl _ _ rfl rfl ?_; intro r n hr; have hq := neq_fin hr HF.out; simp only [Bool.not_true] at hq; clear hr))
    have hb := below_n (Below.refl w1.heap.size w1) n
    have HP2 := hid (HP.out.below' hb)
    have HX2 := hid (heap_later2 hb HX.out)
    have HB2 := hid (below_next HB.out hb)
    clear hb hq c0 HP HX HB
    generalize w1.drewN n = w2 at *
    go_wp2_with (go_at_call 35; refine (sourcesS_any p l gb by_ _ HP2.out HOB.out HOK.out HX2.out).mono ?_; intro e w3 hsc; obtain ⟨q, k, rfl, hb⟩ := hsc.form; have HSC := hid hsc; clear hsc hb)
    (try simp only [Exit.inBlock, Exit.then])
    (try rw [Exit.noGoto_ret])
    refine bodyPost_ret (v := .tuple #[q, .int .i64 k]) ?_ rfl (RetScl.yes HF.out (HSC.out.base HB2.out))
    rw [results_tmp2 rfl]; rfl
end Go.Proofs.YtjeedckmkicnoaaGreatDoor
