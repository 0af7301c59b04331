/- Walks of All: current.All, gridworkref21.All. -/
import Derived.Test.YtaobncojdonhlaaThru
namespace Go.Proofs.Ytaobncojdonhlaa
open Go.RowKit

def firstF (f : El → Cx × Int) : List El → Int
  | [] => 0
  | e :: r => if (f e).2 = 0 then firstF f r else (f e).2
theorem firstF_none {f : El → Cx × Int} : ∀ {r : List El}, (∀ (j : Nat) (e : El), r[j]? = some e → (f e).2 = 0) → firstF f r = 0
  | [], _ => rfl
  | e :: r, h => by
    unfold firstF
    rw [if_pos (h 0 e rfl)]
    exact firstF_none fun j x hx => h (j + 1) x (by simpa using hx)
theorem firstF_at {f : El → Cx × Int} : ∀ {r : List El} {k : Nat} {x : El}, r[k]? = some x → (∀ (j : Nat) (e : El), j < k → r[j]? = some e → (f e).2 = 0) → ¬ (f x).2 = 0 → firstF f r = (f x).2
  | [], _, _, h, _, _ => by simp at h
  | e :: r, 0, x, h, _, hx => by
    obtain rfl : e = x := by simpa using h
    unfold firstF
    rw [if_neg hx]
  | e :: r, k + 1, x, h, hb, hx => by
    unfold firstF
    rw [if_pos (hb 0 e (by omega) rfl)]
    exact firstF_at (by simpa using h) (fun j y hj hy => hb (j + 1) y (by omega) (by simpa using hy)) hx
/-- What flows through each, or what is wrong. -/
def allS (b : Bool) (l : List El) (V A : List Cx) (o : Nat) : List Cx × Int :=
  if chkS b l V A = 0 then (if firstF (flowS l V A o) l = 0 then (l.map fun e => (flowS l V A o e).1, 0) else ([], firstF (flowS l V A o) l)) else ([], chkS b l V A)
theorem all_bad {b : Bool} {l : List El} {V A : List Cx} {o : Nat} (h : ¬ chkS b l V A = 0) : allS b l V A o = ([], chkS b l V A) := by unfold allS; rw [if_neg h]
theorem all_stop {b : Bool} {l : List El} {V A : List Cx} {o k : Nat} {x : El} (hc : chkS b l V A = 0) (h : l[k]? = some x) (hb : ∀ (j : Nat) (e : El), j < k → l[j]? = some e → (flowS l V A o e).2 = 0) (hx : ¬ (flowS l V A o x).2 = 0) :
    allS b l V A o = ([], (flowS l V A o x).2) := by
  unfold allS
  rw [if_pos hc, firstF_at h hb hx, if_neg hx]
theorem all_good {b : Bool} {l : List El} {V A : List Cx} {o : Nat} (hc : chkS b l V A = 0) (hb : ∀ (j : Nat) (e : El), l[j]? = some e → (flowS l V A o e).2 = 0) :
    allS b l V A o = (l.map fun e => (flowS l V A o e).1, 0) := by
  unfold allS
  rw [if_pos hc, if_pos (firstF_none hb)]
theorem chk_made {b : Bool} {l : List El} {V A : List Cx} (h : chkS b l V A = 0) : b = false := by
  unfold chkS at h
  split at h
  · cases h
  · rename_i hb; exact Bool.eq_false_iff.2 hb
/-- A row of numbers of its own, and an error. -/
def RetAll (S : List Cx × Int) (w : World) (en : Ending) (w' : World) : Prop :=
  ∃ (v : Value) (xs : List Cx) (k : Int), en = .returned (.tuple #[v, .int .i64 k]) ∧ w'.ownsRow w.heap.size 48 1 v xs.length (xs.map mkC) ∧ (xs.map ck, k) = S ∧ Below w.heap.size w w'
theorem retall_no {S : List Cx × Int} {w w' : World} {k : Int} (h : S = ([], k)) (hb : Below w.heap.size w w') : RetAll S w (.returned (.tuple #[.slice none 0 0, .int .i64 k])) w' :=
  ⟨_, [], k, rfl, World.ownsRow_nil _ _ _ _, h.symm, hb⟩
set_option maxRecDepth 100000 in
set_option maxHeartbeats 2000000 in
theorem call_any (p : Value) (l : List El) (o : Nat) (v1 v2 : Value) (V A : List Cx) (w : World) (hp : NN w p l) (hl : l.length ≤ 100000) (hn : has (l.map El.name) ⟨#[]⟩ = false) (hok : NetOk l)
    (h1 : IsSl w 1 v1 V.length (V.map mkC)) (h2 : IsSl w 1 v2 A.length (A.map mkC)) (hlv : V.length * 16 ≤ 140737488351232) (hla : A.length * 16 ≤ 140737488351232) :
    Calls Try.prog 9 #[p, .agg #[.float .f64 o, v1, v2]] w (RetAll (allS (noNet p) l V A o) w) := by
  obtain ⟨i0, hi, hz0, hz1, hz2⟩ := info_parts infoC
  obtain ⟨iu, hiu, hu0, hu1, hu2⟩ := info_parts infoEa
  have hbw := (Below.refl w.heap.size w).alloc (Nat.le_refl _) (.cells #[.float .f64 o, v1, v2] 41)
  have hs0 := heap_alloc_new w (.cells #[.float .f64 o, v1, v2] 41)
  have HP := hid (hp.below' hbw)
  have HV := hid (h1.below hbw (Nat.le_refl _))
  have HA := hid (h2.below hbw (Nat.le_refl _))
  have HBW := hid hbw
  have HS := hid hs0
  have HL := hid hl
  have HOK := hid hok
  clear h1 h2 hbw hs0 hok hp
  go_enter Try.func9, Try.ntmps9
  go_upto_region 1 with fail
  generalize w.alloc (.cells #[.float .f64 o, v1, v2] 41) = w1 at *
  have hsc := (block_cells HS.out).1
  have s0 := hsc 0 _ rfl
  have s1 := hsc 1 _ rfl
  have s2 := hsc 2 _ rfl
  clear hsc
  by_cases hc : chkS (noNet p) l V A = 0
  · have HC := hid hc
    obtain ⟨hfv, hfa⟩ := chk_fits hc
    have HFV := hid hfv
    have HFA := hid hfa
    clear hc hfv hfa
    go_upto_region 2 with (go_at_call 31; refine (check_any p l o _ _ V A _ HP.out HL.out hn HV.out HA.out hlv hla).mono ?_; rintro en w2 ⟨rfl, hb⟩; rw [HC.out]; have HB2 := hid (below_next HBW.out hb); have HP2 := hid (HP.out.below' hb); have HV2 := hid (HV.out.below hb (Nat.le_refl _)); have HA2 := hid (HA.out.below hb (Nat.le_refl _)); have HS2 := hid (heap_later2 hb HS.out); clear hb)
    clear s0 s1 s2
    go_upto_region 6 with (go_at_call 32; refine (nelements_any p l _ HP2.out HL.out).mono ?_; rintro en w3 ⟨v0, xs0, rfl, hown0, rfl, hb⟩; obtain ⟨a3, c3, rfl⟩ := (IsSl.of_own hown0).form; have HI := hid (IsSl.of_own hown0); have HB3 := hid (below_next HB2.out hb); have HP3 := hid (HP2.out.below' hb); have HV3 := hid (HV2.out.below hb (Nat.le_refl _)); have HA3 := hid (HA2.out.below hb (Nat.le_refl _)); have HS3 := hid (heap_later2 hb HS2.out); clear hb hown0)
    go_loopw [7, 21] (fun out i wr => ∃ (k : Nat) (xs : List Cx), k ≤ l.length ∧ i = .int .i64 k ∧ wr.ownsRow w3.heap.size 48 1 out xs.length (xs.map mkC) ∧ xs.length = k ∧ xs.map ck = (l.take k).map (fun e => (flowS l V A o e).1) ∧ (∀ (j : Nat) (e : El), j < k → l[j]? = some e → (flowS l V A o e).2 = 0) ∧ Below w3.heap.size w3 wr) (fun _ i _ => l.length - (intOf i).toNat)
    case atStart => exact ⟨0, [], Nat.zero_le _, rfl, World.ownsRow_nil _ _ _ _, rfl, rfl, fun j e h => by omega, Below.refl _ _⟩
    case round =>
      obtain ⟨k, xs, hk, rfl, hown, hxl, hxs, hno, hb⟩ := hrel
      obtain ⟨ao, co, rfl⟩ := (IsSl.of_own hown).form
      obtain ⟨wo, rfl⟩ : ∃ wo : World, wo = wr := ⟨_, rfl⟩
      have HNO := hid hno
      have HXL := hid hxl
      have HXS := hid hxs
      have HOW := hid hown
      have HB := hid hb
      clear hno hxl hxs hown hb
      by_cases hlt : k < l.length
      · obtain ⟨g1, o1, x, hidx, hg, hx, hcell⟩ := IsSl.atF Try.underlying27 hiu hu1 ea_len (HI.out.below HB.out (Nat.le_refl _)) rfl hlt
        have HX := hid hx
        have HXM := hid (List.mem_of_getElem? hx)
        have HXO := hid (HOK.out x HXM.out).1
        have HXC := hid (HOK.out x HXM.out).2
        have c0 := hcell 0 _ rfl
        have c1 := hcell 1 _ rfl
        have c2 := hcell 2 _ rfl
        have c3 := hcell 3 _ rfl
        have c4 := hcell 4 _ rfl
        have c5 := hcell 5 _ rfl
        have c6 := hcell 6 _ rfl
        have c7 := hcell 7 _ rfl
        rw [Nat.add_zero] at c0
        clear hcell hx hg
        go_upto_region 8 with fail
        have hbx := heap_alloc_new wo (.cells #[.int .u8 x.kind, .string x.name, .string x.a, .string x.b, .string x.c, .string x.d, .float .f64 x.val, .int .i64 x.ph] 56)
        have hb5 := (Below.refl wo.heap.size wo).alloc (Nat.le_refl _) (.cells #[.int .u8 x.kind, .string x.name, .string x.a, .string x.b, .string x.c, .string x.d, .float .f64 x.val, .int .i64 x.ph] 56)
        have HB5 := hid (HB.out.trans (hb5.mono HB.out.size))
        have HOW5 := hid (own_none HOW.out (grown_of_below hb5 none))
        clear hb5
        generalize wo.alloc (.cells #[.int .u8 x.kind, .string x.name, .string x.a, .string x.b, .string x.c, .string x.d, .float .f64 x.val, .int .i64 x.ph] 56) = w5 at *
        generalize wo.heap.size = gb at *
        have HP5 := hid (HP3.out.below HB5.out (Nat.le_refl _))
        have HV5 := hid (HV3.out.below HB5.out (Nat.le_refl _))
        have HA5 := hid (HA3.out.below HB5.out (Nat.le_refl _))
        have hsc := (block_cells (heap_later2 HB5.out HS3.out)).1
        have s0 := hsc 0 _ rfl
        have s1 := hsc 1 _ rfl
        have s2 := hsc 2 _ rfl
        have hec := (block_cells hbx).1
        have e0 := hec 0 _ rfl
        have e1 := hec 1 _ rfl
        have e2 := hec 2 _ rfl
        have e3 := hec 3 _ rfl
        have e4 := hec 4 _ rfl
        have e5 := hec 5 _ rfl
        have e6 := hec 6 _ rfl
        have e7 := hec 7 _ rfl
        clear hsc hec hbx c0 c1 c2 c3 c4 c5 c6 c7
        by_cases hfe : (flowS l V A o x).2 = 0
        · have HFE := hid hfe
          clear hfe
          go_upto_region 9 with (go_at_call 33; refine (through_any p l o _ _ V A x _ HP5.out HXO.out HXC.out HXM.out HV5.out HA5.out HFV.out HFA.out).mono ?_; rintro en w6 ⟨v, rfl, hb, r, i, k', rfl, hz⟩; obtain rfl : k' = 0 := (congrArg Prod.snd hz).trans HFE.out; have HZ := hid hz; have HB6 := hid (HB5.out.trans (hb.mono HB5.out.size)); have hown := own_none HOW5.out (grown_of_below hb none); clear hb hz)
          have hsz := HB6.out.size
          go_wp2_with (refine wpList_push2 rfl rfl _ rfl _ _ _ rfl rfl w3.heap.size 48 1 16 i0 (.complex .f64 0 0) Try.underlying39 hi hz0 hz1 hz2 rfl (by decide) (by decide) _ xs.length _ hown hsz (.complex .f64 r i) rfl rfl (by intro u hu; simp [Value.cells] at hu; subst hu; rfl) rfl rfl (by have := HXL.out; simp [maxLen]; omega) (by have := HXL.out; omega) ?_; intro r1 cap1 w7 hown7 hlt7 htwo; have HO7 := hid hown7; have HP7 := hid (show Pushed w6 w7 (Value.slice ao xs.length co) r1 from htwo); clear htwo hown7 hown)
          go_roundw
          case rel =>
            refine ⟨k + 1, xs ++ [(r, i)], by omega, by go_num, ?_, by rw [List.length_append, HXL.out]; rfl, ?_, ?_, ?_⟩
            · have := HO7.out
              rw [List.length_append, List.map_append]
              exact this
            · rw [List.map_append, HXS.out]
              obtain ⟨hk2, e⟩ := List.getElem?_eq_some_iff.1 HX.out
              rw [List.take_succ_eq_append_getElem hk2, List.map_append, e]
              show _ ++ [(fc r, fc i)] = _ ++ [(flowS l V A o x).1]
              rw [show (fc r, fc i) = (flowS l V A o x).1 from congrArg Prod.fst HZ.out]
            · intro j e hj he
              rcases Nat.lt_or_ge j k with h | h
              · exact HNO.out j e h he
              · obtain rfl : j = k := by omega
                rw [HX.out] at he
                cases he
                exact HFE.out
            · exact HB6.out.grown (pushed_grown HP7.out) HB6.out.size (fun k x => (HOW.out.lt _ x).1)
          case measure => simp [intOf]; omega
        · have HFE := hid hfe
          have hfq : ((flowS l V A o x).2 == 0) = false := by simpa using hfe
          have hfn : ((flowS l V A o x).2 != 0) = true := by simpa using hfe
          clear hfe
          go_wp2_with (go_at_call 33; refine (through_any p l o _ _ V A x _ HP5.out HXO.out HXC.out HXM.out HV5.out HA5.out HFV.out HFA.out).mono ?_; rintro en w6 ⟨v, rfl, hb, r, i, k', rfl, hz⟩; obtain rfl : k' = (flowS l V A o x).2 := congrArg Prod.snd hz; have HZ := hid hz; have HB6 := hid (HB5.out.trans (hb.mono HB5.out.size)); have hown := own_none HOW5.out (grown_of_below hb none); clear hb hz)
          (try rw [Exit.noGoto_ret])
          refine bodyPost_ret (v := .tuple #[.slice none 0 0, .int .i64 (flowS l V A o x).2]) ?_ rfl (retall_no (all_stop HC.out HX.out HNO.out HFE.out) (below_next HB3.out HB6.out))
          rw [results_tmp2 rfl]; rfl
      · obtain rfl : k = l.length := by omega
        rw [List.take_length] at HXS
        go_wp2_with fail
        (try rw [Exit.noGoto_ret])
        refine bodyPost_ret (v := .tuple #[.slice ao xs.length co, .int .i64 0]) ?_ rfl ⟨_, xs, 0, rfl, own_base HOW.out HB3.out.size, by rw [all_good HC.out (fun j e he => HNO.out j e (List.getElem?_eq_some_iff.1 he).1 he), HXS.out], below_next HB3.out HB.out⟩
        rw [results_tmp2 rfl]; rfl
  · have HC := hid hc
    have hcq : (chkS (noNet p) l V A == 0) = false := by simpa using hc
    have hcn : (chkS (noNet p) l V A != 0) = true := by simpa using hc
    go_wp2_with (go_at_call 31; refine (check_any p l o _ _ V A _ HP.out HL.out hn HV.out HA.out hlv hla).mono ?_; rintro en w2 ⟨rfl, hb⟩; have HB2 := hid (below_next HBW.out hb); clear hb)
    (try rw [Exit.noGoto_ret])
    refine bodyPost_ret (v := .tuple #[.slice none 0 0, .int .i64 (chkS (noNet p) l V A)]) ?_ rfl (retall_no (all_bad HC.out) HB2.out)
    rw [results_tmp2 rfl]; rfl
end Go.Proofs.Ytaobncojdonhlaa
