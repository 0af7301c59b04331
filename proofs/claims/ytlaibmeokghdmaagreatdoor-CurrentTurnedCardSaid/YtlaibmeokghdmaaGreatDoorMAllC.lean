/- Walks of Through: current.Through, gridworkref21.Through. -/
import Derived.Test.YtlaibmeokghdmaaGreatDoorCur5
import Derived.Test.YtlaibmeokghdmaaGreatDoorMNl
namespace Go.Proofs.YtlaibmeokghdmaaGreatDoor

section
open Go.RowKit

/-- What flows through the element of a name, or what is wrong. -/
def thruS (b : Bool) (l : List El) (V A : List Cx) (o : Nat) (s : ByteArray) : Cx × Int :=
  if chkS b l V A = 0 then (match findE l s with | some x => flowS l V A o x | none => ((fc 0, fc 0), 10)) else ((fc 0, fc 0), chkS b l V A)
theorem thru_bad {b : Bool} {l : List El} {V A : List Cx} {o : Nat} {s : ByteArray} (h : ¬ chkS b l V A = 0) : thruS b l V A o s = ((fc 0, fc 0), chkS b l V A) := by unfold thruS; rw [if_neg h]
theorem thru_none {b : Bool} {l : List El} {V A : List Cx} {o : Nat} {s : ByteArray} (h : chkS b l V A = 0) (h2 : findE l s = none) : thruS b l V A o s = ((fc 0, fc 0), 10) := by unfold thruS; rw [if_pos h, h2]
theorem thru_some {b : Bool} {l : List El} {V A : List Cx} {o : Nat} {s : ByteArray} {x : El} (h : chkS b l V A = 0) (h2 : findE l s = some x) : thruS b l V A o s = flowS l V A o x := by unfold thruS; rw [if_pos h, h2]
theorem chk_fits {b : Bool} {l : List El} {V A : List Cx} (h : chkS b l V A = 0) : V.length = (nds l).length ∧ A.length = (brs l).length := by
  unfold chkS at h
  split at h
  · cases h
  · split at h
    · assumption
    · cases h
theorem findE_mem {l : List El} {s : ByteArray} {x : El} (h : findE l s = some x) : x ∈ l := List.mem_of_find?_eq_some h
set_option maxRecDepth 100000 in
set_option maxHeartbeats 2000000 in
theorem cthru_any (p : Value) (l : List El) (o : Nat) (v1 v2 : Value) (V A : List Cx) (s : ByteArray) (w : World) (hp : NN w p l) (hl : l.length ≤ 100000) (hn : has (l.map El.name) ⟨#[]⟩ = false) (hs : s.size ≤ maxLen) (hok : NetOk l)
    (h1 : IsSl w 1 v1 V.length (V.map mkC)) (h2 : IsSl w 1 v2 A.length (A.map mkC)) (hlv : V.length * 16 ≤ 140737488351232) (hla : A.length * 16 ≤ 140737488351232) :
    Calls Tryz.prog 24 #[p, .agg #[.float .f64 o, v1, v2], .string s] w (RetB (IsCE (thruS (noNet p) l V A o s)) w) := by
  have hbw := (Below.refl w.heap.size w).alloc (Nat.le_refl _) (.cells #[.float .f64 o, v1, v2] 63)
  have hs0 := heap_alloc_new w (.cells #[.float .f64 o, v1, v2] 63)
  have HP := hid (hp.below' hbw)
  have HV := hid (h1.below hbw (Nat.le_refl _))
  have HA := hid (h2.below hbw (Nat.le_refl _))
  have HBW := hid hbw
  have HS := hid hs0
  have HL := hid hl
  have HOK := hid hok
  clear h1 h2 hbw hs0 hl hok hp
  go_enter Tryz.func24, Tryz.ntmps24
  go_upto_region 1 with fail
  generalize w.alloc (.cells #[.float .f64 o, v1, v2] 63) = w1 at *
  have hsc := (block_cells HS.out).1
  have s0 := hsc 0 _ rfl
  have s1 := hsc 1 _ rfl
  have s2 := hsc 2 _ rfl
  clear hsc
  by_cases hc : chkS (noNet p) l V A = 0
  · have HC := hid hc
    go_upto_region 2 with (go_at_call 45; refine (check_any p l o _ _ V A _ HP.out HL.out hn HV.out HA.out hlv hla).mono ?_; rintro en w2 ⟨rfl, hb⟩; rw [HC.out]; have HB2 := hid (below_next HBW.out hb); have HP2 := hid (HP.out.below' hb); have HV2 := hid (HV.out.below hb (Nat.le_refl _)); have HA2 := hid (HA.out.below hb (Nat.le_refl _)); have HS2 := hid (heap_later2 hb HS.out); clear hb)
    clear s0 s1 s2
    cases hf : findE l s with
    | none =>
      have HF := hid hf
      clear hf
      go_wp2_with (go_at_call 46; refine (nfind_any p l s _ HP2.out hs HL.out).mono ?_; rintro en w3 ⟨rfl, hb⟩; rw [HF.out]; have HB3 := hid (below_next HB2.out hb); simp only [Option.getD_none, Option.isSome_none, zEl]; clear hb)
      (try rw [Exit.noGoto_ret])
      refine bodyPost_ret (v := .tuple #[.complex .f64 0 0, .int .i64 10]) ?_ rfl ⟨_, rfl, HB3.out.alloc HB3.out.size _, _, _, _, rfl, by rw [thru_none HC.out HF.out]⟩
      rw [results_tmp2 rfl]; rfl
    | some x =>
      have HF := hid hf
      obtain ⟨hxo, hxc⟩ := HOK.out x (findE_mem hf)
      have HXO := hid hxo
      have HXC := hid hxc
      have HXM := hid (findE_mem hf)
      clear hf hxo hxc
      obtain ⟨hfv, hfa⟩ := chk_fits hc
      have HFV := hid hfv
      have HFA := hid hfa
      clear hc hfv hfa
      go_upto_region 5 with (go_at_call 46; refine (nfind_any p l s _ HP2.out hs HL.out).mono ?_; rintro en w3 ⟨rfl, hb⟩; rw [HF.out]; simp only [Option.getD_some, Option.isSome_some]; have HB3 := hid (below_next HB2.out hb); have HP3 := hid (HP2.out.below' hb); have HV3 := hid (HV2.out.below hb (Nat.le_refl _)); have HA3 := hid (HA2.out.below hb (Nat.le_refl _)); have HS3 := hid (heap_later2 hb HS2.out); clear hb)
      have hb4 := (Below.refl w3.heap.size w3).alloc (Nat.le_refl _) (.cells #[.int .u8 x.kind, .string x.name, .string x.a, .string x.b, .string x.c, .string x.d, .float .f64 x.val, .int .i64 x.ph] 44)
      have hx4 := heap_alloc_new w3 (.cells #[.int .u8 x.kind, .string x.name, .string x.a, .string x.b, .string x.c, .string x.d, .float .f64 x.val, .int .i64 x.ph] 44)
      have HB4 := hid (below_next HB3.out hb4)
      have HP4 := hid (HP3.out.below' hb4); have HV4 := hid (HV3.out.below hb4 (Nat.le_refl _)); have HA4 := hid (HA3.out.below hb4 (Nat.le_refl _)); have hs4 := heap_later2 hb4 HS3.out
      clear hb4
      generalize w3.alloc (.cells #[.int .u8 x.kind, .string x.name, .string x.a, .string x.b, .string x.c, .string x.d, .float .f64 x.val, .int .i64 x.ph] 44) = w4 at *
      generalize w3.heap.size = gx at *
      have hsc := (block_cells hs4).1
      have s0 := hsc 0 _ rfl
      have s1 := hsc 1 _ rfl
      have s2 := hsc 2 _ rfl
      have hec := (block_cells hx4).1
      have e0 := hec 0 _ rfl
      have e1 := hec 1 _ rfl
      have e2 := hec 2 _ rfl
      have e3 := hec 3 _ rfl
      have e4 := hec 4 _ rfl
      have e5 := hec 5 _ rfl
      have e6 := hec 6 _ rfl
      have e7 := hec 7 _ rfl
      clear hsc hec hs4 hx4
      go_wp2_with (go_at_call 47; refine (through_any p l o _ _ V A x _ HP4.out HXO.out HXC.out HXM.out HV4.out HA4.out HFV.out HFA.out).mono ?_; rintro en w5 ⟨v, rfl, hb, r, i, k, rfl, hz⟩; have HB5 := hid (below_next HB4.out hb); clear hb)
      (try rw [Exit.noGoto_ret])
      refine bodyPost_ret (v := .tuple #[.complex .f64 r i, .int .i64 k]) ?_ rfl ⟨_, rfl, HB5.out, _, _, _, rfl, by rw [thru_some HC.out HF.out]; exact hz⟩
      rw [results_tmp2 rfl]; rfl
  · have HC := hid hc
    have hcq : (chkS (noNet p) l V A == 0) = false := by simpa using hc
    have hcn : (chkS (noNet p) l V A != 0) = true := by simpa using hc
    go_wp2_with (go_at_call 45; refine (check_any p l o _ _ V A _ HP.out HL.out hn HV.out HA.out hlv hla).mono ?_; rintro en w2 ⟨rfl, hb⟩; have HB2 := hid (below_next HBW.out hb); clear hb)
    (try rw [Exit.noGoto_ret])
    refine bodyPost_ret (v := .tuple #[.complex .f64 0 0, .int .i64 (chkS (noNet p) l V A)]) ?_ rfl ⟨_, rfl, HB2.out, _, _, _, rfl, by rw [thru_bad HC.out]⟩
    rw [results_tmp2 rfl]; rfl
end

section
/- Walks of All: current.All, gridworkref21.All. -/
open Go.RowKit

def firstF (f : El → Cx × Int) : List El → Int
  | [] => 0
  | e :: r => if (f e).2 = 0 then firstF f r else (f e).2
theorem firstF_none {f : El → Cx × Int} : ∀ {r : List El}, (∀ (j : Nat) (e : El), r[j]? = some e → (f e).2 = 0) → firstF f r = 0
  | [], _ => rfl
  | e :: r, h => by
    unfold firstF
    rw [if_pos (h 0 e rfl)]
    exact firstF_none fun j x hx => h (j + 1) x (by simpa using hx)
theorem firstF_at {f : El → Cx × Int} : ∀ {r : List El} {k : Nat} {x : El}, r[k]? = some x → (∀ (j : Nat) (e : El), j < k → r[j]? = some e → (f e).2 = 0) → ¬ (f x).2 = 0 → firstF f r = (f x).2
  | [], _, _, h, _, _ => by simp at h
  | e :: r, 0, x, h, _, hx => by
    obtain rfl : e = x := by simpa using h
    unfold firstF
    rw [if_neg hx]
  | e :: r, k + 1, x, h, hb, hx => by
    unfold firstF
    rw [if_pos (hb 0 e (by omega) rfl)]
    exact firstF_at (by simpa using h) (fun j y hj hy => hb (j + 1) y (by omega) (by simpa using hy)) hx
/-- What flows through each, or what is wrong. -/
def allS (b : Bool) (l : List El) (V A : List Cx) (o : Nat) : List Cx × Int :=
  if chkS b l V A = 0 then (if firstF (flowS l V A o) l = 0 then (l.map fun e => (flowS l V A o e).1, 0) else ([], firstF (flowS l V A o) l)) else ([], chkS b l V A)
theorem all_bad {b : Bool} {l : List El} {V A : List Cx} {o : Nat} (h : ¬ chkS b l V A = 0) : allS b l V A o = ([], chkS b l V A) := by unfold allS; rw [if_neg h]
theorem all_stop {b : Bool} {l : List El} {V A : List Cx} {o k : Nat} {x : El} (hc : chkS b l V A = 0) (h : l[k]? = some x) (hb : ∀ (j : Nat) (e : El), j < k → l[j]? = some e → (flowS l V A o e).2 = 0) (hx : ¬ (flowS l V A o x).2 = 0) :
    allS b l V A o = ([], (flowS l V A o x).2) := by
  unfold allS
  rw [if_pos hc, firstF_at h hb hx, if_neg hx]
theorem all_good {b : Bool} {l : List El} {V A : List Cx} {o : Nat} (hc : chkS b l V A = 0) (hb : ∀ (j : Nat) (e : El), l[j]? = some e → (flowS l V A o e).2 = 0) :
    allS b l V A o = (l.map fun e => (flowS l V A o e).1, 0) := by
  unfold allS
  rw [if_pos hc, if_pos (firstF_none hb)]
theorem chk_made {b : Bool} {l : List El} {V A : List Cx} (h : chkS b l V A = 0) : b = false := by
  unfold chkS at h
  split at h
  · cases h
  · rename_i hb; exact Bool.eq_false_iff.2 hb
/-- A row of numbers of its own, and an error. -/
def RetAll (S : List Cx × Int) (w : World) (en : Ending) (w' : World) : Prop :=
  ∃ (v : Value) (xs : List Cx) (k : Int), en = .returned (.tuple #[v, .int .i64 k]) ∧ w'.ownsRow w.heap.size 47 1 v xs.length (xs.map mkC) ∧ (xs.map ck, k) = S ∧ Below w.heap.size w w'
theorem retall_no {S : List Cx × Int} {w w' : World} {k : Int} (h : S = ([], k)) (hb : Below w.heap.size w w') : RetAll S w (.returned (.tuple #[.slice none 0 0, .int .i64 k])) w' :=
  ⟨_, [], k, rfl, World.ownsRow_nil _ _ _ _, h.symm, hb⟩
end
end Go.Proofs.YtlaibmeokghdmaaGreatDoor
