/- phasor.Across, phasor.Branch. -/
import Derived.Test.YtjeedckmkicnoaaGreatDoorAskR
namespace Go.Proofs.YtjeedckmkicnoaaGreatDoor
open Go.RowKit

theorem enter_Branch (args : Array Value) (w : World) : (callFunc 52 args).run Tryz.prog w = .ok (.enter 52 args) w := by
  have h : (Tryz.f52.name == "runtime.NumGoroutine") = false := by kernel_rfl
  have h2 : Tryz.f52.body.isNone = false := by kernel_rfl
  simp only [callFunc, Sem.run_bind, run_program, Result.andThen_ok, Tryz.func52, h, h2, Bool.false_eq_true, if_false, Sem.run_pure]
/-- The number of a list at a name's place; 0. -/
def atS (ns : List ByteArray) (xs : List Cx) (t : ByteArray) : Cx := if has ns t = true then xs.getD (plI ns t).toNat (0, 0) else (0, 0)
theorem at_place20 (p v : Value) (l : List El) (xs : List Cx) (t : ByteArray) (w : World) (hp : NN w p l) (hv : IsSl w 1 v xs.length (xs.map mkC)) (hk : xs.length = (nds l).length) (ht : t.size ≤ maxLen) :
    Calls Tryz.prog 48 #[.func (.func 49) #[p] #[], v, .string t] w fun e w' => e = .returned (.tuple #[mkC (atS (nds l) xs t), .bool (has (nds l) t)]) ∧ Below w.heap.size w w' := by
  cases hh : has (nds l) t
  · refine (at_any _ _ _ 0 false xs _ _ hv (fun h => by cases h) enter_Place ((nplace_any p l t _ hp ht).mono (by rintro e w' ⟨rfl, rfl⟩; exact ⟨by rw [hh, plI_no hh]; rfl, rfl⟩))).mono ?_
    rintro e w' ⟨rfl, hb⟩
    exact ⟨by unfold atS; rw [if_neg (by simp), if_neg (by rw [hh]; simp)], hb⟩
  · obtain ⟨j, hj, hj2⟩ := pl_in2 hh
    refine (at_any _ _ _ j true xs _ _ hv (fun _ => by omega) enter_Place ((nplace_any p l t _ hp ht).mono (by rintro e w' ⟨rfl, rfl⟩; exact ⟨by rw [hh, hj], rfl⟩))).mono ?_
    rintro e w' ⟨rfl, hb⟩
    exact ⟨by unfold atS; rw [if_pos rfl, if_pos hh, hj]; simp, hb⟩
theorem at_branch20 (p v : Value) (l : List El) (xs : List Cx) (t : ByteArray) (w : World) (hp : NN w p l) (hv : IsSl w 1 v xs.length (xs.map mkC)) (hk : xs.length = (brs l).length) (ht : t.size ≤ maxLen) :
    Calls Tryz.prog 48 #[.func (.func 52) #[p] #[], v, .string t] w fun e w' => e = .returned (.tuple #[mkC (atS (brs l) xs t), .bool (has (brs l) t)]) ∧ Below w.heap.size w w' := by
  cases hh : has (brs l) t
  · refine (at_any _ _ _ 0 false xs _ _ hv (fun h => by cases h) enter_Branch ((nbranch_any p l t _ hp ht).mono (by rintro e w' ⟨rfl, rfl⟩; exact ⟨by rw [hh, plI_no hh]; rfl, rfl⟩))).mono ?_
    rintro e w' ⟨rfl, hb⟩
    exact ⟨by unfold atS; rw [if_neg (by simp), if_neg (by rw [hh]; simp)], hb⟩
  · obtain ⟨j, hj, hj2⟩ := pl_in2 hh
    refine (at_any _ _ _ j true xs _ _ hv (fun _ => by omega) enter_Branch ((nbranch_any p l t _ hp ht).mono (by rintro e w' ⟨rfl, rfl⟩; exact ⟨by rw [hh, hj], rfl⟩))).mono ?_
    rintro e w' ⟨rfl, hb⟩
    exact ⟨by unfold atS; rw [if_pos rfl, if_pos hh, hj]; simp, hb⟩
theorem vlt_at {l : List El} {xs : List Cx} {na : Nat} {t : ByteArray} (h : fitsS false xs.length na (nds l).length (brs l).length = 0) : (vltS false l xs na t).1 = atS (nds l) xs t := by
  unfold vltS atS
  rw [h, if_neg (fun h => h rfl)]
  by_cases h2 : has (nds l) t = true
  · rw [if_pos h2, if_pos h2]
  · rw [if_neg h2, if_neg h2]; split <;> rfl
theorem findE_ok {l : List El} {t : ByteArray} {x : El} (h : findE l t = some x) : x ∈ l := List.mem_of_find?_eq_some h
set_option maxRecDepth 100000 in
set_option maxHeartbeats 2000000 in
theorem across_any (p v va : Value) (l : List El) (om : Nat) (xs ys : List Cx) (t : ByteArray) (w : World) (hp : NN w p l) (hg : NetG l) (hv : IsSl w 1 v xs.length (xs.map mkC)) (ha : IsSl w 1 va ys.length (ys.map mkC)) (ht : t.size ≤ maxLen) :
    Calls Tryz.prog 20 #[p, .agg #[.float .f64 om, v, va], .string t] w (RetCE (acrS (noNet p) l xs ys.length t) w) := by
  obtain ⟨av, cv, rfl⟩ := hv.form
  obtain ⟨aa, ca, rfl⟩ := ha.form
  have hb1 := (Below.refl w.heap.size w).alloc (Nat.le_refl _) (.cells #[.float .f64 om, .slice av xs.length cv, .slice aa ys.length ca] 50)
  have HBO := hid hb1
  have HS := hid (heap_alloc_new w (.cells #[.float .f64 om, .slice av xs.length cv, .slice aa ys.length ca] 50))
  have HP := hid (hp.below hb1 (Nat.le_refl _))
  have HV := hid (hv.below hb1 (Nat.le_refl _))
  have HA := hid (ha.below hb1 (Nat.le_refl _))
  have HG := hid hg
  have HTL := hid ht
  clear hp hg hv ha hb1 ht
  obtain ⟨fe, hfe⟩ : ∃ fe, fitsS (noNet p) xs.length ys.length (nds l).length (brs l).length = fe := ⟨_, rfl⟩
  have HFE := hid hfe
  clear hfe
  go_enter Tryz.func20, Tryz.ntmps20
  go_upto_region 1 with fail
  generalize w.alloc (.cells #[.float .f64 om, .slice av xs.length cv, .slice aa ys.length ca] 50) = w1 at *
  obtain ⟨gs, hgs⟩ : ∃ gs, w.heap.size = gs := ⟨_, rfl⟩
  rw [hgs] at HS ⊢
  clear hgs
  have hbk := block_cells HS.out
  have s0 := hbk.1 0 _ rfl
  have s1 := hbk.1 1 _ rfl
  have s2 := hbk.1 2 _ rfl
  clear hbk
  go_upto_region 2 with (go_at_call 47; refine (fits_any2 p l om _ _ _ _ _ _ _ HP.out HG.out).mono ?_; rintro e w2 ⟨rfl, hb⟩; have HS1 := hid (heap_later2 hb HS.out); have HP1 := hid (HP.out.below' hb); have HV1 := hid (HV.out.below hb (Nat.le_refl _)); have HA1 := hid (HA.out.below hb (Nat.le_refl _)); have HB1 := hid (below_next HBO.out hb); rw [HFE.out]; clear hb )
  clear HS HP HV HA HBO
  clear s0 s1 s2
  by_cases h0 : fe = 0
  rotate_left
  · have hb0 : (fe == 0) = false := by simpa using h0
    have hb1 : (fe != 0) = true := by simpa using h0
    have HW := hid (acr_bad (t := t) HFE.out h0)
    go_wp2
    (try simp only [Exit.inBlock, Exit.then])
    (try rw [Exit.noGoto_ret])
    refine bodyPost_ret (v := .tuple #[.complex .f64 0 0, .int .i64 fe]) ?_ rfl (RetCE.of (by rw [HW.out, ck0]) HB1.out)
    rw [results_tmp2 rfl]; rfl
  subst h0
  obtain ⟨hn, hk, hm⟩ := fits_zero HFE.out
  have HN := hid hn
  have HK := hid hk
  have HM := hid hm
  clear hn hk hm
  cases hf : findE l t
  · have HF := hid hf
    have HW := hid (acr_none HFE.out hf)
    clear hf
    go_upto_region 5 with (go_at_call 50; refine (nfind_any p l t _ HP1.out HTL.out (by have := HG.out.len; omega)).mono ?_; rintro e w3 ⟨rfl, hb⟩; have HS2 := hid (heap_later2 hb HS1.out); have HP2 := hid (HP1.out.below' hb); have HV2 := hid (HV1.out.below hb (Nat.le_refl _)); have HA2 := hid (HA1.out.below hb (Nat.le_refl _)); have HB2 := hid (below_next HB1.out hb); rw [HF.out]; dsimp only [Option.getD_some, Option.getD_none, Option.isSome_some, Option.isSome_none]; clear hb )
    clear HS1 HP1 HV1 HA1 HB1
    have HS3 := hid (heap_later2 ((Below.refl w3.heap.size w3).alloc (Nat.le_refl _) (.cells #[.int .u8 zEl.kind, .string zEl.name, .string zEl.a, .string zEl.b, .string zEl.c, .string zEl.d, .float .f64 zEl.val, .int .i64 zEl.ph] 81)) HS2.out)
    have HP3 := hid (HP2.out.below' ((Below.refl w3.heap.size w3).alloc (Nat.le_refl _) (.cells #[.int .u8 zEl.kind, .string zEl.name, .string zEl.a, .string zEl.b, .string zEl.c, .string zEl.d, .float .f64 zEl.val, .int .i64 zEl.ph] 81)))
    have HV3 := hid (HV2.out.below ((Below.refl w3.heap.size w3).alloc (Nat.le_refl _) (.cells #[.int .u8 zEl.kind, .string zEl.name, .string zEl.a, .string zEl.b, .string zEl.c, .string zEl.d, .float .f64 zEl.val, .int .i64 zEl.ph] 81)) (Nat.le_refl _))
    have HA3 := hid (HA2.out.below ((Below.refl w3.heap.size w3).alloc (Nat.le_refl _) (.cells #[.int .u8 zEl.kind, .string zEl.name, .string zEl.a, .string zEl.b, .string zEl.c, .string zEl.d, .float .f64 zEl.val, .int .i64 zEl.ph] 81)) (Nat.le_refl _))
    have HB3 := hid (below_next HB2.out ((Below.refl w3.heap.size w3).alloc (Nat.le_refl _) (.cells #[.int .u8 zEl.kind, .string zEl.name, .string zEl.a, .string zEl.b, .string zEl.c, .string zEl.d, .float .f64 zEl.val, .int .i64 zEl.ph] 81)))
    have HE := hid (heap_alloc_new w3 (.cells #[.int .u8 zEl.kind, .string zEl.name, .string zEl.a, .string zEl.b, .string zEl.c, .string zEl.d, .float .f64 zEl.val, .int .i64 zEl.ph] 81))
    clear HS2 HP2 HV2 HA2 HB2
    generalize w3.alloc (.cells #[.int .u8 zEl.kind, .string zEl.name, .string zEl.a, .string zEl.b, .string zEl.c, .string zEl.d, .float .f64 zEl.val, .int .i64 zEl.ph] 81) = w4 at *
    obtain ⟨ge, hge⟩ : ∃ ge, w3.heap.size = ge := ⟨_, rfl⟩
    rw [hge] at HE ⊢
    clear hge
    go_wp2
    (try simp only [Exit.inBlock, Exit.then])
    (try rw [Exit.noGoto_ret])
    refine bodyPost_ret (v := .tuple #[.complex .f64 0 0, .int .i64 10]) ?_ rfl (RetCE.of (by rw [HW.out, ck0]) HB3.out)
    rw [results_tmp2 rfl]; rfl
  rename_i x
  have HF := hid hf
  have HW := hid (acr_some HFE.out hf)
  have HXO := hid (HG.out.ok x (findE_ok hf))
  clear hf
  go_upto_region 5 with (go_at_call 50; refine (nfind_any p l t _ HP1.out HTL.out (by have := HG.out.len; omega)).mono ?_; rintro e w3 ⟨rfl, hb⟩; have HS2 := hid (heap_later2 hb HS1.out); have HP2 := hid (HP1.out.below' hb); have HV2 := hid (HV1.out.below hb (Nat.le_refl _)); have HA2 := hid (HA1.out.below hb (Nat.le_refl _)); have HB2 := hid (below_next HB1.out hb); rw [HF.out]; dsimp only [Option.getD_some, Option.getD_none, Option.isSome_some, Option.isSome_none]; clear hb )
  clear HS1 HP1 HV1 HA1 HB1
  have HS3 := hid (heap_later2 ((Below.refl w3.heap.size w3).alloc (Nat.le_refl _) (.cells #[.int .u8 x.kind, .string x.name, .string x.a, .string x.b, .string x.c, .string x.d, .float .f64 x.val, .int .i64 x.ph] 81)) HS2.out)
  have HP3 := hid (HP2.out.below' ((Below.refl w3.heap.size w3).alloc (Nat.le_refl _) (.cells #[.int .u8 x.kind, .string x.name, .string x.a, .string x.b, .string x.c, .string x.d, .float .f64 x.val, .int .i64 x.ph] 81)))
  have HV3 := hid (HV2.out.below ((Below.refl w3.heap.size w3).alloc (Nat.le_refl _) (.cells #[.int .u8 x.kind, .string x.name, .string x.a, .string x.b, .string x.c, .string x.d, .float .f64 x.val, .int .i64 x.ph] 81)) (Nat.le_refl _))
  have HA3 := hid (HA2.out.below ((Below.refl w3.heap.size w3).alloc (Nat.le_refl _) (.cells #[.int .u8 x.kind, .string x.name, .string x.a, .string x.b, .string x.c, .string x.d, .float .f64 x.val, .int .i64 x.ph] 81)) (Nat.le_refl _))
  have HB3 := hid (below_next HB2.out ((Below.refl w3.heap.size w3).alloc (Nat.le_refl _) (.cells #[.int .u8 x.kind, .string x.name, .string x.a, .string x.b, .string x.c, .string x.d, .float .f64 x.val, .int .i64 x.ph] 81)))
  have HE := hid (heap_alloc_new w3 (.cells #[.int .u8 x.kind, .string x.name, .string x.a, .string x.b, .string x.c, .string x.d, .float .f64 x.val, .int .i64 x.ph] 81))
  clear HS2 HP2 HV2 HA2 HB2
  generalize w3.alloc (.cells #[.int .u8 x.kind, .string x.name, .string x.a, .string x.b, .string x.c, .string x.d, .float .f64 x.val, .int .i64 x.ph] 81) = w4 at *
  obtain ⟨ge, hge⟩ : ∃ ge, w3.heap.size = ge := ⟨_, rfl⟩
  rw [hge] at HE ⊢
  clear hge
  have hbk := block_cells HS3.out
  have s1 := hbk.1 1 _ rfl
  have s2 := hbk.1 2 _ rfl
  clear hbk
  have hbk := block_cells HE.out
  have e2 := hbk.1 2 _ rfl
  have e3 := hbk.1 3 _ rfl
  clear hbk
  go_upto_region 8 with (go_at_call 48; refine (at_place20 p _ l xs x.a _ HP3.out HV3.out HK.out HXO.out.a).mono ?_; rintro e w5 ⟨rfl, hb⟩; have HS4 := hid (heap_later2 hb HS3.out); have HP4 := hid (HP3.out.below' hb); have HV4 := hid (HV3.out.below hb (Nat.le_refl _)); have HA4 := hid (HA3.out.below hb (Nat.le_refl _)); have HE4 := hid (heap_later2 hb HE.out); have HB4 := hid (below_next HB3.out hb); (obtain ⟨za, hza⟩ : ∃ z, atS (nds l) xs x.a = z := ⟨_, rfl⟩); rw [hza]; have HZa := hid hza; clear hza; clear hb )
  clear HS3 HP3 HV3 HA3 HE HB3
  clear s1 s2 e2 e3
  have hbk := block_cells HS4.out
  have s1 := hbk.1 1 _ rfl
  have s2 := hbk.1 2 _ rfl
  clear hbk
  have hbk := block_cells HE4.out
  have e2 := hbk.1 2 _ rfl
  have e3 := hbk.1 3 _ rfl
  clear hbk
  go_upto_region 9 with (go_at_call 48; refine (at_place20 p _ l xs x.b _ HP4.out HV4.out HK.out HXO.out.b).mono ?_; rintro e w6 ⟨rfl, hb⟩; have HS5 := hid (heap_later2 hb HS4.out); have HP5 := hid (HP4.out.below' hb); have HV5 := hid (HV4.out.below hb (Nat.le_refl _)); have HA5 := hid (HA4.out.below hb (Nat.le_refl _)); have HE5 := hid (heap_later2 hb HE4.out); have HB5 := hid (below_next HB4.out hb); (obtain ⟨zb, hzb⟩ : ∃ z, atS (nds l) xs x.b = z := ⟨_, rfl⟩); rw [hzb]; have HZb := hid hzb; clear hzb; clear hb )
  clear HS4 HP4 HV4 HA4 HE4 HB4
  clear s1 s2 e2 e3
  go_wp2_with (go_at_call 51; refine (psub_any _ _ _ _ _).mono ?_; rintro e w' ⟨_, n, rfl, rfl, r, i, rfl, hz⟩)
  have HR := hid (show acrS (noNet p) l xs ys.length t = ((fc r, fc i), 0) by rw [HW.out, HN.out, vlt_at (by rw [← HN.out]; exact HFE.out), vlt_at (by rw [← HN.out]; exact HFE.out), HZa.out, HZb.out]; exact Prod.ext hz.symm rfl)
  (try simp only [Exit.inBlock, Exit.then])
  (try rw [Exit.noGoto_ret])
  refine bodyPost_ret (v := .tuple #[.complex .f64 r i, .int .i64 0]) ?_ rfl (RetCE.of HR.out (below_n HB5.out _))
  rw [results_tmp2 rfl]; rfl
set_option maxRecDepth 100000 in
set_option maxHeartbeats 2000000 in
theorem branch_any (p v va : Value) (l : List El) (om : Nat) (xs ys : List Cx) (t : ByteArray) (w : World) (hp : NN w p l) (hg : NetG l) (hv : IsSl w 1 v xs.length (xs.map mkC)) (ha : IsSl w 1 va ys.length (ys.map mkC)) (ht : t.size ≤ maxLen) :
    Calls Tryz.prog 21 #[p, .agg #[.float .f64 om, v, va], .string t] w (RetCE ((ck (brnS (noNet p) l xs.length ys t).1), (brnS (noNet p) l xs.length ys t).2) w) := by
  obtain ⟨av, cv, rfl⟩ := hv.form
  obtain ⟨aa, ca, rfl⟩ := ha.form
  have hb1 := (Below.refl w.heap.size w).alloc (Nat.le_refl _) (.cells #[.float .f64 om, .slice av xs.length cv, .slice aa ys.length ca] 50)
  have HBO := hid hb1
  have HS := hid (heap_alloc_new w (.cells #[.float .f64 om, .slice av xs.length cv, .slice aa ys.length ca] 50))
  have HP := hid (hp.below hb1 (Nat.le_refl _))
  have HV := hid (hv.below hb1 (Nat.le_refl _))
  have HA := hid (ha.below hb1 (Nat.le_refl _))
  have HG := hid hg
  have HTL := hid ht
  clear hp hg hv ha hb1 ht
  obtain ⟨fe, hfe⟩ : ∃ fe, fitsS (noNet p) xs.length ys.length (nds l).length (brs l).length = fe := ⟨_, rfl⟩
  have HFE := hid hfe
  clear hfe
  go_enter Tryz.func21, Tryz.ntmps21
  go_upto_region 1 with fail
  generalize w.alloc (.cells #[.float .f64 om, .slice av xs.length cv, .slice aa ys.length ca] 50) = w1 at *
  obtain ⟨gs, hgs⟩ : ∃ gs, w.heap.size = gs := ⟨_, rfl⟩
  rw [hgs] at HS ⊢
  clear hgs
  have hbk := block_cells HS.out
  have s0 := hbk.1 0 _ rfl
  have s1 := hbk.1 1 _ rfl
  have s2 := hbk.1 2 _ rfl
  clear hbk
  go_upto_region 2 with (go_at_call 47; refine (fits_any2 p l om _ _ _ _ _ _ _ HP.out HG.out).mono ?_; rintro e w2 ⟨rfl, hb⟩; have HS1 := hid (heap_later2 hb HS.out); have HP1 := hid (HP.out.below' hb); have HV1 := hid (HV.out.below hb (Nat.le_refl _)); have HA1 := hid (HA.out.below hb (Nat.le_refl _)); have HB1 := hid (below_next HBO.out hb); rw [HFE.out]; clear hb )
  clear HS HP HV HA HBO
  clear s0 s1 s2
  by_cases h0 : fe = 0
  rotate_left
  · have hb0 : (fe == 0) = false := by simpa using h0
    have hb1 : (fe != 0) = true := by simpa using h0
    have HW := hid (brn_bad (t := t) HFE.out h0)
    go_wp2
    (try simp only [Exit.inBlock, Exit.then])
    (try rw [Exit.noGoto_ret])
    refine bodyPost_ret (v := .tuple #[.complex .f64 0 0, .int .i64 fe]) ?_ rfl (RetCE.of (by rw [HW.out]; rfl) HB1.out)
    rw [results_tmp2 rfl]; rfl
  subst h0
  obtain ⟨hn, hk, hm⟩ := fits_zero HFE.out
  have HN := hid hn
  have HK := hid hk
  have HM := hid hm
  clear hn hk hm
  cases hf : findE l t
  · have HF := hid hf
    have HW := hid (brn_none HFE.out hf)
    clear hf
    go_upto_region 5 with (go_at_call 50; refine (nfind_any p l t _ HP1.out HTL.out (by have := HG.out.len; omega)).mono ?_; rintro e w3 ⟨rfl, hb⟩; have HS2 := hid (heap_later2 hb HS1.out); have HP2 := hid (HP1.out.below' hb); have HV2 := hid (HV1.out.below hb (Nat.le_refl _)); have HA2 := hid (HA1.out.below hb (Nat.le_refl _)); have HB2 := hid (below_next HB1.out hb); rw [HF.out]; dsimp only [Option.getD_some, Option.getD_none, Option.isSome_some, Option.isSome_none]; clear hb )
    clear HS1 HP1 HV1 HA1 HB1
    have HS3 := hid (heap_later2 ((Below.refl w3.heap.size w3).alloc (Nat.le_refl _) (.cells #[.int .u8 zEl.kind, .string zEl.name, .string zEl.a, .string zEl.b, .string zEl.c, .string zEl.d, .float .f64 zEl.val, .int .i64 zEl.ph] 81)) HS2.out)
    have HP3 := hid (HP2.out.below' ((Below.refl w3.heap.size w3).alloc (Nat.le_refl _) (.cells #[.int .u8 zEl.kind, .string zEl.name, .string zEl.a, .string zEl.b, .string zEl.c, .string zEl.d, .float .f64 zEl.val, .int .i64 zEl.ph] 81)))
    have HV3 := hid (HV2.out.below ((Below.refl w3.heap.size w3).alloc (Nat.le_refl _) (.cells #[.int .u8 zEl.kind, .string zEl.name, .string zEl.a, .string zEl.b, .string zEl.c, .string zEl.d, .float .f64 zEl.val, .int .i64 zEl.ph] 81)) (Nat.le_refl _))
    have HA3 := hid (HA2.out.below ((Below.refl w3.heap.size w3).alloc (Nat.le_refl _) (.cells #[.int .u8 zEl.kind, .string zEl.name, .string zEl.a, .string zEl.b, .string zEl.c, .string zEl.d, .float .f64 zEl.val, .int .i64 zEl.ph] 81)) (Nat.le_refl _))
    have HB3 := hid (below_next HB2.out ((Below.refl w3.heap.size w3).alloc (Nat.le_refl _) (.cells #[.int .u8 zEl.kind, .string zEl.name, .string zEl.a, .string zEl.b, .string zEl.c, .string zEl.d, .float .f64 zEl.val, .int .i64 zEl.ph] 81)))
    have HE := hid (heap_alloc_new w3 (.cells #[.int .u8 zEl.kind, .string zEl.name, .string zEl.a, .string zEl.b, .string zEl.c, .string zEl.d, .float .f64 zEl.val, .int .i64 zEl.ph] 81))
    clear HS2 HP2 HV2 HA2 HB2
    generalize w3.alloc (.cells #[.int .u8 zEl.kind, .string zEl.name, .string zEl.a, .string zEl.b, .string zEl.c, .string zEl.d, .float .f64 zEl.val, .int .i64 zEl.ph] 81) = w4 at *
    obtain ⟨ge, hge⟩ : ∃ ge, w3.heap.size = ge := ⟨_, rfl⟩
    rw [hge] at HE ⊢
    clear hge
    go_wp2
    (try simp only [Exit.inBlock, Exit.then])
    (try rw [Exit.noGoto_ret])
    refine bodyPost_ret (v := .tuple #[.complex .f64 0 0, .int .i64 10]) ?_ rfl (RetCE.of (by rw [HW.out]; rfl) HB3.out)
    rw [results_tmp2 rfl]; rfl
  rename_i x
  have HF := hid hf
  have HFX := hid hf
  clear hf
  go_upto_region 5 with (go_at_call 50; refine (nfind_any p l t _ HP1.out HTL.out (by have := HG.out.len; omega)).mono ?_; rintro e w3 ⟨rfl, hb⟩; have HS2 := hid (heap_later2 hb HS1.out); have HP2 := hid (HP1.out.below' hb); have HV2 := hid (HV1.out.below hb (Nat.le_refl _)); have HA2 := hid (HA1.out.below hb (Nat.le_refl _)); have HB2 := hid (below_next HB1.out hb); rw [HF.out]; dsimp only [Option.getD_some, Option.getD_none, Option.isSome_some, Option.isSome_none]; clear hb )
  clear HS1 HP1 HV1 HA1 HB1
  have HS3 := hid (heap_later2 ((Below.refl w3.heap.size w3).alloc (Nat.le_refl _) (.cells #[.int .u8 x.kind, .string x.name, .string x.a, .string x.b, .string x.c, .string x.d, .float .f64 x.val, .int .i64 x.ph] 81)) HS2.out)
  have HP3 := hid (HP2.out.below' ((Below.refl w3.heap.size w3).alloc (Nat.le_refl _) (.cells #[.int .u8 x.kind, .string x.name, .string x.a, .string x.b, .string x.c, .string x.d, .float .f64 x.val, .int .i64 x.ph] 81)))
  have HV3 := hid (HV2.out.below ((Below.refl w3.heap.size w3).alloc (Nat.le_refl _) (.cells #[.int .u8 x.kind, .string x.name, .string x.a, .string x.b, .string x.c, .string x.d, .float .f64 x.val, .int .i64 x.ph] 81)) (Nat.le_refl _))
  have HA3 := hid (HA2.out.below ((Below.refl w3.heap.size w3).alloc (Nat.le_refl _) (.cells #[.int .u8 x.kind, .string x.name, .string x.a, .string x.b, .string x.c, .string x.d, .float .f64 x.val, .int .i64 x.ph] 81)) (Nat.le_refl _))
  have HB3 := hid (below_next HB2.out ((Below.refl w3.heap.size w3).alloc (Nat.le_refl _) (.cells #[.int .u8 x.kind, .string x.name, .string x.a, .string x.b, .string x.c, .string x.d, .float .f64 x.val, .int .i64 x.ph] 81)))
  have HE := hid (heap_alloc_new w3 (.cells #[.int .u8 x.kind, .string x.name, .string x.a, .string x.b, .string x.c, .string x.d, .float .f64 x.val, .int .i64 x.ph] 81))
  clear HS2 HP2 HV2 HA2 HB2
  generalize w3.alloc (.cells #[.int .u8 x.kind, .string x.name, .string x.a, .string x.b, .string x.c, .string x.d, .float .f64 x.val, .int .i64 x.ph] 81) = w4 at *
  obtain ⟨ge, hge⟩ : ∃ ge, w3.heap.size = ge := ⟨_, rfl⟩
  rw [hge] at HE ⊢
  clear hge
  have hbk := block_cells HS3.out
  have s1 := hbk.1 1 _ rfl
  have s2 := hbk.1 2 _ rfl
  clear hbk
  obtain ⟨z, hz⟩ : ∃ z, atS (brs l) ys t = z := ⟨_, rfl⟩
  have HZ := hid hz
  cases hh : has (brs l) t
  · have HH := hid hh
    have HW := hid (brn_no HFE.out HFX.out hh)
    clear hh hz
    go_upto_region 8 with (go_at_call 48; refine (at_branch20 p _ l ys t _ HP3.out HA3.out HM.out HTL.out).mono ?_; rintro e w5 ⟨rfl, hb⟩; have HS4 := hid (heap_later2 hb HS3.out); have HP4 := hid (HP3.out.below' hb); have HV4 := hid (HV3.out.below hb (Nat.le_refl _)); have HA4 := hid (HA3.out.below hb (Nat.le_refl _)); have HE4 := hid (heap_later2 hb HE.out); have HB4 := hid (below_next HB3.out hb); rw [HH.out, HZ.out]; clear hb )
    clear HS3 HP3 HV3 HA3 HE HB3
    clear s1 s2
    go_wp2
    (try simp only [Exit.inBlock, Exit.then])
    (try rw [Exit.noGoto_ret])
    refine bodyPost_ret (v := .tuple #[.complex .f64 0 0, .int .i64 2]) ?_ rfl (RetCE.of (by rw [HW.out]; rfl) HB4.out)
    rw [results_tmp2 rfl]; rfl
  have HH := hid hh
  have HW := hid (show brnS (noNet p) l xs.length ys t = (z, 0) by rw [brn_yes HFE.out HFX.out hh, ← hz]; unfold atS; rw [if_pos hh])
  clear hh hz
  go_upto_region 8 with (go_at_call 48; refine (at_branch20 p _ l ys t _ HP3.out HA3.out HM.out HTL.out).mono ?_; rintro e w5 ⟨rfl, hb⟩; have HS4 := hid (heap_later2 hb HS3.out); have HP4 := hid (HP3.out.below' hb); have HV4 := hid (HV3.out.below hb (Nat.le_refl _)); have HA4 := hid (HA3.out.below hb (Nat.le_refl _)); have HE4 := hid (heap_later2 hb HE.out); have HB4 := hid (below_next HB3.out hb); rw [HH.out, HZ.out]; clear hb )
  clear HS3 HP3 HV3 HA3 HE HB3
  clear s1 s2
  go_wp2
  (try simp only [Exit.inBlock, Exit.then])
  (try rw [Exit.noGoto_ret])
  refine bodyPost_ret (v := .tuple #[mkC z, .int .i64 0]) ?_ rfl (RetCE.of (by rw [HW.out]; rfl) HB4.out)
  rw [results_tmp2 rfl]; rfl
end Go.Proofs.YtjeedckmkicnoaaGreatDoor
