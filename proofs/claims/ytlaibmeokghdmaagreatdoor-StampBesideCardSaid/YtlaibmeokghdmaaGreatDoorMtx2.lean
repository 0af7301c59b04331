/- Walk of stamp.Matrix: of a net at an angular frequency above 0. -/
import Derived.Test.YtlaibmeokghdmaaGreatDoorMMtx
import Derived.Test.YtlaibmeokghdmaaGreatDoorReg2
import Derived.Laws.EntriesVeiled
namespace Go.Proofs.YtlaibmeokghdmaaGreatDoor
open Go.RowKit

/-- What comes behind is hidden: three ways out are told. -/
theorem wp_gen {P : Program} {c : Code} {Q : Exit → Act → World → Prop} {a : Act} {w : World}
    (h : ∀ Q' : Exit → Act → World → Prop, (∀ a w, Q .normal a w → Q' .normal a w) → (∀ a w, Q .ret a w → Q' .ret a w) → (∀ i a w, Q (.exit i) a w → Q' (.exit i) a w) → c.wp P Q' a w) : c.wp P Q a w :=
  h Q (fun _ _ h => h) (fun _ _ h => h) (fun _ _ _ h => h)
theorem arr_slice (w' : World) (g nn : Nat) (h : nn ≤ 4096) : (Instr.sliceAt 79 (.pointer (some ⟨g, 4, none⟩)) none (some (.int .i64 nn)) none).run Tryz.prog w' = .ok (.slice (some ⟨g, 4, none⟩) nn 4096) w' := by
  have hl : Tryz.prog.arrayLen 79 = 4096 := by kernel_rfl
  have he : Tryz.prog.elem 79 = 47 := by kernel_rfl
  obtain ⟨i0, hi, hz0, hz1, hz2⟩ := info_parts infoC
  rw [run_sliceAt_array_h (ht := by rw [hl, he]; exact Tryz.underlying79) (h0 := by omega) (h2 := by rw [hl]; omega), hl, he]
  simp [sizeOf, typeInfo, hi, hz1, slicedAt, Result.andThen, Addr.add]
theorem board_sl {w : World} {g nd n nn : Nat} {p : Value} {m : Nat → Cx} {ov : Bool} {M : List Cx} (h : BoardM w g p nd n m ov M) (hn : nn ≤ 4096) : IsSl w 1 (.slice (some ⟨g, 4, none⟩) nn 4096) nn ((M.take nn).map mkC) := by
  refine ⟨by rw [List.length_map, List.length_take, h.1]; omega, .inr ⟨g, 4, 4096, rfl, hn, (Array.getElem?_eq_some_iff.1 h.2.1).1, fun j hj => ?_⟩⟩
  rw [(cells_ofS h.2.1).1 (4 + j) _ (board_z (by have := h.1; omega)), List.getElem?_map, List.getElem?_take, if_pos (by omega), List.getD_eq_getElem?_getD, List.getElem?_eq_getElem (by have := h.1; omega)]
  rfl
abbrev fnv (f : FuncId) : Value := .func (.func f) #[] #[]
abbrev fnT : Array Value := #[fnv 55, fnv 56, fnv 56, fnv 56, fnv 55, fnv 57, fnv 58, fnv 59, fnv 56]
set_option maxHeartbeats 400000 in
theorem stamps_any (w : World) : Calls Tryz.prog 32 #[] w fun e w' => e = .returned (.agg fnT) ∧ Below w.heap.size w w' := by
  go_enter Tryz.func32, Tryz.ntmps32
  go_wp2
  refine bodyPost_ret (v := .agg fnT) ?_ rfl ⟨rfl, (Below.refl _ _).alloc (Nat.le_refl _) _⟩
  rw [results_cell1M rfl]; go_simp
abbrev MZ : Obj := .cells #[.int .i64 0, .int .i64 0, .slice none 0 0] 38 (0, 0)
abbrev FZ : Obj := .cells #[.int .i64 0, .int .i64 0] 27 (0, 0)
set_option maxRecDepth 100000 in
set_option maxHeartbeats 8000000 in
theorem smatrix_good (p : Value) (l : List El) (om : Nat) (w : World) (hp : NN w p l) (hn : has (l.map El.name) ⟨#[]⟩ = false) (hq : noNet p = false) (ha : angE om = 0) (hok : ∀ x ∈ l, x.Ok) (hk : ∀ x ∈ l, isK x.kind = true) (hl : l.length ≤ 100000) (hsz : szL l ≤ 64) :
    Calls Tryz.prog 11 #[p, .float .f64 om] w (RetMx (matS false l om) w) := by
  have HP := hid hp
  have HN := hid hn
  have HQ := hid hq
  have HOK := hid hok
  have HKK := hid hk
  have HLE := hid hl
  have HSZ := hid hsz
  have HA := hid ha
  have hff : ffin (fc om) = true := by
    cases hh : ffin (fc om) with
    | true => rfl
    | false => rw [ang_5 hh] at ha; cases ha
  have hf : FV.fin om = true := (fin_iff om).trans hff
  have hg : (FloatKind.f64.format.order om 0 == some .gt) = true := by
    cases hh : (FloatKind.f64.format.order om 0 == some .gt) with
    | true => rfl
    | false => rw [ang_2 hff hh] at ha; cases ha
  have HI := hid (isInf_fin hf)
  have h3 : (FloatKind.f64.format.order om om != some .eq) = false := by
    have := ord_self hf
    show (ford om om != some .eq) = false
    rw [this]; rfl
  have h4 : (FloatKind.f64.format.order om 0 == some .lt || FloatKind.f64.format.order om 0 == some .eq) = false := by
    have := ord_le hf (show FV.fin 0 = true by decide)
    show (ford om 0 == some .lt || ford om 0 == some .eq) = false
    rw [this]
    show (!(FloatKind.f64.format.order om 0 == some .gt)) = false
    rw [hg]; rfl
  clear hp hn hq hok hk hl hsz ha hff hf hg
  obtain ⟨pa, rfl⟩ : ∃ pa, p = .pointer (some pa) := by
    rcases HP.out with ⟨rfl, _⟩ | ⟨_, g, _, _, _, _, _, _, rfl, _⟩
    · exact absurd HQ.out (by simp [noNet])
    · exact ⟨_, rfl⟩
  go_enter Tryz.func11, Tryz.ntmps11
  go_upto_region 7 with (first | (go_at_call 29; refine (made_any _ l _ (HP.out.alloc2 _ _) HN.out).mono ?_; rintro e w' ⟨rfl, rfl⟩; rw [HQ.out]) | (go_at_call 30; refine (isinf_any _ _).mono ?_; rintro e w' ⟨rfl, rfl⟩; rw [HI.out]))
  have hZ4 := heap_alloc_new w MZ
  have hZ5 := heap_alloc_new (w.alloc MZ) FZ
  have HZ5 : Hid (((w.alloc MZ).alloc FZ).heap[w.heap.size + 1]? = some FZ) := hid (by have := hZ5; simp at this; simpa using this)
  have HZ4 : Hid (((w.alloc MZ).alloc FZ).heap[w.heap.size]? = some MZ) := hid ((heap_alloc_old _ FZ (by simp)).trans hZ4)
  have HB := hid (below_alloc2 w MZ FZ)
  have HN1 := hid (HP.out.alloc2 MZ FZ)
  have HS1 := hid (show ((w.alloc MZ).alloc FZ).heap.size = w.heap.size + 2 by simp)
  clear hZ4 hZ5 HP h3 h4 HI
  generalize (w.alloc MZ).alloc FZ = w1 at *
  have hsz2 : ((nds l).length : Int) + ((brs l).length : Int) = ((szL l : Nat) : Int) := by unfold szL; omega
  have HSZ2 := hid hsz2
  clear hsz2
  go_upto_region 8 with (first | (go_at_call 31; refine (nnodes_any _ l _ HN1.out HLE.out).mono ?_; rintro e w2 ⟨v, xs, rfl, hown, _, hb⟩; obtain ⟨a, c, rfl⟩ := (IsSl.of_own hown).form; have HB2 := hid hb; have HN2 := hid (HN1.out.below' hb); clear hown hb) | (go_at_call 15; refine (norder_any _ l _ HN2.out HLE.out).mono ?_; rintro e w3 ⟨rfl, hb⟩; rw [HSZ2.out]; have HB3 := hid (HB2.out.trans (hb.mono HB2.out.size)); have HN3 := hid (HN2.out.below' hb); clear hb))
  rw [board_new]
  have hbr0 : BoardR (w3.alloc (.cells (boardCells (.pointer (some pa)) (nds l).length (szL l) false zrs) 81)) w3.heap.size (.pointer (some pa)) (nds l).length (szL l) (fun _ => cZero, false) :=
    ⟨zrs, by simp [zrs], heap_alloc_new _ _, fun k hk => by show ck (zrs.getD k (0, 0)) = cZero; rw [List.getD_eq_getElem?_getD]; unfold zrs; rw [List.getElem?_replicate, if_pos hk]; rfl⟩
  have hb4 : Below w3.heap.size w3 (w3.alloc (.cells (boardCells (.pointer (some pa)) (nds l).length (szL l) false zrs) 81)) := (Below.refl _ _).alloc (Nat.le_refl _) _
  have HBD := hid (show BdAt w3 _ w3.heap.size (.pointer (some pa)) l (fun _ => cZero, false) from ⟨HN3.out, hb4, Nat.le_refl _, hbr0⟩)
  have HB4 := hid (below_next HB.out (HB3.out.trans (hb4.mono HB3.out.size)))
  have HZ4b := hid (heap_laterS (HB3.out.trans (hb4.mono HB3.out.size)) HZ4.out)
  have HZ5b := hid (heap_laterS (HB3.out.trans (hb4.mono HB3.out.size)) HZ5.out)
  have HGW := hid (show w.heap.size + 2 ≤ w3.heap.size by have := HB3.out.size; have := HS1.out; omega)
  clear hbr0 hb4 HB3 HB2 HN2 HN1 HZ4 HZ5 HB HS1
  generalize w3.alloc (.cells (boardCells (.pointer (some pa)) (nds l).length (szL l) false zrs) 81) = w4 at *
  generalize hgg : w3.heap.size = g at *
  go_upto_region 9 with (go_at_call 32; refine (stamps_any _).mono ?_; rintro e w5 ⟨rfl, hb⟩; have HBD5 := hid (HBD.out.below hb); have HB5 := hid (below_next HB4.out hb); have HZ4c := hid (heap_laterS hb HZ4b.out); have HZ5c := hid (heap_laterS hb HZ5b.out); clear HBD HB4 HZ4b HZ5b hb)
  have HTB := hid (heap_alloc_new w5 (.cells fnT 83))
  have hb6 := (Below.refl w5.heap.size w5).alloc (Nat.le_refl _) (.cells fnT 83)
  have HBD6 := hid (HBD5.out.below hb6)
  have HB6 := hid (below_next HB5.out hb6)
  have HZ4d := hid (heap_laterS hb6 HZ4c.out)
  have HZ5d := hid (heap_laterS hb6 HZ5c.out)
  have HGT := hid (show g < w5.heap.size from HBD5.out.brd.lt)
  clear hb6 HBD5 HB5 HZ4c HZ5c
  generalize w5.alloc (.cells fnT 83) = w6 at *
  generalize w5.heap.size = tb at *
  go_wp2_with (go_at_call 10; refine (nelements_any _ l _ (HBD6.out.net.below HBD6.out.bel (Nat.le_refl _)) HLE.out).mono ?_; rintro e w8 ⟨v, xs, rfl, hown, rfl, hb⟩; obtain ⟨ae, ce, rfl⟩ := (IsSl.of_own hown).form; have HOW := hid hown; have HBD8 := hid (HBD6.out.below hb); have HB8 := hid (below_next HB6.out hb); have HT8 := hid (heap_laterS hb HTB.out); have HZ4 := hid (heap_laterS hb HZ4d.out); have HZ5 := hid (heap_laterS hb HZ5d.out); have HGE := hid (show g < w6.heap.size from HBD6.out.brd.lt); clear HBD6 HB6 HTB HZ4d HZ5d hown hb)
  obtain ⟨ie, hie, hi0, hi1, hi2⟩ := info_parts infoEa
  go_loopw [45] (fun i wr => ∃ k : Nat, k ≤ l.length ∧ i = .int .i64 k ∧ BdAt w3 wr g (.pointer (some pa)) l (matK l om k, false) ∧ w8.grownBy wr (some g) ∧ ∀ (i : Nat) (x : El), i < k → l[i]? = some x → (stStep l om (matK l om i) x).2 = 0) (fun i _ => l.length - (intOf i).toNat)
  case atStart => exact ⟨0, Nat.zero_le _, rfl, HBD8.out, World.grownBy.refl _ _, fun i x hi => absurd hi (Nat.not_lt_zero _)⟩
  case round =>
    obtain ⟨k, hk, rfl, hbd, hgr, hst⟩ := hrel
    obtain ⟨wo, rfl⟩ : ∃ wo : World, wo = wr := ⟨_, rfl⟩
    have HBD := hid hbd
    have HGR := hid hgr
    have HST := hid hst
    have HT := hid ((hgr.block _ (Array.getElem?_eq_some_iff.1 HT8.out).1 (fun e => by have := HGT.out; cases e; omega)).trans HT8.out)
    have HO := hid (World.ownsRow.kept HOW.out hgr (.inr fun e => by have := (World.ownsRow.lt HOW.out _ e).1; have := HGE.out; omega))
    have HLT := hid (hbd.brd.lt)
    clear hbd hgr hst
    by_cases hlt : k < l.length
    · obtain ⟨g1, o1, x, hidx, hg, hx, hcell⟩ := IsSl.atF Tryz.underlying30 hie hi1 ea_len (IsSl.of_own HO.out) rfl hlt
      have HX := hid hx
      have HXOK := hid (HOK.out x (List.mem_of_getElem? hx))
      have HXK := hid (HKK.out x (List.mem_of_getElem? hx))
      have HK1 := hid (show k + 1 ≤ l.length from hlt)
      clear hx hg
      have hkd8 : x.kind = 1 ∨ x.kind = 2 ∨ x.kind = 3 ∨ x.kind = 4 ∨ x.kind = 5 ∨ x.kind = 6 ∨ x.kind = 7 ∨ x.kind = 8 := by
        have := HXK.out
        unfold isK at this
        simp only [Bool.and_eq_true, decide_eq_true_eq] at this
        omega
      rcases hkd8 with hkd | hkd | hkd | hkd | hkd | hkd | hkd | hkd
      · obtain ⟨kd, xn, xa, xb, xc, xd, vl, xp⟩ := x
        obtain rfl : kd = 1 := hkd
        refine wp_gen ?_
        intro QQ HQN HQR HQE
        have c0 : wo.cell? ⟨g1, o1, none⟩ = some (.int .u8 1) := hcell 0 _ rfl
        have c1 : wo.cell? ⟨g1, o1 + 1, none⟩ = some (.string xn) := hcell 1 _ rfl
        have c2 : wo.cell? ⟨g1, o1 + 2, none⟩ = some (.string xa) := hcell 2 _ rfl
        have c3 : wo.cell? ⟨g1, o1 + 3, none⟩ = some (.string xb) := hcell 3 _ rfl
        have c4 : wo.cell? ⟨g1, o1 + 4, none⟩ = some (.string xc) := hcell 4 _ rfl
        have c5 : wo.cell? ⟨g1, o1 + 5, none⟩ = some (.string xd) := hcell 5 _ rfl
        have c6 : wo.cell? ⟨g1, o1 + 6, none⟩ = some (.float .f64 vl) := hcell 6 _ rfl
        have c7 : wo.cell? ⟨g1, o1 + 7, none⟩ = some (.int .i64 xp) := hcell 7 _ rfl
        clear hcell
        go_upto_region 12 with fail
        have hb1 := (Below.refl wo.heap.size wo).alloc (Nat.le_refl _) (.cells #[.int .u8 1, .string xn, .string xa, .string xb, .string xc, .string xd, .float .f64 vl, .int .i64 xp] 44)
        have HBE := hid (heap_alloc_new wo (.cells #[.int .u8 1, .string xn, .string xa, .string xb, .string xc, .string xd, .float .f64 vl, .int .i64 xp] 44))
        have HBD1 := hid (HBD.out.below hb1)
        have HGR1 := hid (grown_trans HGR.out (grown_of_below hb1 (some g)))
        have HT1 := hid (heap_laterS hb1 HT.out)
        clear HBD HGR HT c0 c1 c2 c3 c4 c5 c6 c7 hidx hb1
        generalize wo.alloc (.cells #[.int .u8 1, .string xn, .string xa, .string xb, .string xc, .string xd, .float .f64 vl, .int .i64 xp] 44) = wa at *
        generalize wo.heap.size = eb at *
        have hx8 := cells_ofS HBE.out
        have e0 := hx8.1 0 _ rfl
        have e1 := hx8.1 1 _ rfl
        have e2 := hx8.1 2 _ rfl
        have e3 := hx8.1 3 _ rfl
        have e4 := hx8.1 4 _ rfl
        have e5 := hx8.1 5 _ rfl
        have e6 := hx8.1 6 _ rfl
        have e7 := hx8.1 7 _ rfl
        clear hx8
        by_cases had : (admS (⟨1, xn, xa, xb, xc, xd, vl, xp⟩ : El) om).2 = 0
        · have HAD := hid had
          clear had
          go_upto_region 22 with (go_at_call 33; refine (tadm_any (⟨1, xn, xa, xb, xc, xd, vl, xp⟩ : El) om _ HXOK.out).mono ?_; rintro e wc ⟨v, rfl, hb, y1, y2, er, rfl, hz⟩; obtain rfl : er = 0 := (congrArg Prod.snd hz).trans HAD.out; have HY := hid (congrArg Prod.fst hz); have HBD2 := hid (HBD1.out.below hb); have HGR2 := hid (grown_trans HGR1.out (grown_of_below hb (some g))); have HBE2 := hid (heap_laterS hb HBE.out); have HT2 := hid (heap_laterS hb HT1.out); clear HBD1 HGR1 HBE HT1 hb hz e0 e1 e2 e3 e4 e5 e6 e7)
          have HSS := hid (step_ad (l := l) (m := matK l om k) (x := (⟨1, xn, xa, xb, xc, xd, vl, xp⟩ : El)) rfl HAD.out HY.out)
          have hx8 := cells_ofS HBE2.out
          have e0 := hx8.1 0 _ rfl
          have e1 := hx8.1 1 _ rfl
          have e2 := hx8.1 2 _ rfl
          have e3 := hx8.1 3 _ rfl
          have e4 := hx8.1 4 _ rfl
          have e5 := hx8.1 5 _ rfl
          have e6 := hx8.1 6 _ rfl
          have e7 := hx8.1 7 _ rfl
          clear hx8
          have tk := (cells_ofS HT2.out).1 1 _ rfl
          go_still_tail 7, (by kernel_rfl)
          change wpList _ _ _ _ _ wc.drew
          have HBD3 := hid (HBD2.out.below (Below.refl _ _).drew)
          have HGR3 := hid (grown_trans HGR2.out (grown_of_below (Below.refl _ _).drew (some g)))
          clear HBD2 HGR2 HT2 HBE2 e0 e1 e2 e3 e4 e5 e6 e7 tk
          generalize wc.drew = wd at *
          go_upto_region 23 with (go_at_call 56; refine (bpair_any w3 _ g _ l _ (⟨1, xn, xa, xb, xc, xd, vl, xp⟩ : El) y1 y2 HBD3.out HXOK.out HSZ.out).mono ?_; rintro e we ⟨rfl, hbrd, hgr⟩; have HBD4 : Hid (BdAt w3 we g (.pointer (some pa)) l ((stPair (rowI l xa) (rowI l xb) (fc y1, fc y2)).foldl (st1 (szL l)) (matK l om k, false))) := hid (HBD3.out.next hbrd hgr); have HGR4 := hid (grown_trans HGR3.out hgr); clear HBD3 HGR3 hbrd hgr)
          generalize hS : (stPair (rowI l xa) (rowI l xb) (fc y1, fc y2)).foldl (st1 (szL l)) (matK l om k, false) = S at *
          obtain ⟨sm, sv⟩ := S
          obtain ⟨M, hM⟩ := HBD4.out.brd
          have b3 := (cells_ofS hM.2.1).1 3 _ board_3
          clear hM hS
          cases sv
          · have HS0 := hid (show stStep l om (matK l om k) (⟨1, xn, xa, xb, xc, xd, vl, xp⟩ : El) = (sm, 0) from HSS.out)
            have hll := HLE.out
            go_wp2_with fail
            (try simp only [Exit.inBlock, Exit.then])
            refine HQN _ _ ?_
            go_wp2
            go_roundw
            case rel =>
              refine ⟨k + 1, HK1.out, ?num, ?brd, HGR4.out, ?all⟩
              case num => go_num
              case brd => rw [matK_succ HX.out, HS0.out]; exact HBD4.out
              case all =>
                intro i x hi hx
                by_cases e : i = k
                · subst e; obtain rfl := Option.some.inj (hx.symm.trans HX.out); rw [HS0.out]
                · exact HST.out i x (by omega) hx
            case measure => simp [intOf]; omega
          · have HS6 := hid (show stStep l om (matK l om k) (⟨1, xn, xa, xb, xc, xd, vl, xp⟩ : El) = (sm, 6) from HSS.out)
            have hzz := cells_ofS (heap_laterG HGR4.out (fun e => by have := HGW.out; cases e; omega) HZ4.out)
            have z40 := hzz.1 0 _ rfl
            have z41 := hzz.1 1 _ rfl
            have z42 := hzz.1 2 _ rfl
            have y40 := hzz.2 0
            have y41 := hzz.2 1
            have y42 := hzz.2 2
            have hyy := cells_ofS (heap_laterG HGR4.out (fun e => by have := HGW.out; cases e; omega) HZ5.out)
            have z50 := hyy.1 0 _ rfl
            have z51 := hyy.1 1 _ rfl
            have y50 := hyy.2 0
            have y51 := hyy.2 1
            have HBF := hid (HB8.out.grown HGR4.out HB8.out.size (fun k e => by cases e; have := HGW.out; omega))
            clear hzz hyy
            go_wp2_with fail
            (try simp only [Exit.inBlock, Exit.then])
            refine HQR _ _ ?_
            refine bodyPost_ret (v := endBad (6) k) ?_ rfl (RetMx.bad ((mat_stop HA.out HX.out HST.out (by rw [HS6.out]; show (6 : Int) ≠ 0; decide)).trans (by rw [HS6.out])) (by repeat (first | with_reducible exact HBF.out | with_reducible refine Below.setCell ?_ (by dsimp only; omega) _)))
            rw [results_cell_cellM rfl]; go_simp; rfl
        · have HAD := hid had
          go_upto_region 21 with (go_at_call 33; refine (tadm_any (⟨1, xn, xa, xb, xc, xd, vl, xp⟩ : El) om _ HXOK.out).mono ?_; rintro e wc ⟨v, rfl, hb, y1, y2, er, rfl, hz⟩; have HER := hid (congrArg Prod.snd hz); have hne : (er != 0) = true := (by have := HER.out; have h2 := HAD.out; rw [bne_iff_ne]; intro h0; exact h2 (this.symm.trans h0)); have HGR2 := hid (grown_trans HGR1.out (grown_of_below hb (some g))); clear HBD1 HGR1 HBE HT1 hb hz e0 e1 e2 e3 e4 e5 e6 e7)
          have HS6 := hid (step_bad (l := l) (om := om) (m := matK l om k) (x := (⟨1, xn, xa, xb, xc, xd, vl, xp⟩ : El)) rfl HAD.out)
          clear had
          have hzz := cells_ofS (heap_laterG HGR2.out (fun e => by have := HGW.out; cases e; omega) HZ4.out)
          have z40 := hzz.1 0 _ rfl
          have z41 := hzz.1 1 _ rfl
          have z42 := hzz.1 2 _ rfl
          have y40 := hzz.2 0
          have y41 := hzz.2 1
          have y42 := hzz.2 2
          have hyy := cells_ofS (heap_laterG HGR2.out (fun e => by have := HGW.out; cases e; omega) HZ5.out)
          have z50 := hyy.1 0 _ rfl
          have z51 := hyy.1 1 _ rfl
          have y50 := hyy.2 0
          have y51 := hyy.2 1
          have HBF := hid (HB8.out.grown HGR2.out HB8.out.size (fun k e => by cases e; have := HGW.out; omega))
          clear hzz hyy
          go_wp2_with fail
          (try simp only [Exit.inBlock, Exit.then])
          refine HQR _ _ ?_
          refine bodyPost_ret (v := endBad (er) k) ?_ rfl (RetMx.bad ((mat_stop HA.out HX.out HST.out (by rw [HS6.out]; exact HAD.out)).trans (by rw [HS6.out]; show ((0, []), ((admS (⟨1, xn, xa, xb, xc, xd, vl, xp⟩ : El) om).2, (k : Int))) = _; rw [← HER.out])) (by repeat (first | with_reducible exact HBF.out | with_reducible refine Below.setCell ?_ (by dsimp only; omega) _)))
          rw [results_cell_cellM rfl]; go_simp; rfl
      · obtain ⟨kd, xn, xa, xb, xc, xd, vl, xp⟩ := x
        obtain rfl : kd = 2 := hkd
        refine wp_gen ?_
        intro QQ HQN HQR HQE
        have c0 : wo.cell? ⟨g1, o1, none⟩ = some (.int .u8 2) := hcell 0 _ rfl
        have c1 : wo.cell? ⟨g1, o1 + 1, none⟩ = some (.string xn) := hcell 1 _ rfl
        have c2 : wo.cell? ⟨g1, o1 + 2, none⟩ = some (.string xa) := hcell 2 _ rfl
        have c3 : wo.cell? ⟨g1, o1 + 3, none⟩ = some (.string xb) := hcell 3 _ rfl
        have c4 : wo.cell? ⟨g1, o1 + 4, none⟩ = some (.string xc) := hcell 4 _ rfl
        have c5 : wo.cell? ⟨g1, o1 + 5, none⟩ = some (.string xd) := hcell 5 _ rfl
        have c6 : wo.cell? ⟨g1, o1 + 6, none⟩ = some (.float .f64 vl) := hcell 6 _ rfl
        have c7 : wo.cell? ⟨g1, o1 + 7, none⟩ = some (.int .i64 xp) := hcell 7 _ rfl
        clear hcell
        go_upto_region 12 with fail
        have hb1 := (Below.refl wo.heap.size wo).alloc (Nat.le_refl _) (.cells #[.int .u8 2, .string xn, .string xa, .string xb, .string xc, .string xd, .float .f64 vl, .int .i64 xp] 44)
        have HBE := hid (heap_alloc_new wo (.cells #[.int .u8 2, .string xn, .string xa, .string xb, .string xc, .string xd, .float .f64 vl, .int .i64 xp] 44))
        have HBD1 := hid (HBD.out.below hb1)
        have HGR1 := hid (grown_trans HGR.out (grown_of_below hb1 (some g)))
        have HT1 := hid (heap_laterS hb1 HT.out)
        clear HBD HGR HT c0 c1 c2 c3 c4 c5 c6 c7 hidx hb1
        generalize wo.alloc (.cells #[.int .u8 2, .string xn, .string xa, .string xb, .string xc, .string xd, .float .f64 vl, .int .i64 xp] 44) = wa at *
        generalize wo.heap.size = eb at *
        have hx8 := cells_ofS HBE.out
        have e0 := hx8.1 0 _ rfl
        have e1 := hx8.1 1 _ rfl
        have e2 := hx8.1 2 _ rfl
        have e3 := hx8.1 3 _ rfl
        have e4 := hx8.1 4 _ rfl
        have e5 := hx8.1 5 _ rfl
        have e6 := hx8.1 6 _ rfl
        have e7 := hx8.1 7 _ rfl
        clear hx8
        by_cases had : (admS (⟨2, xn, xa, xb, xc, xd, vl, xp⟩ : El) om).2 = 0
        · have HAD := hid had
          clear had
          go_upto_region 22 with (go_at_call 33; refine (tadm_any (⟨2, xn, xa, xb, xc, xd, vl, xp⟩ : El) om _ HXOK.out).mono ?_; rintro e wc ⟨v, rfl, hb, y1, y2, er, rfl, hz⟩; obtain rfl : er = 0 := (congrArg Prod.snd hz).trans HAD.out; have HY := hid (congrArg Prod.fst hz); have HBD2 := hid (HBD1.out.below hb); have HGR2 := hid (grown_trans HGR1.out (grown_of_below hb (some g))); have HBE2 := hid (heap_laterS hb HBE.out); have HT2 := hid (heap_laterS hb HT1.out); clear HBD1 HGR1 HBE HT1 hb hz e0 e1 e2 e3 e4 e5 e6 e7)
          have HSS := hid (step_ad (l := l) (m := matK l om k) (x := (⟨2, xn, xa, xb, xc, xd, vl, xp⟩ : El)) rfl HAD.out HY.out)
          have hx8 := cells_ofS HBE2.out
          have e0 := hx8.1 0 _ rfl
          have e1 := hx8.1 1 _ rfl
          have e2 := hx8.1 2 _ rfl
          have e3 := hx8.1 3 _ rfl
          have e4 := hx8.1 4 _ rfl
          have e5 := hx8.1 5 _ rfl
          have e6 := hx8.1 6 _ rfl
          have e7 := hx8.1 7 _ rfl
          clear hx8
          have tk := (cells_ofS HT2.out).1 2 _ rfl
          go_still_tail 7, (by kernel_rfl)
          change wpList _ _ _ _ _ wc.drew
          have HBD3 := hid (HBD2.out.below (Below.refl _ _).drew)
          have HGR3 := hid (grown_trans HGR2.out (grown_of_below (Below.refl _ _).drew (some g)))
          clear HBD2 HGR2 HT2 HBE2 e0 e1 e2 e3 e4 e5 e6 e7 tk
          generalize wc.drew = wd at *
          go_upto_region 23 with (go_at_call 56; refine (bpair_any w3 _ g _ l _ (⟨2, xn, xa, xb, xc, xd, vl, xp⟩ : El) y1 y2 HBD3.out HXOK.out HSZ.out).mono ?_; rintro e we ⟨rfl, hbrd, hgr⟩; have HBD4 : Hid (BdAt w3 we g (.pointer (some pa)) l ((stPair (rowI l xa) (rowI l xb) (fc y1, fc y2)).foldl (st1 (szL l)) (matK l om k, false))) := hid (HBD3.out.next hbrd hgr); have HGR4 := hid (grown_trans HGR3.out hgr); clear HBD3 HGR3 hbrd hgr)
          generalize hS : (stPair (rowI l xa) (rowI l xb) (fc y1, fc y2)).foldl (st1 (szL l)) (matK l om k, false) = S at *
          obtain ⟨sm, sv⟩ := S
          obtain ⟨M, hM⟩ := HBD4.out.brd
          have b3 := (cells_ofS hM.2.1).1 3 _ board_3
          clear hM hS
          cases sv
          · have HS0 := hid (show stStep l om (matK l om k) (⟨2, xn, xa, xb, xc, xd, vl, xp⟩ : El) = (sm, 0) from HSS.out)
            have hll := HLE.out
            go_wp2_with fail
            (try simp only [Exit.inBlock, Exit.then])
            refine HQN _ _ ?_
            go_wp2
            go_roundw
            case rel =>
              refine ⟨k + 1, HK1.out, ?num, ?brd, HGR4.out, ?all⟩
              case num => go_num
              case brd => rw [matK_succ HX.out, HS0.out]; exact HBD4.out
              case all =>
                intro i x hi hx
                by_cases e : i = k
                · subst e; obtain rfl := Option.some.inj (hx.symm.trans HX.out); rw [HS0.out]
                · exact HST.out i x (by omega) hx
            case measure => simp [intOf]; omega
          · have HS6 := hid (show stStep l om (matK l om k) (⟨2, xn, xa, xb, xc, xd, vl, xp⟩ : El) = (sm, 6) from HSS.out)
            have hzz := cells_ofS (heap_laterG HGR4.out (fun e => by have := HGW.out; cases e; omega) HZ4.out)
            have z40 := hzz.1 0 _ rfl
            have z41 := hzz.1 1 _ rfl
            have z42 := hzz.1 2 _ rfl
            have y40 := hzz.2 0
            have y41 := hzz.2 1
            have y42 := hzz.2 2
            have hyy := cells_ofS (heap_laterG HGR4.out (fun e => by have := HGW.out; cases e; omega) HZ5.out)
            have z50 := hyy.1 0 _ rfl
            have z51 := hyy.1 1 _ rfl
            have y50 := hyy.2 0
            have y51 := hyy.2 1
            have HBF := hid (HB8.out.grown HGR4.out HB8.out.size (fun k e => by cases e; have := HGW.out; omega))
            clear hzz hyy
            go_wp2_with fail
            (try simp only [Exit.inBlock, Exit.then])
            refine HQR _ _ ?_
            refine bodyPost_ret (v := endBad (6) k) ?_ rfl (RetMx.bad ((mat_stop HA.out HX.out HST.out (by rw [HS6.out]; show (6 : Int) ≠ 0; decide)).trans (by rw [HS6.out])) (by repeat (first | with_reducible exact HBF.out | with_reducible refine Below.setCell ?_ (by dsimp only; omega) _)))
            rw [results_cell_cellM rfl]; go_simp; rfl
        · have HAD := hid had
          go_upto_region 21 with (go_at_call 33; refine (tadm_any (⟨2, xn, xa, xb, xc, xd, vl, xp⟩ : El) om _ HXOK.out).mono ?_; rintro e wc ⟨v, rfl, hb, y1, y2, er, rfl, hz⟩; have HER := hid (congrArg Prod.snd hz); have hne : (er != 0) = true := (by have := HER.out; have h2 := HAD.out; rw [bne_iff_ne]; intro h0; exact h2 (this.symm.trans h0)); have HGR2 := hid (grown_trans HGR1.out (grown_of_below hb (some g))); clear HBD1 HGR1 HBE HT1 hb hz e0 e1 e2 e3 e4 e5 e6 e7)
          have HS6 := hid (step_bad (l := l) (om := om) (m := matK l om k) (x := (⟨2, xn, xa, xb, xc, xd, vl, xp⟩ : El)) rfl HAD.out)
          clear had
          have hzz := cells_ofS (heap_laterG HGR2.out (fun e => by have := HGW.out; cases e; omega) HZ4.out)
          have z40 := hzz.1 0 _ rfl
          have z41 := hzz.1 1 _ rfl
          have z42 := hzz.1 2 _ rfl
          have y40 := hzz.2 0
          have y41 := hzz.2 1
          have y42 := hzz.2 2
          have hyy := cells_ofS (heap_laterG HGR2.out (fun e => by have := HGW.out; cases e; omega) HZ5.out)
          have z50 := hyy.1 0 _ rfl
          have z51 := hyy.1 1 _ rfl
          have y50 := hyy.2 0
          have y51 := hyy.2 1
          have HBF := hid (HB8.out.grown HGR2.out HB8.out.size (fun k e => by cases e; have := HGW.out; omega))
          clear hzz hyy
          go_wp2_with fail
          (try simp only [Exit.inBlock, Exit.then])
          refine HQR _ _ ?_
          refine bodyPost_ret (v := endBad (er) k) ?_ rfl (RetMx.bad ((mat_stop HA.out HX.out HST.out (by rw [HS6.out]; exact HAD.out)).trans (by rw [HS6.out]; show ((0, []), ((admS (⟨2, xn, xa, xb, xc, xd, vl, xp⟩ : El) om).2, (k : Int))) = _; rw [← HER.out])) (by repeat (first | with_reducible exact HBF.out | with_reducible refine Below.setCell ?_ (by dsimp only; omega) _)))
          rw [results_cell_cellM rfl]; go_simp; rfl
      · obtain ⟨kd, xn, xa, xb, xc, xd, vl, xp⟩ := x
        obtain rfl : kd = 3 := hkd
        refine wp_gen ?_
        intro QQ HQN HQR HQE
        have c0 : wo.cell? ⟨g1, o1, none⟩ = some (.int .u8 3) := hcell 0 _ rfl
        have c1 : wo.cell? ⟨g1, o1 + 1, none⟩ = some (.string xn) := hcell 1 _ rfl
        have c2 : wo.cell? ⟨g1, o1 + 2, none⟩ = some (.string xa) := hcell 2 _ rfl
        have c3 : wo.cell? ⟨g1, o1 + 3, none⟩ = some (.string xb) := hcell 3 _ rfl
        have c4 : wo.cell? ⟨g1, o1 + 4, none⟩ = some (.string xc) := hcell 4 _ rfl
        have c5 : wo.cell? ⟨g1, o1 + 5, none⟩ = some (.string xd) := hcell 5 _ rfl
        have c6 : wo.cell? ⟨g1, o1 + 6, none⟩ = some (.float .f64 vl) := hcell 6 _ rfl
        have c7 : wo.cell? ⟨g1, o1 + 7, none⟩ = some (.int .i64 xp) := hcell 7 _ rfl
        clear hcell
        go_upto_region 12 with fail
        have hb1 := (Below.refl wo.heap.size wo).alloc (Nat.le_refl _) (.cells #[.int .u8 3, .string xn, .string xa, .string xb, .string xc, .string xd, .float .f64 vl, .int .i64 xp] 44)
        have HBE := hid (heap_alloc_new wo (.cells #[.int .u8 3, .string xn, .string xa, .string xb, .string xc, .string xd, .float .f64 vl, .int .i64 xp] 44))
        have HBD1 := hid (HBD.out.below hb1)
        have HGR1 := hid (grown_trans HGR.out (grown_of_below hb1 (some g)))
        have HT1 := hid (heap_laterS hb1 HT.out)
        clear HBD HGR HT c0 c1 c2 c3 c4 c5 c6 c7 hidx hb1
        generalize wo.alloc (.cells #[.int .u8 3, .string xn, .string xa, .string xb, .string xc, .string xd, .float .f64 vl, .int .i64 xp] 44) = wa at *
        generalize wo.heap.size = eb at *
        have hx8 := cells_ofS HBE.out
        have e0 := hx8.1 0 _ rfl
        have e1 := hx8.1 1 _ rfl
        have e2 := hx8.1 2 _ rfl
        have e3 := hx8.1 3 _ rfl
        have e4 := hx8.1 4 _ rfl
        have e5 := hx8.1 5 _ rfl
        have e6 := hx8.1 6 _ rfl
        have e7 := hx8.1 7 _ rfl
        clear hx8
        by_cases had : (admS (⟨3, xn, xa, xb, xc, xd, vl, xp⟩ : El) om).2 = 0
        · have HAD := hid had
          clear had
          go_upto_region 22 with (go_at_call 33; refine (tadm_any (⟨3, xn, xa, xb, xc, xd, vl, xp⟩ : El) om _ HXOK.out).mono ?_; rintro e wc ⟨v, rfl, hb, y1, y2, er, rfl, hz⟩; obtain rfl : er = 0 := (congrArg Prod.snd hz).trans HAD.out; have HY := hid (congrArg Prod.fst hz); have HBD2 := hid (HBD1.out.below hb); have HGR2 := hid (grown_trans HGR1.out (grown_of_below hb (some g))); have HBE2 := hid (heap_laterS hb HBE.out); have HT2 := hid (heap_laterS hb HT1.out); clear HBD1 HGR1 HBE HT1 hb hz e0 e1 e2 e3 e4 e5 e6 e7)
          have HSS := hid (step_ad (l := l) (m := matK l om k) (x := (⟨3, xn, xa, xb, xc, xd, vl, xp⟩ : El)) rfl HAD.out HY.out)
          have hx8 := cells_ofS HBE2.out
          have e0 := hx8.1 0 _ rfl
          have e1 := hx8.1 1 _ rfl
          have e2 := hx8.1 2 _ rfl
          have e3 := hx8.1 3 _ rfl
          have e4 := hx8.1 4 _ rfl
          have e5 := hx8.1 5 _ rfl
          have e6 := hx8.1 6 _ rfl
          have e7 := hx8.1 7 _ rfl
          clear hx8
          have tk := (cells_ofS HT2.out).1 3 _ rfl
          go_still_tail 7, (by kernel_rfl)
          change wpList _ _ _ _ _ wc.drew
          have HBD3 := hid (HBD2.out.below (Below.refl _ _).drew)
          have HGR3 := hid (grown_trans HGR2.out (grown_of_below (Below.refl _ _).drew (some g)))
          clear HBD2 HGR2 HT2 HBE2 e0 e1 e2 e3 e4 e5 e6 e7 tk
          generalize wc.drew = wd at *
          go_upto_region 23 with (go_at_call 56; refine (bpair_any w3 _ g _ l _ (⟨3, xn, xa, xb, xc, xd, vl, xp⟩ : El) y1 y2 HBD3.out HXOK.out HSZ.out).mono ?_; rintro e we ⟨rfl, hbrd, hgr⟩; have HBD4 : Hid (BdAt w3 we g (.pointer (some pa)) l ((stPair (rowI l xa) (rowI l xb) (fc y1, fc y2)).foldl (st1 (szL l)) (matK l om k, false))) := hid (HBD3.out.next hbrd hgr); have HGR4 := hid (grown_trans HGR3.out hgr); clear HBD3 HGR3 hbrd hgr)
          generalize hS : (stPair (rowI l xa) (rowI l xb) (fc y1, fc y2)).foldl (st1 (szL l)) (matK l om k, false) = S at *
          obtain ⟨sm, sv⟩ := S
          obtain ⟨M, hM⟩ := HBD4.out.brd
          have b3 := (cells_ofS hM.2.1).1 3 _ board_3
          clear hM hS
          cases sv
          · have HS0 := hid (show stStep l om (matK l om k) (⟨3, xn, xa, xb, xc, xd, vl, xp⟩ : El) = (sm, 0) from HSS.out)
            have hll := HLE.out
            go_wp2_with fail
            (try simp only [Exit.inBlock, Exit.then])
            refine HQN _ _ ?_
            go_wp2
            go_roundw
            case rel =>
              refine ⟨k + 1, HK1.out, ?num, ?brd, HGR4.out, ?all⟩
              case num => go_num
              case brd => rw [matK_succ HX.out, HS0.out]; exact HBD4.out
              case all =>
                intro i x hi hx
                by_cases e : i = k
                · subst e; obtain rfl := Option.some.inj (hx.symm.trans HX.out); rw [HS0.out]
                · exact HST.out i x (by omega) hx
            case measure => simp [intOf]; omega
          · have HS6 := hid (show stStep l om (matK l om k) (⟨3, xn, xa, xb, xc, xd, vl, xp⟩ : El) = (sm, 6) from HSS.out)
            have hzz := cells_ofS (heap_laterG HGR4.out (fun e => by have := HGW.out; cases e; omega) HZ4.out)
            have z40 := hzz.1 0 _ rfl
            have z41 := hzz.1 1 _ rfl
            have z42 := hzz.1 2 _ rfl
            have y40 := hzz.2 0
            have y41 := hzz.2 1
            have y42 := hzz.2 2
            have hyy := cells_ofS (heap_laterG HGR4.out (fun e => by have := HGW.out; cases e; omega) HZ5.out)
            have z50 := hyy.1 0 _ rfl
            have z51 := hyy.1 1 _ rfl
            have y50 := hyy.2 0
            have y51 := hyy.2 1
            have HBF := hid (HB8.out.grown HGR4.out HB8.out.size (fun k e => by cases e; have := HGW.out; omega))
            clear hzz hyy
            go_wp2_with fail
            (try simp only [Exit.inBlock, Exit.then])
            refine HQR _ _ ?_
            refine bodyPost_ret (v := endBad (6) k) ?_ rfl (RetMx.bad ((mat_stop HA.out HX.out HST.out (by rw [HS6.out]; show (6 : Int) ≠ 0; decide)).trans (by rw [HS6.out])) (by repeat (first | with_reducible exact HBF.out | with_reducible refine Below.setCell ?_ (by dsimp only; omega) _)))
            rw [results_cell_cellM rfl]; go_simp; rfl
        · have HAD := hid had
          go_upto_region 21 with (go_at_call 33; refine (tadm_any (⟨3, xn, xa, xb, xc, xd, vl, xp⟩ : El) om _ HXOK.out).mono ?_; rintro e wc ⟨v, rfl, hb, y1, y2, er, rfl, hz⟩; have HER := hid (congrArg Prod.snd hz); have hne : (er != 0) = true := (by have := HER.out; have h2 := HAD.out; rw [bne_iff_ne]; intro h0; exact h2 (this.symm.trans h0)); have HGR2 := hid (grown_trans HGR1.out (grown_of_below hb (some g))); clear HBD1 HGR1 HBE HT1 hb hz e0 e1 e2 e3 e4 e5 e6 e7)
          have HS6 := hid (step_bad (l := l) (om := om) (m := matK l om k) (x := (⟨3, xn, xa, xb, xc, xd, vl, xp⟩ : El)) rfl HAD.out)
          clear had
          have hzz := cells_ofS (heap_laterG HGR2.out (fun e => by have := HGW.out; cases e; omega) HZ4.out)
          have z40 := hzz.1 0 _ rfl
          have z41 := hzz.1 1 _ rfl
          have z42 := hzz.1 2 _ rfl
          have y40 := hzz.2 0
          have y41 := hzz.2 1
          have y42 := hzz.2 2
          have hyy := cells_ofS (heap_laterG HGR2.out (fun e => by have := HGW.out; cases e; omega) HZ5.out)
          have z50 := hyy.1 0 _ rfl
          have z51 := hyy.1 1 _ rfl
          have y50 := hyy.2 0
          have y51 := hyy.2 1
          have HBF := hid (HB8.out.grown HGR2.out HB8.out.size (fun k e => by cases e; have := HGW.out; omega))
          clear hzz hyy
          go_wp2_with fail
          (try simp only [Exit.inBlock, Exit.then])
          refine HQR _ _ ?_
          refine bodyPost_ret (v := endBad (er) k) ?_ rfl (RetMx.bad ((mat_stop HA.out HX.out HST.out (by rw [HS6.out]; exact HAD.out)).trans (by rw [HS6.out]; show ((0, []), ((admS (⟨3, xn, xa, xb, xc, xd, vl, xp⟩ : El) om).2, (k : Int))) = _; rw [← HER.out])) (by repeat (first | with_reducible exact HBF.out | with_reducible refine Below.setCell ?_ (by dsimp only; omega) _)))
          rw [results_cell_cellM rfl]; go_simp; rfl
      · obtain ⟨kd, xn, xa, xb, xc, xd, vl, xp⟩ := x
        obtain rfl : kd = 4 := hkd
        refine wp_gen ?_
        intro QQ HQN HQR HQE
        have c0 : wo.cell? ⟨g1, o1, none⟩ = some (.int .u8 4) := hcell 0 _ rfl
        have c1 : wo.cell? ⟨g1, o1 + 1, none⟩ = some (.string xn) := hcell 1 _ rfl
        have c2 : wo.cell? ⟨g1, o1 + 2, none⟩ = some (.string xa) := hcell 2 _ rfl
        have c3 : wo.cell? ⟨g1, o1 + 3, none⟩ = some (.string xb) := hcell 3 _ rfl
        have c4 : wo.cell? ⟨g1, o1 + 4, none⟩ = some (.string xc) := hcell 4 _ rfl
        have c5 : wo.cell? ⟨g1, o1 + 5, none⟩ = some (.string xd) := hcell 5 _ rfl
        have c6 : wo.cell? ⟨g1, o1 + 6, none⟩ = some (.float .f64 vl) := hcell 6 _ rfl
        have c7 : wo.cell? ⟨g1, o1 + 7, none⟩ = some (.int .i64 xp) := hcell 7 _ rfl
        clear hcell
        go_upto_region 12 with fail
        have hb1 := (Below.refl wo.heap.size wo).alloc (Nat.le_refl _) (.cells #[.int .u8 4, .string xn, .string xa, .string xb, .string xc, .string xd, .float .f64 vl, .int .i64 xp] 44)
        have HBE := hid (heap_alloc_new wo (.cells #[.int .u8 4, .string xn, .string xa, .string xb, .string xc, .string xd, .float .f64 vl, .int .i64 xp] 44))
        have HBD1 := hid (HBD.out.below hb1)
        have HGR1 := hid (grown_trans HGR.out (grown_of_below hb1 (some g)))
        have HT1 := hid (heap_laterS hb1 HT.out)
        clear HBD HGR HT c0 c1 c2 c3 c4 c5 c6 c7 hidx hb1
        generalize wo.alloc (.cells #[.int .u8 4, .string xn, .string xa, .string xb, .string xc, .string xd, .float .f64 vl, .int .i64 xp] 44) = wa at *
        generalize wo.heap.size = eb at *
        have hx8 := cells_ofS HBE.out
        have e0 := hx8.1 0 _ rfl
        have e1 := hx8.1 1 _ rfl
        have e2 := hx8.1 2 _ rfl
        have e3 := hx8.1 3 _ rfl
        have e4 := hx8.1 4 _ rfl
        have e5 := hx8.1 5 _ rfl
        have e6 := hx8.1 6 _ rfl
        have e7 := hx8.1 7 _ rfl
        clear hx8
        go_upto_region 22 with fail
        clear e0 e1 e2 e3 e4 e5 e6 e7
        have HSS := hid (step_no (l := l) (om := om) (m := matK l om k) (x := (⟨4, xn, xa, xb, xc, xd, vl, xp⟩ : El)) (L := ([] : List St)) rfl (fun _ => rfl))
        have hx8 := cells_ofS HBE.out
        have e0 := hx8.1 0 _ rfl
        have e1 := hx8.1 1 _ rfl
        have e2 := hx8.1 2 _ rfl
        have e3 := hx8.1 3 _ rfl
        have e4 := hx8.1 4 _ rfl
        have e5 := hx8.1 5 _ rfl
        have e6 := hx8.1 6 _ rfl
        have e7 := hx8.1 7 _ rfl
        clear hx8
        have tk := (cells_ofS HT1.out).1 4 _ rfl
        go_still_tail 7, (by kernel_rfl)
        change wpList _ _ _ _ _ wa.drew
        have HBD3 := hid (HBD1.out.below (Below.refl _ _).drew)
        have HGR3 := hid (grown_trans HGR1.out (grown_of_below (Below.refl _ _).drew (some g)))
        clear HBD1 HGR1 HT1 HBE e0 e1 e2 e3 e4 e5 e6 e7 tk
        generalize wa.drew = wd at *
        go_upto_region 23 with (go_at_call 55; refine (bnone_any w3 _ g _ l _ (⟨4, xn, xa, xb, xc, xd, vl, xp⟩ : El) 0 0 HBD3.out).mono ?_; rintro e we ⟨rfl, hbrd, hgr⟩; have HBD4 : Hid (BdAt w3 we g (.pointer (some pa)) l (([] : List St).foldl (st1 (szL l)) (matK l om k, false))) := hid (HBD3.out.next hbrd hgr); have HGR4 := hid (grown_trans HGR3.out hgr); clear HBD3 HGR3 hbrd hgr)
        generalize hS : ([] : List St).foldl (st1 (szL l)) (matK l om k, false) = S at *
        obtain ⟨sm, sv⟩ := S
        obtain ⟨M, hM⟩ := HBD4.out.brd
        have b3 := (cells_ofS hM.2.1).1 3 _ board_3
        clear hM hS
        cases sv
        · have HS0 := hid (show stStep l om (matK l om k) (⟨4, xn, xa, xb, xc, xd, vl, xp⟩ : El) = (sm, 0) from HSS.out)
          have hll := HLE.out
          go_wp2_with fail
          (try simp only [Exit.inBlock, Exit.then])
          refine HQN _ _ ?_
          go_wp2
          go_roundw
          case rel =>
            refine ⟨k + 1, HK1.out, ?num, ?brd, HGR4.out, ?all⟩
            case num => go_num
            case brd => rw [matK_succ HX.out, HS0.out]; exact HBD4.out
            case all =>
              intro i x hi hx
              by_cases e : i = k
              · subst e; obtain rfl := Option.some.inj (hx.symm.trans HX.out); rw [HS0.out]
              · exact HST.out i x (by omega) hx
          case measure => simp [intOf]; omega
        · have HS6 := hid (show stStep l om (matK l om k) (⟨4, xn, xa, xb, xc, xd, vl, xp⟩ : El) = (sm, 6) from HSS.out)
          have hzz := cells_ofS (heap_laterG HGR4.out (fun e => by have := HGW.out; cases e; omega) HZ4.out)
          have z40 := hzz.1 0 _ rfl
          have z41 := hzz.1 1 _ rfl
          have z42 := hzz.1 2 _ rfl
          have y40 := hzz.2 0
          have y41 := hzz.2 1
          have y42 := hzz.2 2
          have hyy := cells_ofS (heap_laterG HGR4.out (fun e => by have := HGW.out; cases e; omega) HZ5.out)
          have z50 := hyy.1 0 _ rfl
          have z51 := hyy.1 1 _ rfl
          have y50 := hyy.2 0
          have y51 := hyy.2 1
          have HBF := hid (HB8.out.grown HGR4.out HB8.out.size (fun k e => by cases e; have := HGW.out; omega))
          clear hzz hyy
          go_wp2_with fail
          (try simp only [Exit.inBlock, Exit.then])
          refine HQR _ _ ?_
          refine bodyPost_ret (v := endBad (6) k) ?_ rfl (RetMx.bad ((mat_stop HA.out HX.out HST.out (by rw [HS6.out]; show (6 : Int) ≠ 0; decide)).trans (by rw [HS6.out])) (by repeat (first | with_reducible exact HBF.out | with_reducible refine Below.setCell ?_ (by dsimp only; omega) _)))
          rw [results_cell_cellM rfl]; go_simp; rfl
      · obtain ⟨kd, xn, xa, xb, xc, xd, vl, xp⟩ := x
        obtain rfl : kd = 5 := hkd
        refine wp_gen ?_
        intro QQ HQN HQR HQE
        have c0 : wo.cell? ⟨g1, o1, none⟩ = some (.int .u8 5) := hcell 0 _ rfl
        have c1 : wo.cell? ⟨g1, o1 + 1, none⟩ = some (.string xn) := hcell 1 _ rfl
        have c2 : wo.cell? ⟨g1, o1 + 2, none⟩ = some (.string xa) := hcell 2 _ rfl
        have c3 : wo.cell? ⟨g1, o1 + 3, none⟩ = some (.string xb) := hcell 3 _ rfl
        have c4 : wo.cell? ⟨g1, o1 + 4, none⟩ = some (.string xc) := hcell 4 _ rfl
        have c5 : wo.cell? ⟨g1, o1 + 5, none⟩ = some (.string xd) := hcell 5 _ rfl
        have c6 : wo.cell? ⟨g1, o1 + 6, none⟩ = some (.float .f64 vl) := hcell 6 _ rfl
        have c7 : wo.cell? ⟨g1, o1 + 7, none⟩ = some (.int .i64 xp) := hcell 7 _ rfl
        clear hcell
        go_upto_region 12 with fail
        have hb1 := (Below.refl wo.heap.size wo).alloc (Nat.le_refl _) (.cells #[.int .u8 5, .string xn, .string xa, .string xb, .string xc, .string xd, .float .f64 vl, .int .i64 xp] 44)
        have HBE := hid (heap_alloc_new wo (.cells #[.int .u8 5, .string xn, .string xa, .string xb, .string xc, .string xd, .float .f64 vl, .int .i64 xp] 44))
        have HBD1 := hid (HBD.out.below hb1)
        have HGR1 := hid (grown_trans HGR.out (grown_of_below hb1 (some g)))
        have HT1 := hid (heap_laterS hb1 HT.out)
        clear HBD HGR HT c0 c1 c2 c3 c4 c5 c6 c7 hidx hb1
        generalize wo.alloc (.cells #[.int .u8 5, .string xn, .string xa, .string xb, .string xc, .string xd, .float .f64 vl, .int .i64 xp] 44) = wa at *
        generalize wo.heap.size = eb at *
        have hx8 := cells_ofS HBE.out
        have e0 := hx8.1 0 _ rfl
        have e1 := hx8.1 1 _ rfl
        have e2 := hx8.1 2 _ rfl
        have e3 := hx8.1 3 _ rfl
        have e4 := hx8.1 4 _ rfl
        have e5 := hx8.1 5 _ rfl
        have e6 := hx8.1 6 _ rfl
        have e7 := hx8.1 7 _ rfl
        clear hx8
        go_upto_region 22 with fail
        clear e0 e1 e2 e3 e4 e5 e6 e7
        have HBRK := hid (has_br HX.out rfl)
        have HSS := hid (step_no (l := l) (om := om) (m := matK l om k) (x := (⟨5, xn, xa, xb, xc, xd, vl, xp⟩ : El)) (L := (stBr (rowI l xa) (rowI l xb) (brI l xn))) rfl (fun _ => rfl))
        have hx8 := cells_ofS HBE.out
        have e0 := hx8.1 0 _ rfl
        have e1 := hx8.1 1 _ rfl
        have e2 := hx8.1 2 _ rfl
        have e3 := hx8.1 3 _ rfl
        have e4 := hx8.1 4 _ rfl
        have e5 := hx8.1 5 _ rfl
        have e6 := hx8.1 6 _ rfl
        have e7 := hx8.1 7 _ rfl
        clear hx8
        have tk := (cells_ofS HT1.out).1 5 _ rfl
        go_still_tail 7, (by kernel_rfl)
        change wpList _ _ _ _ _ wa.drew
        have HBD3 := hid (HBD1.out.below (Below.refl _ _).drew)
        have HGR3 := hid (grown_trans HGR1.out (grown_of_below (Below.refl _ _).drew (some g)))
        clear HBD1 HGR1 HT1 HBE e0 e1 e2 e3 e4 e5 e6 e7 tk
        generalize wa.drew = wd at *
        go_upto_region 23 with (go_at_call 57; refine (bbranch_any w3 _ g _ l _ (⟨5, xn, xa, xb, xc, xd, vl, xp⟩ : El) 0 0 HBD3.out HXOK.out HSZ.out HBRK.out).mono ?_; rintro e we ⟨rfl, hbrd, hgr⟩; have HBD4 : Hid (BdAt w3 we g (.pointer (some pa)) l ((stBr (rowI l xa) (rowI l xb) (brI l xn)).foldl (st1 (szL l)) (matK l om k, false))) := hid (HBD3.out.next hbrd hgr); have HGR4 := hid (grown_trans HGR3.out hgr); clear HBD3 HGR3 hbrd hgr)
        generalize hS : (stBr (rowI l xa) (rowI l xb) (brI l xn)).foldl (st1 (szL l)) (matK l om k, false) = S at *
        obtain ⟨sm, sv⟩ := S
        obtain ⟨M, hM⟩ := HBD4.out.brd
        have b3 := (cells_ofS hM.2.1).1 3 _ board_3
        clear hM hS
        cases sv
        · have HS0 := hid (show stStep l om (matK l om k) (⟨5, xn, xa, xb, xc, xd, vl, xp⟩ : El) = (sm, 0) from HSS.out)
          have hll := HLE.out
          go_wp2_with fail
          (try simp only [Exit.inBlock, Exit.then])
          refine HQN _ _ ?_
          go_wp2
          go_roundw
          case rel =>
            refine ⟨k + 1, HK1.out, ?num, ?brd, HGR4.out, ?all⟩
            case num => go_num
            case brd => rw [matK_succ HX.out, HS0.out]; exact HBD4.out
            case all =>
              intro i x hi hx
              by_cases e : i = k
              · subst e; obtain rfl := Option.some.inj (hx.symm.trans HX.out); rw [HS0.out]
              · exact HST.out i x (by omega) hx
          case measure => simp [intOf]; omega
        · have HS6 := hid (show stStep l om (matK l om k) (⟨5, xn, xa, xb, xc, xd, vl, xp⟩ : El) = (sm, 6) from HSS.out)
          have hzz := cells_ofS (heap_laterG HGR4.out (fun e => by have := HGW.out; cases e; omega) HZ4.out)
          have z40 := hzz.1 0 _ rfl
          have z41 := hzz.1 1 _ rfl
          have z42 := hzz.1 2 _ rfl
          have y40 := hzz.2 0
          have y41 := hzz.2 1
          have y42 := hzz.2 2
          have hyy := cells_ofS (heap_laterG HGR4.out (fun e => by have := HGW.out; cases e; omega) HZ5.out)
          have z50 := hyy.1 0 _ rfl
          have z51 := hyy.1 1 _ rfl
          have y50 := hyy.2 0
          have y51 := hyy.2 1
          have HBF := hid (HB8.out.grown HGR4.out HB8.out.size (fun k e => by cases e; have := HGW.out; omega))
          clear hzz hyy
          go_wp2_with fail
          (try simp only [Exit.inBlock, Exit.then])
          refine HQR _ _ ?_
          refine bodyPost_ret (v := endBad (6) k) ?_ rfl (RetMx.bad ((mat_stop HA.out HX.out HST.out (by rw [HS6.out]; show (6 : Int) ≠ 0; decide)).trans (by rw [HS6.out])) (by repeat (first | with_reducible exact HBF.out | with_reducible refine Below.setCell ?_ (by dsimp only; omega) _)))
          rw [results_cell_cellM rfl]; go_simp; rfl
      · obtain ⟨kd, xn, xa, xb, xc, xd, vl, xp⟩ := x
        obtain rfl : kd = 6 := hkd
        refine wp_gen ?_
        intro QQ HQN HQR HQE
        have c0 : wo.cell? ⟨g1, o1, none⟩ = some (.int .u8 6) := hcell 0 _ rfl
        have c1 : wo.cell? ⟨g1, o1 + 1, none⟩ = some (.string xn) := hcell 1 _ rfl
        have c2 : wo.cell? ⟨g1, o1 + 2, none⟩ = some (.string xa) := hcell 2 _ rfl
        have c3 : wo.cell? ⟨g1, o1 + 3, none⟩ = some (.string xb) := hcell 3 _ rfl
        have c4 : wo.cell? ⟨g1, o1 + 4, none⟩ = some (.string xc) := hcell 4 _ rfl
        have c5 : wo.cell? ⟨g1, o1 + 5, none⟩ = some (.string xd) := hcell 5 _ rfl
        have c6 : wo.cell? ⟨g1, o1 + 6, none⟩ = some (.float .f64 vl) := hcell 6 _ rfl
        have c7 : wo.cell? ⟨g1, o1 + 7, none⟩ = some (.int .i64 xp) := hcell 7 _ rfl
        clear hcell
        go_upto_region 12 with fail
        have hb1 := (Below.refl wo.heap.size wo).alloc (Nat.le_refl _) (.cells #[.int .u8 6, .string xn, .string xa, .string xb, .string xc, .string xd, .float .f64 vl, .int .i64 xp] 44)
        have HBE := hid (heap_alloc_new wo (.cells #[.int .u8 6, .string xn, .string xa, .string xb, .string xc, .string xd, .float .f64 vl, .int .i64 xp] 44))
        have HBD1 := hid (HBD.out.below hb1)
        have HGR1 := hid (grown_trans HGR.out (grown_of_below hb1 (some g)))
        have HT1 := hid (heap_laterS hb1 HT.out)
        clear HBD HGR HT c0 c1 c2 c3 c4 c5 c6 c7 hidx hb1
        generalize wo.alloc (.cells #[.int .u8 6, .string xn, .string xa, .string xb, .string xc, .string xd, .float .f64 vl, .int .i64 xp] 44) = wa at *
        generalize wo.heap.size = eb at *
        have hx8 := cells_ofS HBE.out
        have e0 := hx8.1 0 _ rfl
        have e1 := hx8.1 1 _ rfl
        have e2 := hx8.1 2 _ rfl
        have e3 := hx8.1 3 _ rfl
        have e4 := hx8.1 4 _ rfl
        have e5 := hx8.1 5 _ rfl
        have e6 := hx8.1 6 _ rfl
        have e7 := hx8.1 7 _ rfl
        clear hx8
        go_upto_region 22 with fail
        clear e0 e1 e2 e3 e4 e5 e6 e7
        have HSS := hid (step_no (l := l) (om := om) (m := matK l om k) (x := (⟨6, xn, xa, xb, xc, xd, vl, xp⟩ : El)) (L := (stTrans (rowI l xa) (rowI l xb) (rowI l xc) (rowI l xd) (fc vl, fc 0))) rfl (fun _ => rfl))
        have hx8 := cells_ofS HBE.out
        have e0 := hx8.1 0 _ rfl
        have e1 := hx8.1 1 _ rfl
        have e2 := hx8.1 2 _ rfl
        have e3 := hx8.1 3 _ rfl
        have e4 := hx8.1 4 _ rfl
        have e5 := hx8.1 5 _ rfl
        have e6 := hx8.1 6 _ rfl
        have e7 := hx8.1 7 _ rfl
        clear hx8
        have tk := (cells_ofS HT1.out).1 6 _ rfl
        go_still_tail 7, (by kernel_rfl)
        change wpList _ _ _ _ _ wa.drew
        have HBD3 := hid (HBD1.out.below (Below.refl _ _).drew)
        have HGR3 := hid (grown_trans HGR1.out (grown_of_below (Below.refl _ _).drew (some g)))
        clear HBD1 HGR1 HT1 HBE e0 e1 e2 e3 e4 e5 e6 e7 tk
        generalize wa.drew = wd at *
        go_upto_region 23 with (go_at_call 58; refine (btransfer_any w3 _ g _ l _ (⟨6, xn, xa, xb, xc, xd, vl, xp⟩ : El) 0 0 HBD3.out HXOK.out HSZ.out).mono ?_; rintro e we ⟨rfl, hbrd, hgr⟩; have HBD4 : Hid (BdAt w3 we g (.pointer (some pa)) l ((stTrans (rowI l xa) (rowI l xb) (rowI l xc) (rowI l xd) (fc vl, fc 0)).foldl (st1 (szL l)) (matK l om k, false))) := hid (HBD3.out.next hbrd hgr); have HGR4 := hid (grown_trans HGR3.out hgr); clear HBD3 HGR3 hbrd hgr)
        generalize hS : (stTrans (rowI l xa) (rowI l xb) (rowI l xc) (rowI l xd) (fc vl, fc 0)).foldl (st1 (szL l)) (matK l om k, false) = S at *
        obtain ⟨sm, sv⟩ := S
        obtain ⟨M, hM⟩ := HBD4.out.brd
        have b3 := (cells_ofS hM.2.1).1 3 _ board_3
        clear hM hS
        cases sv
        · have HS0 := hid (show stStep l om (matK l om k) (⟨6, xn, xa, xb, xc, xd, vl, xp⟩ : El) = (sm, 0) from HSS.out)
          have hll := HLE.out
          go_wp2_with fail
          (try simp only [Exit.inBlock, Exit.then])
          refine HQN _ _ ?_
          go_wp2
          go_roundw
          case rel =>
            refine ⟨k + 1, HK1.out, ?num, ?brd, HGR4.out, ?all⟩
            case num => go_num
            case brd => rw [matK_succ HX.out, HS0.out]; exact HBD4.out
            case all =>
              intro i x hi hx
              by_cases e : i = k
              · subst e; obtain rfl := Option.some.inj (hx.symm.trans HX.out); rw [HS0.out]
              · exact HST.out i x (by omega) hx
          case measure => simp [intOf]; omega
        · have HS6 := hid (show stStep l om (matK l om k) (⟨6, xn, xa, xb, xc, xd, vl, xp⟩ : El) = (sm, 6) from HSS.out)
          have hzz := cells_ofS (heap_laterG HGR4.out (fun e => by have := HGW.out; cases e; omega) HZ4.out)
          have z40 := hzz.1 0 _ rfl
          have z41 := hzz.1 1 _ rfl
          have z42 := hzz.1 2 _ rfl
          have y40 := hzz.2 0
          have y41 := hzz.2 1
          have y42 := hzz.2 2
          have hyy := cells_ofS (heap_laterG HGR4.out (fun e => by have := HGW.out; cases e; omega) HZ5.out)
          have z50 := hyy.1 0 _ rfl
          have z51 := hyy.1 1 _ rfl
          have y50 := hyy.2 0
          have y51 := hyy.2 1
          have HBF := hid (HB8.out.grown HGR4.out HB8.out.size (fun k e => by cases e; have := HGW.out; omega))
          clear hzz hyy
          go_wp2_with fail
          (try simp only [Exit.inBlock, Exit.then])
          refine HQR _ _ ?_
          refine bodyPost_ret (v := endBad (6) k) ?_ rfl (RetMx.bad ((mat_stop HA.out HX.out HST.out (by rw [HS6.out]; show (6 : Int) ≠ 0; decide)).trans (by rw [HS6.out])) (by repeat (first | with_reducible exact HBF.out | with_reducible refine Below.setCell ?_ (by dsimp only; omega) _)))
          rw [results_cell_cellM rfl]; go_simp; rfl
      · obtain ⟨kd, xn, xa, xb, xc, xd, vl, xp⟩ := x
        obtain rfl : kd = 7 := hkd
        refine wp_gen ?_
        intro QQ HQN HQR HQE
        have c0 : wo.cell? ⟨g1, o1, none⟩ = some (.int .u8 7) := hcell 0 _ rfl
        have c1 : wo.cell? ⟨g1, o1 + 1, none⟩ = some (.string xn) := hcell 1 _ rfl
        have c2 : wo.cell? ⟨g1, o1 + 2, none⟩ = some (.string xa) := hcell 2 _ rfl
        have c3 : wo.cell? ⟨g1, o1 + 3, none⟩ = some (.string xb) := hcell 3 _ rfl
        have c4 : wo.cell? ⟨g1, o1 + 4, none⟩ = some (.string xc) := hcell 4 _ rfl
        have c5 : wo.cell? ⟨g1, o1 + 5, none⟩ = some (.string xd) := hcell 5 _ rfl
        have c6 : wo.cell? ⟨g1, o1 + 6, none⟩ = some (.float .f64 vl) := hcell 6 _ rfl
        have c7 : wo.cell? ⟨g1, o1 + 7, none⟩ = some (.int .i64 xp) := hcell 7 _ rfl
        clear hcell
        go_upto_region 12 with fail
        have hb1 := (Below.refl wo.heap.size wo).alloc (Nat.le_refl _) (.cells #[.int .u8 7, .string xn, .string xa, .string xb, .string xc, .string xd, .float .f64 vl, .int .i64 xp] 44)
        have HBE := hid (heap_alloc_new wo (.cells #[.int .u8 7, .string xn, .string xa, .string xb, .string xc, .string xd, .float .f64 vl, .int .i64 xp] 44))
        have HBD1 := hid (HBD.out.below hb1)
        have HGR1 := hid (grown_trans HGR.out (grown_of_below hb1 (some g)))
        have HT1 := hid (heap_laterS hb1 HT.out)
        clear HBD HGR HT c0 c1 c2 c3 c4 c5 c6 c7 hidx hb1
        generalize wo.alloc (.cells #[.int .u8 7, .string xn, .string xa, .string xb, .string xc, .string xd, .float .f64 vl, .int .i64 xp] 44) = wa at *
        generalize wo.heap.size = eb at *
        have hx8 := cells_ofS HBE.out
        have e0 := hx8.1 0 _ rfl
        have e1 := hx8.1 1 _ rfl
        have e2 := hx8.1 2 _ rfl
        have e3 := hx8.1 3 _ rfl
        have e4 := hx8.1 4 _ rfl
        have e5 := hx8.1 5 _ rfl
        have e6 := hx8.1 6 _ rfl
        have e7 := hx8.1 7 _ rfl
        clear hx8
        go_upto_region 22 with fail
        clear e0 e1 e2 e3 e4 e5 e6 e7
        have HBRK := hid (has_br HX.out rfl)
        have HSS := hid (step_no (l := l) (om := om) (m := matK l om k) (x := (⟨7, xn, xa, xb, xc, xd, vl, xp⟩ : El)) (L := (stBr (rowI l xa) (rowI l xb) (brI l xn) ++ stAmp (brI l xn) (rowI l xc) (rowI l xd) (fc vl, fc 0))) rfl (fun _ => rfl))
        have hx8 := cells_ofS HBE.out
        have e0 := hx8.1 0 _ rfl
        have e1 := hx8.1 1 _ rfl
        have e2 := hx8.1 2 _ rfl
        have e3 := hx8.1 3 _ rfl
        have e4 := hx8.1 4 _ rfl
        have e5 := hx8.1 5 _ rfl
        have e6 := hx8.1 6 _ rfl
        have e7 := hx8.1 7 _ rfl
        clear hx8
        have tk := (cells_ofS HT1.out).1 7 _ rfl
        go_still_tail 7, (by kernel_rfl)
        change wpList _ _ _ _ _ wa.drew
        have HBD3 := hid (HBD1.out.below (Below.refl _ _).drew)
        have HGR3 := hid (grown_trans HGR1.out (grown_of_below (Below.refl _ _).drew (some g)))
        clear HBD1 HGR1 HT1 HBE e0 e1 e2 e3 e4 e5 e6 e7 tk
        generalize wa.drew = wd at *
        go_upto_region 23 with (go_at_call 59; refine (bamplifier_any w3 _ g _ l _ (⟨7, xn, xa, xb, xc, xd, vl, xp⟩ : El) 0 0 HBD3.out HXOK.out HSZ.out HBRK.out).mono ?_; rintro e we ⟨rfl, hbrd, hgr⟩; have HBD4 : Hid (BdAt w3 we g (.pointer (some pa)) l ((stBr (rowI l xa) (rowI l xb) (brI l xn) ++ stAmp (brI l xn) (rowI l xc) (rowI l xd) (fc vl, fc 0)).foldl (st1 (szL l)) (matK l om k, false))) := hid (HBD3.out.next hbrd hgr); have HGR4 := hid (grown_trans HGR3.out hgr); clear HBD3 HGR3 hbrd hgr)
        generalize hS : (stBr (rowI l xa) (rowI l xb) (brI l xn) ++ stAmp (brI l xn) (rowI l xc) (rowI l xd) (fc vl, fc 0)).foldl (st1 (szL l)) (matK l om k, false) = S at *
        obtain ⟨sm, sv⟩ := S
        obtain ⟨M, hM⟩ := HBD4.out.brd
        have b3 := (cells_ofS hM.2.1).1 3 _ board_3
        clear hM hS
        cases sv
        · have HS0 := hid (show stStep l om (matK l om k) (⟨7, xn, xa, xb, xc, xd, vl, xp⟩ : El) = (sm, 0) from HSS.out)
          have hll := HLE.out
          go_wp2_with fail
          (try simp only [Exit.inBlock, Exit.then])
          refine HQN _ _ ?_
          go_wp2
          go_roundw
          case rel =>
            refine ⟨k + 1, HK1.out, ?num, ?brd, HGR4.out, ?all⟩
            case num => go_num
            case brd => rw [matK_succ HX.out, HS0.out]; exact HBD4.out
            case all =>
              intro i x hi hx
              by_cases e : i = k
              · subst e; obtain rfl := Option.some.inj (hx.symm.trans HX.out); rw [HS0.out]
              · exact HST.out i x (by omega) hx
          case measure => simp [intOf]; omega
        · have HS6 := hid (show stStep l om (matK l om k) (⟨7, xn, xa, xb, xc, xd, vl, xp⟩ : El) = (sm, 6) from HSS.out)
          have hzz := cells_ofS (heap_laterG HGR4.out (fun e => by have := HGW.out; cases e; omega) HZ4.out)
          have z40 := hzz.1 0 _ rfl
          have z41 := hzz.1 1 _ rfl
          have z42 := hzz.1 2 _ rfl
          have y40 := hzz.2 0
          have y41 := hzz.2 1
          have y42 := hzz.2 2
          have hyy := cells_ofS (heap_laterG HGR4.out (fun e => by have := HGW.out; cases e; omega) HZ5.out)
          have z50 := hyy.1 0 _ rfl
          have z51 := hyy.1 1 _ rfl
          have y50 := hyy.2 0
          have y51 := hyy.2 1
          have HBF := hid (HB8.out.grown HGR4.out HB8.out.size (fun k e => by cases e; have := HGW.out; omega))
          clear hzz hyy
          go_wp2_with fail
          (try simp only [Exit.inBlock, Exit.then])
          refine HQR _ _ ?_
          refine bodyPost_ret (v := endBad (6) k) ?_ rfl (RetMx.bad ((mat_stop HA.out HX.out HST.out (by rw [HS6.out]; show (6 : Int) ≠ 0; decide)).trans (by rw [HS6.out])) (by repeat (first | with_reducible exact HBF.out | with_reducible refine Below.setCell ?_ (by dsimp only; omega) _)))
          rw [results_cell_cellM rfl]; go_simp; rfl
      · obtain ⟨kd, xn, xa, xb, xc, xd, vl, xp⟩ := x
        obtain rfl : kd = 8 := hkd
        refine wp_gen ?_
        intro QQ HQN HQR HQE
        have c0 : wo.cell? ⟨g1, o1, none⟩ = some (.int .u8 8) := hcell 0 _ rfl
        have c1 : wo.cell? ⟨g1, o1 + 1, none⟩ = some (.string xn) := hcell 1 _ rfl
        have c2 : wo.cell? ⟨g1, o1 + 2, none⟩ = some (.string xa) := hcell 2 _ rfl
        have c3 : wo.cell? ⟨g1, o1 + 3, none⟩ = some (.string xb) := hcell 3 _ rfl
        have c4 : wo.cell? ⟨g1, o1 + 4, none⟩ = some (.string xc) := hcell 4 _ rfl
        have c5 : wo.cell? ⟨g1, o1 + 5, none⟩ = some (.string xd) := hcell 5 _ rfl
        have c6 : wo.cell? ⟨g1, o1 + 6, none⟩ = some (.float .f64 vl) := hcell 6 _ rfl
        have c7 : wo.cell? ⟨g1, o1 + 7, none⟩ = some (.int .i64 xp) := hcell 7 _ rfl
        clear hcell
        go_upto_region 12 with fail
        have hb1 := (Below.refl wo.heap.size wo).alloc (Nat.le_refl _) (.cells #[.int .u8 8, .string xn, .string xa, .string xb, .string xc, .string xd, .float .f64 vl, .int .i64 xp] 44)
        have HBE := hid (heap_alloc_new wo (.cells #[.int .u8 8, .string xn, .string xa, .string xb, .string xc, .string xd, .float .f64 vl, .int .i64 xp] 44))
        have HBD1 := hid (HBD.out.below hb1)
        have HGR1 := hid (grown_trans HGR.out (grown_of_below hb1 (some g)))
        have HT1 := hid (heap_laterS hb1 HT.out)
        clear HBD HGR HT c0 c1 c2 c3 c4 c5 c6 c7 hidx hb1
        generalize wo.alloc (.cells #[.int .u8 8, .string xn, .string xa, .string xb, .string xc, .string xd, .float .f64 vl, .int .i64 xp] 44) = wa at *
        generalize wo.heap.size = eb at *
        have hx8 := cells_ofS HBE.out
        have e0 := hx8.1 0 _ rfl
        have e1 := hx8.1 1 _ rfl
        have e2 := hx8.1 2 _ rfl
        have e3 := hx8.1 3 _ rfl
        have e4 := hx8.1 4 _ rfl
        have e5 := hx8.1 5 _ rfl
        have e6 := hx8.1 6 _ rfl
        have e7 := hx8.1 7 _ rfl
        clear hx8
        by_cases had : (admS (⟨8, xn, xa, xb, xc, xd, vl, xp⟩ : El) om).2 = 0
        · have HAD := hid had
          clear had
          go_upto_region 22 with (go_at_call 33; refine (tadm_any (⟨8, xn, xa, xb, xc, xd, vl, xp⟩ : El) om _ HXOK.out).mono ?_; rintro e wc ⟨v, rfl, hb, y1, y2, er, rfl, hz⟩; obtain rfl : er = 0 := (congrArg Prod.snd hz).trans HAD.out; have HY := hid (congrArg Prod.fst hz); have HBD2 := hid (HBD1.out.below hb); have HGR2 := hid (grown_trans HGR1.out (grown_of_below hb (some g))); have HBE2 := hid (heap_laterS hb HBE.out); have HT2 := hid (heap_laterS hb HT1.out); clear HBD1 HGR1 HBE HT1 hb hz e0 e1 e2 e3 e4 e5 e6 e7)
          have HSS := hid (step_ad (l := l) (m := matK l om k) (x := (⟨8, xn, xa, xb, xc, xd, vl, xp⟩ : El)) rfl HAD.out HY.out)
          have hx8 := cells_ofS HBE2.out
          have e0 := hx8.1 0 _ rfl
          have e1 := hx8.1 1 _ rfl
          have e2 := hx8.1 2 _ rfl
          have e3 := hx8.1 3 _ rfl
          have e4 := hx8.1 4 _ rfl
          have e5 := hx8.1 5 _ rfl
          have e6 := hx8.1 6 _ rfl
          have e7 := hx8.1 7 _ rfl
          clear hx8
          have tk := (cells_ofS HT2.out).1 8 _ rfl
          go_still_tail 7, (by kernel_rfl)
          change wpList _ _ _ _ _ wc.drew
          have HBD3 := hid (HBD2.out.below (Below.refl _ _).drew)
          have HGR3 := hid (grown_trans HGR2.out (grown_of_below (Below.refl _ _).drew (some g)))
          clear HBD2 HGR2 HT2 HBE2 e0 e1 e2 e3 e4 e5 e6 e7 tk
          generalize wc.drew = wd at *
          go_upto_region 23 with (go_at_call 56; refine (bpair_any w3 _ g _ l _ (⟨8, xn, xa, xb, xc, xd, vl, xp⟩ : El) y1 y2 HBD3.out HXOK.out HSZ.out).mono ?_; rintro e we ⟨rfl, hbrd, hgr⟩; have HBD4 : Hid (BdAt w3 we g (.pointer (some pa)) l ((stPair (rowI l xa) (rowI l xb) (fc y1, fc y2)).foldl (st1 (szL l)) (matK l om k, false))) := hid (HBD3.out.next hbrd hgr); have HGR4 := hid (grown_trans HGR3.out hgr); clear HBD3 HGR3 hbrd hgr)
          generalize hS : (stPair (rowI l xa) (rowI l xb) (fc y1, fc y2)).foldl (st1 (szL l)) (matK l om k, false) = S at *
          obtain ⟨sm, sv⟩ := S
          obtain ⟨M, hM⟩ := HBD4.out.brd
          have b3 := (cells_ofS hM.2.1).1 3 _ board_3
          clear hM hS
          cases sv
          · have HS0 := hid (show stStep l om (matK l om k) (⟨8, xn, xa, xb, xc, xd, vl, xp⟩ : El) = (sm, 0) from HSS.out)
            have hll := HLE.out
            go_wp2_with fail
            (try simp only [Exit.inBlock, Exit.then])
            refine HQN _ _ ?_
            go_wp2
            go_roundw
            case rel =>
              refine ⟨k + 1, HK1.out, ?num, ?brd, HGR4.out, ?all⟩
              case num => go_num
              case brd => rw [matK_succ HX.out, HS0.out]; exact HBD4.out
              case all =>
                intro i x hi hx
                by_cases e : i = k
                · subst e; obtain rfl := Option.some.inj (hx.symm.trans HX.out); rw [HS0.out]
                · exact HST.out i x (by omega) hx
            case measure => simp [intOf]; omega
          · have HS6 := hid (show stStep l om (matK l om k) (⟨8, xn, xa, xb, xc, xd, vl, xp⟩ : El) = (sm, 6) from HSS.out)
            have hzz := cells_ofS (heap_laterG HGR4.out (fun e => by have := HGW.out; cases e; omega) HZ4.out)
            have z40 := hzz.1 0 _ rfl
            have z41 := hzz.1 1 _ rfl
            have z42 := hzz.1 2 _ rfl
            have y40 := hzz.2 0
            have y41 := hzz.2 1
            have y42 := hzz.2 2
            have hyy := cells_ofS (heap_laterG HGR4.out (fun e => by have := HGW.out; cases e; omega) HZ5.out)
            have z50 := hyy.1 0 _ rfl
            have z51 := hyy.1 1 _ rfl
            have y50 := hyy.2 0
            have y51 := hyy.2 1
            have HBF := hid (HB8.out.grown HGR4.out HB8.out.size (fun k e => by cases e; have := HGW.out; omega))
            clear hzz hyy
            go_wp2_with fail
            (try simp only [Exit.inBlock, Exit.then])
            refine HQR _ _ ?_
            refine bodyPost_ret (v := endBad (6) k) ?_ rfl (RetMx.bad ((mat_stop HA.out HX.out HST.out (by rw [HS6.out]; show (6 : Int) ≠ 0; decide)).trans (by rw [HS6.out])) (by repeat (first | with_reducible exact HBF.out | with_reducible refine Below.setCell ?_ (by dsimp only; omega) _)))
            rw [results_cell_cellM rfl]; go_simp; rfl
        · have HAD := hid had
          go_upto_region 21 with (go_at_call 33; refine (tadm_any (⟨8, xn, xa, xb, xc, xd, vl, xp⟩ : El) om _ HXOK.out).mono ?_; rintro e wc ⟨v, rfl, hb, y1, y2, er, rfl, hz⟩; have HER := hid (congrArg Prod.snd hz); have hne : (er != 0) = true := (by have := HER.out; have h2 := HAD.out; rw [bne_iff_ne]; intro h0; exact h2 (this.symm.trans h0)); have HGR2 := hid (grown_trans HGR1.out (grown_of_below hb (some g))); clear HBD1 HGR1 HBE HT1 hb hz e0 e1 e2 e3 e4 e5 e6 e7)
          have HS6 := hid (step_bad (l := l) (om := om) (m := matK l om k) (x := (⟨8, xn, xa, xb, xc, xd, vl, xp⟩ : El)) rfl HAD.out)
          clear had
          have hzz := cells_ofS (heap_laterG HGR2.out (fun e => by have := HGW.out; cases e; omega) HZ4.out)
          have z40 := hzz.1 0 _ rfl
          have z41 := hzz.1 1 _ rfl
          have z42 := hzz.1 2 _ rfl
          have y40 := hzz.2 0
          have y41 := hzz.2 1
          have y42 := hzz.2 2
          have hyy := cells_ofS (heap_laterG HGR2.out (fun e => by have := HGW.out; cases e; omega) HZ5.out)
          have z50 := hyy.1 0 _ rfl
          have z51 := hyy.1 1 _ rfl
          have y50 := hyy.2 0
          have y51 := hyy.2 1
          have HBF := hid (HB8.out.grown HGR2.out HB8.out.size (fun k e => by cases e; have := HGW.out; omega))
          clear hzz hyy
          go_wp2_with fail
          (try simp only [Exit.inBlock, Exit.then])
          refine HQR _ _ ?_
          refine bodyPost_ret (v := endBad (er) k) ?_ rfl (RetMx.bad ((mat_stop HA.out HX.out HST.out (by rw [HS6.out]; exact HAD.out)).trans (by rw [HS6.out]; show ((0, []), ((admS (⟨8, xn, xa, xb, xc, xd, vl, xp⟩ : El) om).2, (k : Int))) = _; rw [← HER.out])) (by repeat (first | with_reducible exact HBF.out | with_reducible refine Below.setCell ?_ (by dsimp only; omega) _)))
          rw [results_cell_cellM rfl]; go_simp; rfl
    · obtain rfl : k = l.length := by omega
      go_upto_region 26 with fail
      have HZ4e := hid (heap_laterG HGR.out (fun e => by have := HGW.out; cases e; omega) HZ4.out)
      have HZ5e := hid (heap_laterG HGR.out (fun e => by have := HGW.out; cases e; omega) HZ5.out)
      have HBF := hid (HB8.out.grown HGR.out HB8.out.size (fun k e => by cases e; have := HGW.out; omega))
      obtain ⟨M, hM⟩ := HBD.out.brd
      obtain ⟨n, hn⟩ : ∃ n, szL l = n := ⟨_, rfl⟩
      rw [hn] at hM
      obtain ⟨nn, hn2⟩ : ∃ nn, n * n = nn := ⟨_, rfl⟩
      have hn64 : n ≤ 64 := by rw [← hn]; exact HSZ.out
      have hnb : nn ≤ 4096 := by rw [← hn2]; exact Nat.mul_le_mul hn64 hn64
      have hwm : IntKind.i64.wrap ((n : Int) * (n : Int)) = (nn : Int) := by
        rw [show (n : Int) * (n : Int) = ((n * n : Nat) : Int) by simp, hn2]
        rw [IntWalk.i64_in _ ⟨by omega, by omega⟩]
      have hsl := fun w' => arr_slice w' g nn hnb
      have HM := hid hM
      have HNB := hid hnb
      have HN2 := hid hn2
      have HSN := hid hn
      have HGLT := hid (show g < wo.heap.size from HLT.out)
      clear hM hnb hn2 hn hn64 HBD HO HT HLT hlt
      refine wp_region_any (by kernel_rfl) ?_
      change wpAny _ _ _ _ _ _ _ (World.drew _)
      refine wpAny_makersSD [⟨some 85, 0, []⟩, ⟨some 86, 1, []⟩, ⟨some 87, 2, []⟩, ⟨some 88, 3, []⟩, ⟨some 89, 4, []⟩, ⟨some 90, 5, []⟩, ⟨some 91, 6, []⟩, ⟨some 92, 7, []⟩, ⟨some 93, 8, []⟩, ⟨some 94, 9, []⟩, ⟨some 95, 10, []⟩, ⟨some 96, 11, []⟩, ⟨some 97, 12, []⟩, ⟨some 98, 13, []⟩, ⟨some 99, 14, []⟩, ⟨some 100, 15, []⟩, ⟨some 101, 16, []⟩, ⟨some 102, 17, []⟩, ⟨some 103, 18, []⟩, ⟨some 104, 19, []⟩, ⟨some 105, 20, []⟩, ⟨some 106, 21, []⟩, ⟨some 107, 22, [21]⟩, ⟨some 108, 23, []⟩, ⟨none, 24, [21]⟩] (fun u u' => u.grownBy u' (some (w.heap.size))) (fun k u u' => (k = 24 ∧ Set3 (w.heap.size) u u') ∨ (k ≠ 24 ∧ Below u.heap.size u u'))
        (fun w' => BoardM w' g (.pointer (some pa)) (nds l).length n (matK l om l.length) false M ∧ (∃ x0 x1 x2, w'.heap[w.heap.size]? = some (.cells #[x0, x1, x2] 38 (0, 0))) ∧ w'.heap[w.heap.size + 1]? = some FZ)
        (fun oq v xs ww lo hi => (match oq with | 0 => v = .pointer (some ⟨g, 0, none⟩) | 1 => v = .pointer (some ⟨g, 0, none⟩) | 2 => v = .pointer (some ⟨g, 2, none⟩) | 3 => v = .int .i64 n | 4 => v = .pointer (some ⟨g, 0, none⟩) | 5 => v = .pointer (some ⟨g, 0, none⟩) | 6 => v = .pointer (some ⟨g, 2, none⟩) | 7 => v = .int .i64 n | 8 => v = .pointer (some ⟨g, 0, none⟩) | 9 => v = .pointer (some ⟨g, 0, none⟩) | 10 => v = .pointer (some ⟨g, 4, none⟩) | 11 => v = .pointer (some ⟨g, 0, none⟩) | 12 => v = .pointer (some ⟨g, 0, none⟩) | 13 => v = .pointer (some ⟨g, 2, none⟩) | 14 => v = .int .i64 n | 15 => v = .pointer (some ⟨g, 0, none⟩) | 16 => v = .pointer (some ⟨g, 0, none⟩) | 17 => v = .pointer (some ⟨g, 2, none⟩) | 18 => v = .int .i64 n | 19 => v = .int .i64 nn | 20 => v = .slice (some ⟨g, 4, none⟩) nn 4096 | 21 => True | 22 => v = .agg #[.int .i64 n, .int .i64 n, xs.getD 0 undef] | 23 => v = .agg #[.int .i64 0, .int .i64 0] | 24 => True | _ => True) ∧ (oq = 21 → RowD 47 1 nn ((M.take nn).map mkC) v ww lo hi) ∧ (oq = 24 → ww.heap[w.heap.size]? = some (.cells #[.int .i64 n, .int .i64 n, xs.getD 0 undef] 38 (0, 0)))) (by kernel_rfl) ?hSe (fun _ => World.grownBy.refl _ _) (fun _ _ _ h1 h2 => grown_trans h1 h2) (fun _ _ h => h.size) (fun _ _ _ h => by rcases h with ⟨_, h⟩ | ⟨_, h⟩; exact h.grown; exact grown_of_below h _) (fun k w1 w2 _ h hS => by rcases h with ⟨_, h⟩ | ⟨_, h⟩; exact ⟨⟨hS.1.1, heap_nextG h.grown (by have := HGW.out; omega) hS.1.2.1, hS.1.2.2⟩, h.three hS.2.1, heap_nextG h.grown (by omega) hS.2.2⟩; exact ⟨hS.1.below h, ⟨_, _, _, heap_next h hS.2.1.choose_spec.choose_spec.choose_spec⟩, heap_next h hS.2.2⟩) (fun k i hki v xs w1 w2 lo hi hlo hst hle h => by rcases hst with ⟨rfl, hg⟩ | ⟨_, hb⟩; exact ⟨h.1, fun e => (h.2.1 e).grown hg.grown (Nat.lt_of_lt_of_le (show w.heap.size < wo.heap.size by have := HGW.out; have := HGLT.out; omega) hlo), (fun e => absurd e hki)⟩; exact ⟨h.1, fun e => (h.2.1 e).later hb, fun e => heap_next hb (h.2.2 e)⟩) ?hope ?hende
      case hSe => exact ⟨HM.out.below (Below.refl _ _).drew, ⟨_, _, _, heap_next (Below.refl _ _).drew HZ4e.out⟩, heap_next (Below.refl _ _).drew HZ5e.out⟩
      case hope =>
        delta OwedS
        simp only [fillD, Act.put, List.setIfInBounds_toArray, List.set_cons_zero, List.set_cons_succ]
        refine Each.cons rfl ?_ (Each.cons rfl ?_ (Each.cons rfl ?_ (Each.cons rfl ?_ (Each.cons rfl ?_ (Each.cons rfl ?_ (Each.cons rfl ?_ (Each.cons rfl ?_ (Each.cons rfl ?_ (Each.cons rfl ?_ (Each.cons rfl ?_ (Each.cons rfl ?_ (Each.cons rfl ?_ (Each.cons rfl ?_ (Each.cons rfl ?_ (Each.cons rfl ?_ (Each.cons rfl ?_ (Each.cons rfl ?_ (Each.cons rfl ?_ (Each.cons rfl ?_ (Each.cons rfl ?_ (Each.cons rfl ?_ (Each.cons rfl ?_ (Each.cons rfl ?_ (Each.cons rfl ?_ Each.nil))))))))))))))))))))))))
        · intro vs w2 hb2 hS2 hR2 K hK
          simp only [List.set_cons_zero, List.set_cons_succ] at hK ⊢
          go_simp
          exact hK.out _ _ (.inr ⟨by decide, Below.refl _ _⟩) ⟨rfl, (fun e => (by cases e)), (fun e => (by cases e))⟩
        · intro vs w2 hb2 hS2 hR2 K hK
          have h0 : vs 0 = .pointer (some ⟨g, 0, none⟩) := by obtain ⟨_, _, _, h⟩ := hR2 0 (by kernel_rfl); exact h.1
          simp only [List.set_cons_zero, List.set_cons_succ] at hK ⊢
          simp only [h0] at hK ⊢
          go_simp
          exact hK.out _ _ (.inr ⟨by decide, Below.refl _ _⟩) ⟨rfl, (fun e => (by cases e)), (fun e => (by cases e))⟩
        · intro vs w2 hb2 hS2 hR2 K hK
          have h1 : vs 1 = .pointer (some ⟨g, 0, none⟩) := by obtain ⟨_, _, _, h⟩ := hR2 1 (by kernel_rfl); exact h.1
          simp only [List.set_cons_zero, List.set_cons_succ] at hK ⊢
          simp only [h1] at hK ⊢
          go_simp
          exact hK.out _ _ (.inr ⟨by decide, Below.refl _ _⟩) ⟨rfl, (fun e => (by cases e)), (fun e => (by cases e))⟩
        · intro vs w2 hb2 hS2 hR2 K hK
          have h2 : vs 2 = .pointer (some ⟨g, 2, none⟩) := by obtain ⟨_, _, _, h⟩ := hR2 2 (by kernel_rfl); exact h.1
          simp only [List.set_cons_zero, List.set_cons_succ] at hK ⊢
          have k2 := (cells_ofS hS2.1.2.1).1 2 _ board_2
          simp only [h2] at hK ⊢
          go_simp
          exact hK.out _ _ (.inr ⟨by decide, Below.refl _ _⟩) ⟨rfl, (fun e => (by cases e)), (fun e => (by cases e))⟩
        · intro vs w2 hb2 hS2 hR2 K hK
          simp only [List.set_cons_zero, List.set_cons_succ] at hK ⊢
          go_simp
          exact hK.out _ _ (.inr ⟨by decide, Below.refl _ _⟩) ⟨rfl, (fun e => (by cases e)), (fun e => (by cases e))⟩
        · intro vs w2 hb2 hS2 hR2 K hK
          have h4 : vs 4 = .pointer (some ⟨g, 0, none⟩) := by obtain ⟨_, _, _, h⟩ := hR2 4 (by kernel_rfl); exact h.1
          simp only [List.set_cons_zero, List.set_cons_succ] at hK ⊢
          simp only [h4] at hK ⊢
          go_simp
          exact hK.out _ _ (.inr ⟨by decide, Below.refl _ _⟩) ⟨rfl, (fun e => (by cases e)), (fun e => (by cases e))⟩
        · intro vs w2 hb2 hS2 hR2 K hK
          have h5 : vs 5 = .pointer (some ⟨g, 0, none⟩) := by obtain ⟨_, _, _, h⟩ := hR2 5 (by kernel_rfl); exact h.1
          simp only [List.set_cons_zero, List.set_cons_succ] at hK ⊢
          simp only [h5] at hK ⊢
          go_simp
          exact hK.out _ _ (.inr ⟨by decide, Below.refl _ _⟩) ⟨rfl, (fun e => (by cases e)), (fun e => (by cases e))⟩
        · intro vs w2 hb2 hS2 hR2 K hK
          have h6 : vs 6 = .pointer (some ⟨g, 2, none⟩) := by obtain ⟨_, _, _, h⟩ := hR2 6 (by kernel_rfl); exact h.1
          simp only [List.set_cons_zero, List.set_cons_succ] at hK ⊢
          have k2 := (cells_ofS hS2.1.2.1).1 2 _ board_2
          simp only [h6] at hK ⊢
          go_simp
          exact hK.out _ _ (.inr ⟨by decide, Below.refl _ _⟩) ⟨rfl, (fun e => (by cases e)), (fun e => (by cases e))⟩
        · intro vs w2 hb2 hS2 hR2 K hK
          simp only [List.set_cons_zero, List.set_cons_succ] at hK ⊢
          go_simp
          exact hK.out _ _ (.inr ⟨by decide, Below.refl _ _⟩) ⟨rfl, (fun e => (by cases e)), (fun e => (by cases e))⟩
        · intro vs w2 hb2 hS2 hR2 K hK
          have h8 : vs 8 = .pointer (some ⟨g, 0, none⟩) := by obtain ⟨_, _, _, h⟩ := hR2 8 (by kernel_rfl); exact h.1
          simp only [List.set_cons_zero, List.set_cons_succ] at hK ⊢
          simp only [h8] at hK ⊢
          go_simp
          exact hK.out _ _ (.inr ⟨by decide, Below.refl _ _⟩) ⟨rfl, (fun e => (by cases e)), (fun e => (by cases e))⟩
        · intro vs w2 hb2 hS2 hR2 K hK
          have h9 : vs 9 = .pointer (some ⟨g, 0, none⟩) := by obtain ⟨_, _, _, h⟩ := hR2 9 (by kernel_rfl); exact h.1
          simp only [List.set_cons_zero, List.set_cons_succ] at hK ⊢
          simp only [h9] at hK ⊢
          go_simp
          exact hK.out _ _ (.inr ⟨by decide, Below.refl _ _⟩) ⟨rfl, (fun e => (by cases e)), (fun e => (by cases e))⟩
        · intro vs w2 hb2 hS2 hR2 K hK
          simp only [List.set_cons_zero, List.set_cons_succ] at hK ⊢
          go_simp
          exact hK.out _ _ (.inr ⟨by decide, Below.refl _ _⟩) ⟨rfl, (fun e => (by cases e)), (fun e => (by cases e))⟩
        · intro vs w2 hb2 hS2 hR2 K hK
          have h11 : vs 11 = .pointer (some ⟨g, 0, none⟩) := by obtain ⟨_, _, _, h⟩ := hR2 11 (by kernel_rfl); exact h.1
          simp only [List.set_cons_zero, List.set_cons_succ] at hK ⊢
          simp only [h11] at hK ⊢
          go_simp
          exact hK.out _ _ (.inr ⟨by decide, Below.refl _ _⟩) ⟨rfl, (fun e => (by cases e)), (fun e => (by cases e))⟩
        · intro vs w2 hb2 hS2 hR2 K hK
          have h12 : vs 12 = .pointer (some ⟨g, 0, none⟩) := by obtain ⟨_, _, _, h⟩ := hR2 12 (by kernel_rfl); exact h.1
          simp only [List.set_cons_zero, List.set_cons_succ] at hK ⊢
          simp only [h12] at hK ⊢
          go_simp
          exact hK.out _ _ (.inr ⟨by decide, Below.refl _ _⟩) ⟨rfl, (fun e => (by cases e)), (fun e => (by cases e))⟩
        · intro vs w2 hb2 hS2 hR2 K hK
          have h13 : vs 13 = .pointer (some ⟨g, 2, none⟩) := by obtain ⟨_, _, _, h⟩ := hR2 13 (by kernel_rfl); exact h.1
          simp only [List.set_cons_zero, List.set_cons_succ] at hK ⊢
          have k2 := (cells_ofS hS2.1.2.1).1 2 _ board_2
          simp only [h13] at hK ⊢
          go_simp
          exact hK.out _ _ (.inr ⟨by decide, Below.refl _ _⟩) ⟨rfl, (fun e => (by cases e)), (fun e => (by cases e))⟩
        · intro vs w2 hb2 hS2 hR2 K hK
          simp only [List.set_cons_zero, List.set_cons_succ] at hK ⊢
          go_simp
          exact hK.out _ _ (.inr ⟨by decide, Below.refl _ _⟩) ⟨rfl, (fun e => (by cases e)), (fun e => (by cases e))⟩
        · intro vs w2 hb2 hS2 hR2 K hK
          have h15 : vs 15 = .pointer (some ⟨g, 0, none⟩) := by obtain ⟨_, _, _, h⟩ := hR2 15 (by kernel_rfl); exact h.1
          simp only [List.set_cons_zero, List.set_cons_succ] at hK ⊢
          simp only [h15] at hK ⊢
          go_simp
          exact hK.out _ _ (.inr ⟨by decide, Below.refl _ _⟩) ⟨rfl, (fun e => (by cases e)), (fun e => (by cases e))⟩
        · intro vs w2 hb2 hS2 hR2 K hK
          have h16 : vs 16 = .pointer (some ⟨g, 0, none⟩) := by obtain ⟨_, _, _, h⟩ := hR2 16 (by kernel_rfl); exact h.1
          simp only [List.set_cons_zero, List.set_cons_succ] at hK ⊢
          simp only [h16] at hK ⊢
          go_simp
          exact hK.out _ _ (.inr ⟨by decide, Below.refl _ _⟩) ⟨rfl, (fun e => (by cases e)), (fun e => (by cases e))⟩
        · intro vs w2 hb2 hS2 hR2 K hK
          have h17 : vs 17 = .pointer (some ⟨g, 2, none⟩) := by obtain ⟨_, _, _, h⟩ := hR2 17 (by kernel_rfl); exact h.1
          simp only [List.set_cons_zero, List.set_cons_succ] at hK ⊢
          have k2 := (cells_ofS hS2.1.2.1).1 2 _ board_2
          simp only [h17] at hK ⊢
          go_simp
          exact hK.out _ _ (.inr ⟨by decide, Below.refl _ _⟩) ⟨rfl, (fun e => (by cases e)), (fun e => (by cases e))⟩
        · intro vs w2 hb2 hS2 hR2 K hK
          have h14 : vs 14 = .int .i64 n := by obtain ⟨_, _, _, h⟩ := hR2 14 (by kernel_rfl); exact h.1
          have h18 : vs 18 = .int .i64 n := by obtain ⟨_, _, _, h⟩ := hR2 18 (by kernel_rfl); exact h.1
          simp only [List.set_cons_zero, List.set_cons_succ] at hK ⊢
          simp only [h14, h18] at hK ⊢
          go_simp
          exact hK.out _ _ (.inr ⟨by decide, Below.refl _ _⟩) ⟨rfl, (fun e => (by cases e)), (fun e => (by cases e))⟩
        · intro vs w2 hb2 hS2 hR2 K hK
          have h10 : vs 10 = .pointer (some ⟨g, 4, none⟩) := by obtain ⟨_, _, _, h⟩ := hR2 10 (by kernel_rfl); exact h.1
          have h19 : vs 19 = .int .i64 nn := by obtain ⟨_, _, _, h⟩ := hR2 19 (by kernel_rfl); exact h.1
          simp only [List.set_cons_zero, List.set_cons_succ] at hK ⊢
          simp only [h10, h19] at hK ⊢
          go_simp
          exact hK.out _ _ (.inr ⟨by decide, Below.refl _ _⟩) ⟨rfl, (fun e => (by cases e)), (fun e => (by cases e))⟩
        · intro vs w2 hb2 hS2 hR2 K hK
          have h20 : vs 20 = .slice (some ⟨g, 4, none⟩) nn 4096 := by obtain ⟨_, _, _, h⟩ := hR2 20 (by kernel_rfl); exact h.1
          simp only [List.set_cons_zero, List.set_cons_succ] at hK ⊢
          simp only [h20] at hK ⊢
          obtain ⟨i0, hi, hz0, hz1, hz2⟩ := info_parts infoC
          rw [if_pos (by rfl)]
          refine append_all_op (ops := #[]) rfl _ _ _ rfl 47 1 16 i0 (.complex .f64 0 0) Tryz.underlying36 hi hz0 hz1 hz2 rfl (by decide) _ nn ((M.take nn).map mkC) (board_sl hS2.1 HNB.out) (by rfl) (by rfl) (by intro u hu; obtain ⟨z, _, rfl⟩ := List.mem_map.1 hu; rfl) (by have := HNB.out; unfold maxLen; omega) (by have := HNB.out; omega) ?_
          intro v' w' hown hgr
          exact hK.out _ _ (.inr ⟨by decide, below_of_grown hgr⟩) ⟨trivial, fun _ => RowD.of hown, (fun e => (by cases e))⟩
        · intro vs w2 hb2 hS2 hR2 K hK
          have h3 : vs 3 = .int .i64 n := by obtain ⟨_, _, _, h⟩ := hR2 3 (by kernel_rfl); exact h.1
          have h7 : vs 7 = .int .i64 n := by obtain ⟨_, _, _, h⟩ := hR2 7 (by kernel_rfl); exact h.1
          obtain ⟨_, _, _, H21⟩ := hR2 21 (by kernel_rfl)
          have Y21 := H21.2.1 rfl
          simp only [List.set_cons_zero, List.set_cons_succ] at hK ⊢
          simp only [h3, h7] at hK ⊢
          obtain ⟨⟨ar, cr, h21⟩, _⟩ := Y21
          simp only [h21] at hK ⊢
          go_simp
          exact hK.out (.agg #[.int .i64 n, .int .i64 n, .slice ar nn cr]) _ (.inr ⟨by decide, Below.refl _ _⟩) ⟨by show _ = Value.agg #[_, _, vs 21]; rw [h21], (fun e => (by cases e)), (fun e => (by cases e))⟩
        · intro vs w2 hb2 hS2 hR2 K hK
          simp only [List.set_cons_zero, List.set_cons_succ] at hK ⊢
          go_simp
          exact hK.out _ _ (.inr ⟨by decide, Below.refl _ _⟩) ⟨rfl, (fun e => (by cases e)), (fun e => (by cases e))⟩
        · intro vs w2 hb2 hS2 hR2 K hK
          have h22 : vs 22 = .agg #[.int .i64 n, .int .i64 n, vs 21] := by obtain ⟨_, _, _, h⟩ := hR2 22 (by kernel_rfl); exact h.1
          (try simp only at hK ⊢)
          simp only [h22] at hK ⊢
          obtain ⟨_, _, _, H21⟩ := hR2 21 (by kernel_rfl)
          obtain ⟨⟨ar, cr, h21⟩, _⟩ := H21.2.1 rfl
          simp only [h21] at hK ⊢
          obtain ⟨x0, x1, x2, HZ⟩ := hS2.2.1
          have z40 := (cells_ofS HZ).1 0 _ rfl
          have z41 := (cells_ofS HZ).1 1 _ rfl
          have z42 := (cells_ofS HZ).1 2 _ rfl
          have y40 := (cells_ofS HZ).2 0
          have y41 := (cells_ofS HZ).2 1
          have y42 := (cells_ofS HZ).2 2
          go_simp
          exact hK.out undef _ (.inl ⟨by first | rfl | trivial, _, _, _, rfl⟩) ⟨trivial, (fun e => (by cases e)), fun _ => by show _ = some (Obj.cells #[_, _, vs 21] _ _); rw [h21]; exact set3_new HZ _ _ _⟩
      case hende =>
        intro vs wx lo hiv hbx hSx hRx hdx
        have h0 : vs 0 = .pointer (some ⟨g, 0, none⟩) := (hRx 0 (by kernel_rfl)).1.1
        have h1 : vs 1 = .pointer (some ⟨g, 0, none⟩) := (hRx 1 (by kernel_rfl)).1.1
        have h2 : vs 2 = .pointer (some ⟨g, 2, none⟩) := (hRx 2 (by kernel_rfl)).1.1
        have h3 : vs 3 = .int .i64 n := (hRx 3 (by kernel_rfl)).1.1
        have h4 : vs 4 = .pointer (some ⟨g, 0, none⟩) := (hRx 4 (by kernel_rfl)).1.1
        have h5 : vs 5 = .pointer (some ⟨g, 0, none⟩) := (hRx 5 (by kernel_rfl)).1.1
        have h6 : vs 6 = .pointer (some ⟨g, 2, none⟩) := (hRx 6 (by kernel_rfl)).1.1
        have h7 : vs 7 = .int .i64 n := (hRx 7 (by kernel_rfl)).1.1
        have h8 : vs 8 = .pointer (some ⟨g, 0, none⟩) := (hRx 8 (by kernel_rfl)).1.1
        have h9 : vs 9 = .pointer (some ⟨g, 0, none⟩) := (hRx 9 (by kernel_rfl)).1.1
        have h10 : vs 10 = .pointer (some ⟨g, 4, none⟩) := (hRx 10 (by kernel_rfl)).1.1
        have h11 : vs 11 = .pointer (some ⟨g, 0, none⟩) := (hRx 11 (by kernel_rfl)).1.1
        have h12 : vs 12 = .pointer (some ⟨g, 0, none⟩) := (hRx 12 (by kernel_rfl)).1.1
        have h13 : vs 13 = .pointer (some ⟨g, 2, none⟩) := (hRx 13 (by kernel_rfl)).1.1
        have h14 : vs 14 = .int .i64 n := (hRx 14 (by kernel_rfl)).1.1
        have h15 : vs 15 = .pointer (some ⟨g, 0, none⟩) := (hRx 15 (by kernel_rfl)).1.1
        have h16 : vs 16 = .pointer (some ⟨g, 0, none⟩) := (hRx 16 (by kernel_rfl)).1.1
        have h17 : vs 17 = .pointer (some ⟨g, 2, none⟩) := (hRx 17 (by kernel_rfl)).1.1
        have h18 : vs 18 = .int .i64 n := (hRx 18 (by kernel_rfl)).1.1
        have h19 : vs 19 = .int .i64 nn := (hRx 19 (by kernel_rfl)).1.1
        have h20 : vs 20 = .slice (some ⟨g, 4, none⟩) nn 4096 := (hRx 20 (by kernel_rfl)).1.1
        have Y21 := (hRx 21 (by kernel_rfl)).1.2.1 rfl
        have Z21 := (hRx 21 (by kernel_rfl)).2
        have h22 : vs 22 = .agg #[.int .i64 n, .int .i64 n, vs 21] := (hRx 22 (by kernel_rfl)).1.1
        have h23 : vs 23 = .agg #[.int .i64 0, .int .i64 0] := (hRx 23 (by kernel_rfl)).1.1
        have Y24 := (hRx 24 (by kernel_rfl)).1.2.2 rfl
        have Z24 := (hRx 24 (by kernel_rfl)).2
        simp only [fillD, Act.put, List.setIfInBounds_toArray, List.set_cons_zero, List.set_cons_succ, h0, h1, h2, h3, h4, h5, h6, h7, h8, h9, h10, h11, h12, h13, h14, h15, h16, h17, h18, h19, h20, h22, h23]
        obtain ⟨⟨ar, cr, h21⟩, hown, hlt⟩ := Y21
        have HRO := hid hown
        have HGx := hid (grown_drew_left hbx)
        have HLO2 := hid (Nat.le_trans (show w.heap.size + 2 ≤ wo.heap.size by have := HGW.out; have := HGLT.out; omega) (Z21.1 : wo.heap.size ≤ lo 21))
        have HBx := hid (HBF.out.grown HGx.out HBF.out.size (fun k e => by cases e; exact Nat.le_refl _))
        have HZ5x := hid hSx.2.2
        have HMZ : Hid (wx.heap[w.heap.size]? = some (Obj.cells #[.int .i64 n, .int .i64 n, vs 21] 38 (0, 0))) := hid Y24
        clear hbx hSx hRx hdx hown hlt Z21 Y24 Z24 HGx
        rw [h21] at HRO HMZ
        simp only [h21]
        clear h0 h1 h2 h3 h4 h5 h6 h7 h8 h9 h10 h11 h12 h13 h14 h15 h16 h17 h18 h19 h20 h21 h22 h23 HBF HZ4e HZ5e
        have z40 := (cells_ofS HMZ.out).1 0 _ rfl
        have z41 := (cells_ofS HMZ.out).1 1 _ rfl
        have z42 := (cells_ofS HMZ.out).1 2 _ rfl
        have z50 := (cells_ofS HZ5x.out).1 0 _ rfl
        have z51 := (cells_ofS HZ5x.out).1 1 _ rfl
        have y50 := (cells_ofS HZ5x.out).2 0
        have y51 := (cells_ofS HZ5x.out).2 1
        refine wpAny_one (i := 25) (by kernel_rfl) rfl (fun K hK => ?_)
        go_simp
        refine hK.out _ _ ?_
        clear hK
        refine wpAny_done (by kernel_rfl) ?_ _
        go_wp2_with fail
        (try simp only [Exit.inBlock, Exit.then])
        refine bodyPost_ret (v := .tuple #[.agg #[.int .i64 n, .int .i64 n, .slice ar nn cr], .agg #[.int .i64 0, .int .i64 0]]) ?_ rfl ?_
        · rw [results_cell_cellM rfl]; go_simp; (try rfl)
        · rw [mat_done HA.out (fun i x hx => HST.out i x (List.getElem?_eq_some_iff.1 hx).1 hx), HSN.out, HN2.out]
          have hml : (M.take nn).length = nn := by rw [List.length_take, HM.out.1]; have := HNB.out; omega
          have hlo : w.heap.size + 2 ≤ lo 21 := HLO2.out
          refine ⟨.slice ar nn cr, M.take nn, rfl, ?_, ?_, ?_⟩
          · apply List.ext_getElem
            · simp only [List.length_map, List.length_range, hml]
            · intro i h1 h2
              have hi : i < nn := by simpa using h2
              have := HM.out.2.2 i (by have := HNB.out; omega)
              rw [List.getD_eq_getElem?_getD, List.getElem?_eq_getElem (by rw [HM.out.1]; have := HNB.out; omega)] at this
              simpa using this
          · rw [hml]
            refine own_base (B' := lo 21) ?_ (by omega)
            repeat (first | with_reducible exact HRO.out | with_reducible refine ownsRow_setCell_below ?_ (by dsimp only; omega) _)
          · repeat (first | with_reducible exact HBx.out | with_reducible refine Below.setCell ?_ (by dsimp only; omega) _)
end Go.Proofs.YtlaibmeokghdmaaGreatDoor
