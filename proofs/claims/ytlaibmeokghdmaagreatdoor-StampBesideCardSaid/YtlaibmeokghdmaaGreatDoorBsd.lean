/- StampBeside walked: of every net and a resistor or port more between nodes that it has. -/
import Derived.Test.YtlaibmeokghdmaaGreatDoorMEqN
import Derived.Test.YtlaibmeokghdmaaGreatDoorMStpW1
import Derived.Test.YtlaibmeokghdmaaGreatDoorSMx
namespace Go.Proofs.YtlaibmeokghdmaaGreatDoor
open Go.RowKit

theorem mat_zero {l : List El} {om : Nat} (h : (matS false l om).2.1 = 0) : (matS false l om).2 = (0, 0) := by
  unfold matS at *
  rw [if_neg (by simp)] at h ⊢
  split at h
  · rename_i h0; exact absurd h h0
  · rename_i h0
    rw [if_neg h0]
    split at h
    · rename_i h1; rw [if_pos h1]
    · rename_i h1; exact absurd h h1
theorem eql_dm {xs us D : List Cx} (h1 : xs.map ck = D) (h2 : us.map ck = D) (hf : ∀ z ∈ D, cfin z = true) : EqL xs us := by
  refine ⟨by have := congrArg List.length (h1.trans h2.symm); simpa using this, fun k x y hx hy => ?_⟩
  have e1 : D[k]? = some (ck x) := by rw [← h1, List.getElem?_map, hx]; rfl
  have e2 : D[k]? = some (ck y) := by rw [← h2, List.getElem?_map, hy]; rfl
  have hxy : ck x = ck y := by rw [e1] at e2; exact Option.some.inj e2
  have hcf := hf _ (List.mem_of_getElem? e1)
  have hcf2 : cfin (ck y) = true := by rw [← hxy]; exact hcf
  obtain ⟨x1, x2⟩ := x
  obtain ⟨y1, y2⟩ := y
  obtain ⟨r1, r2⟩ := cx_bits (r := x1) (i := x2) rfl hcf
  obtain ⟨r3, r4⟩ := cx_bits (r := y1) (i := y2) rfl hcf2
  obtain ⟨q1, q2⟩ := cx_self hcf
  have e3 : x1 = y1 := by rw [r1, r3, show (fc x1, fc x2) = (fc y1, fc y2) from hxy]
  have e4 : x2 = y2 := by rw [r2, r4, show (fc x1, fc x2) = (fc y1, fc y2) from hxy]
  subst e3 e4
  have q3 : FloatKind.f64.format.order (fc x1) (fc x1) = some .eq := q1
  have q4 : FloatKind.f64.format.order (fc x2) (fc x2) = some .eq := q2
  rw [show fc x1 = x1 from r1.symm] at q3
  rw [show fc x2 = x2 from r2.symm] at q4
  exact ⟨q3, q4⟩
theorem dm_mem {n : Nat} {f : Nat → Cx} (h : ∀ p, cfin (f p) = true) : ∀ z ∈ Dm n f, cfin z = true := by
  intro z hz
  unfold Dm at hz
  obtain ⟨p, _, rfl⟩ := List.mem_map.1 hz
  exact h p
theorem kindR_ways (k : Int) : ((k = 1 ∨ k = 8) ∧ ((k != 1) = false ∨ ((k != 1) = true ∧ (k != 8) = false))) ∨ ((k != 1) = true ∧ (k != 8) = true) := by
  by_cases h1 : k = 1
  · subst h1; exact .inl ⟨.inl rfl, .inl rfl⟩
  · by_cases h4 : k = 8
    · subst h4; exact .inl ⟨.inr rfl, .inr ⟨rfl, rfl⟩⟩
    · exact .inr ⟨by simpa using h1, by simpa using h4⟩
set_option maxRecDepth 100000 in
set_option maxHeartbeats 4000000 in
theorem beside_walk (v : Value) (l : List El) (x : El) (om : Nat) (w : World) (haw : ∀ w' : World, Below w.heap.size w w' → Calls Tryz.prog 8 #[] w' fun e w'' => e = .returned (.bool true) ∧ Below w'.heap.size w' w'')
    (hv : InSl w 8 v l.length (l.flatMap ez)) (hle : l.length * 104 ≤ 140737488351232) (hok : ∀ e ∈ l, e.Ok) (hxo : x.Ok) :
    Calls Tryz.prog 4 #[v, .agg #[.int .u8 x.kind, .string x.name, .string x.a, .string x.b, .string x.c, .string x.d, .int .u64 x.val, .int .i64 x.ph], .int .u64 om] w fun e w' => e = .returned (.bool true) ∧ Below w.heap.size w w' := by
  have b2 := frombits_law
  obtain ⟨a0, c0, rfl⟩ := hv.form
  have hbw : Below w.heap.size w (w.alloc (.cells #[.int .u8 x.kind, .string x.name, .string x.a, .string x.b, .string x.c, .string x.d, .int .u64 x.val, .int .i64 x.ph] 50)) := (Below.refl w.heap.size w).alloc (Nat.le_refl _) _
  have HS := hid (heap_alloc_new w (.cells #[.int .u8 x.kind, .string x.name, .string x.a, .string x.b, .string x.c, .string x.d, .int .u64 x.val, .int .i64 x.ph] 50))
  have HV := hid (hv.below hbw (Nat.le_refl _))
  have HBW := hid hbw
  have HAW := hid haw
  have HOK := hid hok
  have HXO := hid hxo
  have HLE := hid hle
  clear hv hbw hok haw hxo
  go_enter Tryz.func4, Tryz.ntmps4
  go_upto_region 1 with fail
  generalize w.alloc (.cells #[.int .u8 x.kind, .string x.name, .string x.a, .string x.b, .string x.c, .string x.d, .int .u64 x.val, .int .i64 x.ph] 50) = w0 at *
  cases hob : (ofL l).1
  · have HOB := hid hob
    clear hob
    go_upto_region 2 with (first | (go_at_call 7; refine (elements_any _ l _ HV.out HLE.out).mono ?_; rintro e w1 ⟨vo, xs, rfl, hown, rfl, hb⟩; have HS1 := hid (heap_later2 hb HS.out); have HB1 := hid (below_next HBW.out hb); have HO := hid (IsSl.of_own hown); obtain ⟨ao, co, rfl⟩ := HO.out.form; clear hb hown) | (go_at_call 6; refine (nof_any _ l _ HO.out HOK.out (by have := HLE.out; omega)).mono ?_; intro e w2 hr; obtain ⟨fx, fy, rfl, hfx, hb⟩ := retof_bad hr HOB.out; have HS2 := hid (heap_later2 hb HS1.out); have HO2 := hid (HO.out.below hb (Nat.le_refl _)); have HB2 := hid (below_next HB1.out hb); clear hb hr; have HFX := hid hfx; clear hfx))
    clear HS HBW HV HS1 HO HB1
    have hne : (fx != 0) = true := by simpa using HFX.out
    have HS3 := hid (heap_later2 ((Below.refl w2.heap.size w2).alloc (Nat.le_refl _) (.cells #[.int .i64 fx, .int .i64 fy] 27)) HS2.out)
    have HB3 := hid (below_next HB2.out ((Below.refl w2.heap.size w2).alloc (Nat.le_refl _) (.cells #[.int .i64 fx, .int .i64 fy] 27)))
    have HFB := hid (heap_alloc_new w2 (.cells #[.int .i64 fx, .int .i64 fy] 27))
    clear HS2 HB2
    generalize w2.alloc (.cells #[.int .i64 fx, .int .i64 fy] 27) = w3 at *
    have hsc := block_cells HS3.out
    have s0 := hsc.1 0 _ rfl
    have s1 := hsc.1 1 _ rfl
    have s2 := hsc.1 2 _ rfl
    have s3 := hsc.1 3 _ rfl
    have s4 := hsc.1 4 _ rfl
    have s5 := hsc.1 5 _ rfl
    have s6 := hsc.1 6 _ rfl
    have s7 := hsc.1 7 _ rfl
    clear hsc
    go_upto_region 4 with (go_at_call 16; refine (element_any x _).mono ?_; rintro e w4 ⟨rfl, hb⟩; have HS4 := hid (heap_later2 hb HS3.out); have HFB4 := hid (heap_later2 hb HFB.out); have HB4 := hid (below_next HB3.out hb); unfold agE; clear s0 s1 s2 s3 s4 s5 s6 s7; clear hb )
    clear HS3 HFB HB3
    have HFB5 := hid (heap_later2 ((Below.refl w4.heap.size w4).alloc (Nat.le_refl _) (.cells #[.int .u8 x.kind, .string x.name, .string x.a, .string x.b, .string x.c, .string x.d, .float .f64 x.val, .int .i64 x.ph] 44)) HFB4.out)
    have HB5 := hid (below_next HB4.out ((Below.refl w4.heap.size w4).alloc (Nat.le_refl _) (.cells #[.int .u8 x.kind, .string x.name, .string x.a, .string x.b, .string x.c, .string x.d, .float .f64 x.val, .int .i64 x.ph] 44)))
    have HXB := hid (heap_alloc_new w4 (.cells #[.int .u8 x.kind, .string x.name, .string x.a, .string x.b, .string x.c, .string x.d, .float .f64 x.val, .int .i64 x.ph] 44))
    clear HFB4 HB4
    generalize w4.alloc (.cells #[.int .u8 x.kind, .string x.name, .string x.a, .string x.b, .string x.c, .string x.d, .float .f64 x.val, .int .i64 x.ph] 44) = w5 at *
    generalize w4.heap.size = gx at *
    have hsc := block_cells HFB5.out
    have z0 := hsc.1 0 _ rfl
    have z1 := hsc.1 1 _ rfl
    clear hsc
    have hsc := block_cells HXB.out
    have c0 := hsc.1 0 _ rfl
    have c1 := hsc.1 1 _ rfl
    have c2 := hsc.1 2 _ rfl
    have c3 := hsc.1 3 _ rfl
    have c4 := hsc.1 4 _ rfl
    have c5 := hsc.1 5 _ rfl
    have c6 := hsc.1 6 _ rfl
    have c7 := hsc.1 7 _ rfl
    clear hsc
    go_wp2_with (go_at_call 8; refine (HAW.out _ HB5.out).mono ?_; rintro e wz ⟨rfl, hb⟩; have HBZ := hid (below_next HB5.out hb); clear hb)
    go_ret
    exact ⟨rfl, HBZ.out⟩
  · have HOB := hid hob
    clear hob
    go_upto_region 2 with (first | (go_at_call 7; refine (elements_any _ l _ HV.out HLE.out).mono ?_; rintro e w1 ⟨vo, xs, rfl, hown, rfl, hb⟩; have HS1 := hid (heap_later2 hb HS.out); have HB1 := hid (below_next HBW.out hb); have HO := hid (IsSl.of_own hown); obtain ⟨ao, co, rfl⟩ := HO.out.form; clear hb hown) | (go_at_call 6; refine (nof_any _ l _ HO.out HOK.out (by have := HLE.out; omega)).mono ?_; intro e w2 hr; obtain ⟨gn, rfl, hnn, hb⟩ := retof_good hr HOB.out; have HS2 := hid (heap_later2 hb HS1.out); have HO2 := hid (HO.out.below hb (Nat.le_refl _)); have HB2 := hid (below_next HB1.out hb); clear hb hr; have HN := hid hnn; clear hnn))
    clear HS HBW HV HS1 HO HB1
    have HLN := hid (ofL_true HOB.out).1
    have HS3 := hid (heap_later2 ((Below.refl w2.heap.size w2).alloc (Nat.le_refl _) (.cells #[.int .i64 0, .int .i64 0] 27)) HS2.out)
    have HN3 := hid (HN.out.below' ((Below.refl w2.heap.size w2).alloc (Nat.le_refl _) (.cells #[.int .i64 0, .int .i64 0] 27)))
    have HB3 := hid (below_next HB2.out ((Below.refl w2.heap.size w2).alloc (Nat.le_refl _) (.cells #[.int .i64 0, .int .i64 0] 27)))
    have HGFS := hid (show w.heap.size ≤ w2.heap.size from HB2.out.size)
    have HFB := hid (heap_alloc_new w2 (.cells #[.int .i64 0, .int .i64 0] 27))
    clear HS2 HN HB2
    generalize w2.alloc (.cells #[.int .i64 0, .int .i64 0] 27) = w3 at *
    generalize w2.heap.size = gf at *
    have hsc := block_cells HS3.out
    have s0 := hsc.1 0 _ rfl
    have s1 := hsc.1 1 _ rfl
    have s2 := hsc.1 2 _ rfl
    have s3 := hsc.1 3 _ rfl
    have s4 := hsc.1 4 _ rfl
    have s5 := hsc.1 5 _ rfl
    have s6 := hsc.1 6 _ rfl
    have s7 := hsc.1 7 _ rfl
    clear hsc
    go_upto_region 4 with (go_at_call 16; refine (element_any x _).mono ?_; rintro e w4 ⟨rfl, hb⟩; have HS4 := hid (heap_later2 hb HS3.out); have HN4 := hid (HN3.out.below' hb); have HFB4 := hid (heap_later2 hb HFB.out); have HB4 := hid (below_next HB3.out hb); unfold agE; clear s0 s1 s2 s3 s4 s5 s6 s7; clear hb )
    clear HS3 HN3 HFB HB3
    have HN5 := hid (HN4.out.below' ((Below.refl w4.heap.size w4).alloc (Nat.le_refl _) (.cells #[.int .u8 x.kind, .string x.name, .string x.a, .string x.b, .string x.c, .string x.d, .float .f64 x.val, .int .i64 x.ph] 44)))
    have HFB5 := hid (heap_later2 ((Below.refl w4.heap.size w4).alloc (Nat.le_refl _) (.cells #[.int .u8 x.kind, .string x.name, .string x.a, .string x.b, .string x.c, .string x.d, .float .f64 x.val, .int .i64 x.ph] 44)) HFB4.out)
    have HB5 := hid (below_next HB4.out ((Below.refl w4.heap.size w4).alloc (Nat.le_refl _) (.cells #[.int .u8 x.kind, .string x.name, .string x.a, .string x.b, .string x.c, .string x.d, .float .f64 x.val, .int .i64 x.ph] 44)))
    have HXB := hid (heap_alloc_new w4 (.cells #[.int .u8 x.kind, .string x.name, .string x.a, .string x.b, .string x.c, .string x.d, .float .f64 x.val, .int .i64 x.ph] 44))
    clear HN4 HFB4 HB4
    generalize w4.alloc (.cells #[.int .u8 x.kind, .string x.name, .string x.a, .string x.b, .string x.c, .string x.d, .float .f64 x.val, .int .i64 x.ph] 44) = w5 at *
    generalize w4.heap.size = gx at *
    have hsc := block_cells HFB5.out
    have z0 := hsc.1 0 _ rfl
    have z1 := hsc.1 1 _ rfl
    clear hsc
    have hsc := block_cells HXB.out
    have c0 := hsc.1 0 _ rfl
    have c1 := hsc.1 1 _ rfl
    have c2 := hsc.1 2 _ rfl
    have c3 := hsc.1 3 _ rfl
    have c4 := hsc.1 4 _ rfl
    have c5 := hsc.1 5 _ rfl
    have c6 := hsc.1 6 _ rfl
    have c7 := hsc.1 7 _ rfl
    clear hsc
    rcases kindR_ways x.kind with ⟨hT, hw⟩ | ⟨q1, q2⟩
    rotate_left
    · skip
      go_wp2_with (go_at_call 8; refine (HAW.out _ HB5.out).mono ?_; rintro e wz ⟨rfl, hb⟩; have HBZ := hid (below_next HB5.out hb); clear hb)
      go_ret
      exact ⟨rfl, HBZ.out⟩
    go_cut [43] (fun t wx => t = .bool false ∧ wx = w5)
    case first =>
      rcases hw with q1 | ⟨q1, q2⟩
      all_goals (go_wp2_with fail; go_meet; exact ⟨rfl, rfl⟩)
    case rest =>
      obtain ⟨rfl, rfl⟩ := hcut
      have HT0 := hid (show x.kind = 1 ∨ x.kind = 8 from hT)
      clear hT
      obtain ⟨wd, rfl⟩ : ∃ wd : World, wd = wc := ⟨_, rfl⟩
      have HIB := hid (show isBr x = false by unfold isBr; rcases HT0.out with h | h <;> rw [h] <;> rfl)
      cases hob2 : (ofL (l ++ [x])).1
      · have HOB2 := hid hob2
        clear hob2
        go_upto_region 7 with (go_at_call 17; refine (nwith_net ⟨gn, 0, none⟩ l x _ HN5.out (by have := HLN.out; omega) HOK.out HXO.out).mono ?_; intro e w8 hr; obtain ⟨fx, fy, rfl, hfx, hb⟩ := retof_bad hr HOB2.out; have HN6 := hid (HN5.out.below' hb); have HFB6 := hid (heap_later2 hb HFB5.out); have HXB6 := hid (heap_later2 hb HXB.out); have HB6 := hid (below_next HB5.out hb); clear z0 z1; have hzf := block_cells HFB6.out; have z0 := hzf.1 0 _ rfl; have z1 := hzf.1 1 _ rfl; have zf0 := hzf.2 0; have zf1 := hzf.2 1; clear hzf hb hr; have HFX := hid hfx; clear hfx)
        clear c0 c1 c2 c3 c4 c5 c6 c7 HN5 HFB5 HXB HB5
        have hne : (fx != 0) = true := by simpa using HFX.out
        have HBF : Hid (Below w.heap.size w ((w8.setCell ⟨gf, 0, none⟩ (.int .i64 fx)).setCell ⟨gf, 1, none⟩ (.int .i64 fy))) := hid ((HB6.out.setCell (p := ⟨gf, 0, none⟩) HGFS.out _).setCell (p := ⟨gf, 1, none⟩) HGFS.out _)
        have hbk := block_cells (blk_set (blk_set HFB6.out (.int .i64 fx) (o := 0)) (.int .i64 fy) (o := 1))
        have q0 := hbk.1 0 _ rfl
        have q1 := hbk.1 1 _ rfl
        clear hbk z0 z1 zf0 zf1
        generalize (w8.setCell ⟨gf, 0, none⟩ (.int .i64 fx)).setCell ⟨gf, 1, none⟩ (.int .i64 fy) = w9 at *
        go_wp2_with (go_at_call 8; refine (HAW.out _ HBF.out).mono ?_; rintro e wz ⟨rfl, hb⟩; have HBZ := hid (below_next HBF.out hb); clear hb)
        go_ret
        exact ⟨rfl, HBZ.out⟩
      · have HOB2 := hid hob2
        clear hob2
        go_upto_region 7 with (go_at_call 17; refine (nwith_net ⟨gn, 0, none⟩ l x _ HN5.out (by have := HLN.out; omega) HOK.out HXO.out).mono ?_; intro e w8 hr; obtain ⟨gm, rfl, hnn, hb⟩ := retof_good hr HOB2.out; have HN6 := hid (HN5.out.below' hb); have HFB6 := hid (heap_later2 hb HFB5.out); have HXB6 := hid (heap_later2 hb HXB.out); have HB6 := hid (below_next HB5.out hb); clear z0 z1; have hzf := block_cells HFB6.out; have z0 := hzf.1 0 _ rfl; have z1 := hzf.1 1 _ rfl; have zf0 := hzf.2 0; have zf1 := hzf.2 1; clear hzf hb hr; have HM := hid hnn; clear hnn)
        clear c0 c1 c2 c3 c4 c5 c6 c7 HN5 HFB5 HXB HB5
        have HBF : Hid (Below w.heap.size w ((w8.setCell ⟨gf, 0, none⟩ (.int .i64 0)).setCell ⟨gf, 1, none⟩ (.int .i64 0))) := hid ((HB6.out.setCell (p := ⟨gf, 0, none⟩) HGFS.out _).setCell (p := ⟨gf, 1, none⟩) HGFS.out _)
        have hgr : w8.grownBy ((w8.setCell ⟨gf, 0, none⟩ (.int .i64 0)).setCell ⟨gf, 1, none⟩ (.int .i64 0)) (some gf) := grown_trans (grown_set w8 gf 0 _) (grown_set _ gf 1 _)
        have HFB9 : Hid (((w8.setCell ⟨gf, 0, none⟩ (.int .i64 0)).setCell ⟨gf, 1, none⟩ (.int .i64 0)).heap[gf]? = some (.cells #[.int .i64 0, .int .i64 0] 27 (0, 0))) := hid (blk_set (blk_set HFB6.out _) _)
        have HXB9 := hid (heap_nextG hgr (typ_ne HXB6.out HFB6.out (by decide)) HXB6.out)
        have HN9 := hid (HN6.out.fault HFB6.out hgr)
        have HM9 := hid (HM.out.fault HFB6.out hgr)
        clear z0 z1 zf0 zf1 hgr HN6 HFB6 HXB6 HM HB6
        generalize ((w8.setCell ⟨gf, 0, none⟩ (.int .i64 0)).setCell ⟨gf, 1, none⟩ (.int .i64 0)) = w9 at *
        have HLM := hid (show (l ++ [x]).length ≤ 100000 by have h := (ofL_true HOB2.out).1; omega)
        have hsc := block_cells HFB9.out
        have z0 := hsc.1 0 _ rfl
        have z1 := hsc.1 1 _ rfl
        clear hsc
        by_cases hsz : szL (l ++ [x]) = szL l
        rotate_left
        · have hsb : ((((nds (l ++ [x])).length : Int) + ((brs (l ++ [x])).length : Int)) != (((nds l).length : Int) + ((brs l).length : Int))) = true := by unfold szL at hsz; rw [bne_iff_ne]; omega
          go_wp2_with (first | (go_at_call 8; refine (HAW.out _ HB8.out).mono ?_; rintro e wz ⟨rfl, hb⟩; have HBZ := hid (below_next HB8.out hb); clear hb) | (go_at_call_of 15 (Value.pointer (some ⟨gm, 0, none⟩)); refine (norder_any _ (l ++ [x]) _ HM9.out HLM.out).mono ?_; rintro e w10 ⟨rfl, hb⟩; have HXB7 := hid (heap_later2 hb HXB9.out); have HN7 := hid (HN9.out.below' hb); have HM7 := hid (HM9.out.below' hb); have HFB7 := hid (heap_later2 hb HFB9.out); have HB7 := hid (below_next HBF.out hb); clear hb ) | (go_at_call_of 15 (Value.pointer (some ⟨gn, 0, none⟩)); refine (norder_any _ l _ HN7.out (by have := HLN.out; omega)).mono ?_; rintro e w11 ⟨rfl, hb⟩; have HXB8 := hid (heap_later2 hb HXB7.out); have HN8 := hid (HN7.out.below' hb); have HM8 := hid (HM7.out.below' hb); have HFB8 := hid (heap_later2 hb HFB7.out); have HB8 := hid (below_next HB7.out hb); clear hb ))
          go_ret
          exact ⟨rfl, HBZ.out⟩
        have hsb : ((((nds (l ++ [x])).length : Int) + ((brs (l ++ [x])).length : Int)) != (((nds l).length : Int) + ((brs l).length : Int))) = false := by unfold szL at hsz; rw [bne_eq_false_iff_eq]; omega
        have HSZ := hid hsz
        clear hsz
        go_upto_region 9 with (first | (go_at_call_of 15 (Value.pointer (some ⟨gm, 0, none⟩)); refine (norder_any _ (l ++ [x]) _ HM9.out HLM.out).mono ?_; rintro e w10 ⟨rfl, hb⟩; have HXB7 := hid (heap_later2 hb HXB9.out); have HN7 := hid (HN9.out.below' hb); have HM7 := hid (HM9.out.below' hb); have HFB7 := hid (heap_later2 hb HFB9.out); have HB7 := hid (below_next HBF.out hb); clear hb ) | (go_at_call_of 15 (Value.pointer (some ⟨gn, 0, none⟩)); refine (norder_any _ l _ HN7.out (by have := HLN.out; omega)).mono ?_; rintro e w11 ⟨rfl, hb⟩; have HXB8 := hid (heap_later2 hb HXB7.out); have HN8 := hid (HN7.out.below' hb); have HM8 := hid (HM7.out.below' hb); have HFB8 := hid (heap_later2 hb HFB7.out); have HB8 := hid (below_next HB7.out hb); clear hb ))
        clear z0 z1 hsb HXB9 HN9 HM9 HFB9 HBF HXB7 HN7 HM7 HFB7 HB7
        have HG1 := hid (netg_of HOB.out HOK.out)
        have HOK2 := hid (show ∀ u ∈ l ++ [x], u.Ok from fun u hu => by rcases List.mem_append.1 hu with h | h; exact HOK.out u h; have e : u = x := (by simpa using h); rw [e]; exact HXO.out)
        have HG2 := hid (netg_of HOB2.out HOK2.out)
        obtain ⟨r1, D1, e1, a1, hS1⟩ : ∃ r D e a, matS false l om = ((r, D), (e, a)) := ⟨_, _, _, _, rfl⟩
        obtain ⟨r2, D2, e2, a2, hS2⟩ : ∃ r D e a, matS false (l ++ [x]) om = ((r, D), (e, a)) := ⟨_, _, _, _, rfl⟩
        have HS1 := hid hS1
        have HS2 := hid hS2
        clear hS1 hS2
        go_upto_region 10 with (go_at_call 11; refine (((smx_any _ l om _ HN8.out rfl HG1.out).mono fun _ _ h => RetMz.of HS1.out h)).mono ?_; rintro e w12 ⟨v1, xs1, rfl, hxs, hown, hb⟩; have HXB9 := hid (heap_later2 hb HXB8.out); have HN9 := hid (HN8.out.below' hb); have HM9 := hid (HM8.out.below' hb); have HFB9 := hid (heap_later2 hb HFB8.out); have HB9 := hid (below_next HB8.out hb); have HX1 := hid hxs; have HO1 := hid hown; obtain ⟨am, cm, rfl⟩ := (IsSl.of_own hown).form; clear hxs hown; have hz0 := HFB9.out; have hzf := block_cells hz0; have z0 := hzf.1 0 _ rfl; have z1 := hzf.1 1 _ rfl; have zf0 := hzf.2 0; have zf1 := hzf.2 1; clear hzf; have zzz := fun o : Obj => block_cells (heap_later2 ((Below.refl w12.heap.size w12).alloc (Nat.le_refl _) o) hz0); have zz0 := fun o => (zzz o).1 0 _ rfl; have zz1 := fun o => (zzz o).1 1 _ rfl; have zzf0 := fun o => (zzz o).2 0; have zzf1 := fun o => (zzz o).2 1; clear hz0 hb zzz)
        clear zz0 zz1 zzf0 zzf1 z0 z1 zf0 zf1 HXB8 HN8 HM8 HFB8 HB8
        have HG12 := hid (show w.heap.size ≤ w12.heap.size from HB9.out.size)
        have HXB10 := hid (heap_later2 ((Below.refl w12.heap.size w12).alloc (Nat.le_refl _) (.cells #[.int .i64 r1, .int .i64 r1, .slice am xs1.length cm] 38)) HXB9.out)
        have HN10 := hid (HN9.out.below' ((Below.refl w12.heap.size w12).alloc (Nat.le_refl _) (.cells #[.int .i64 r1, .int .i64 r1, .slice am xs1.length cm] 38)))
        have HM10 := hid (HM9.out.below' ((Below.refl w12.heap.size w12).alloc (Nat.le_refl _) (.cells #[.int .i64 r1, .int .i64 r1, .slice am xs1.length cm] 38)))
        have HFB10 := hid (heap_later2 ((Below.refl w12.heap.size w12).alloc (Nat.le_refl _) (.cells #[.int .i64 r1, .int .i64 r1, .slice am xs1.length cm] 38)) HFB9.out)
        have HO110 := hid (own_none HO1.out (grown_of_below ((Below.refl w12.heap.size w12).alloc (Nat.le_refl _) (.cells #[.int .i64 r1, .int .i64 r1, .slice am xs1.length cm] 38)) none))
        have HB10 := hid (below_next HB9.out ((Below.refl w12.heap.size w12).alloc (Nat.le_refl _) (.cells #[.int .i64 r1, .int .i64 r1, .slice am xs1.length cm] 38)))
        have H12 := hid (heap_alloc_new w12 (.cells #[.int .i64 r1, .int .i64 r1, .slice am xs1.length cm] 38))
        clear HXB9 HN9 HM9 HFB9 HO1 HB9
        generalize w12.alloc (.cells #[.int .i64 r1, .int .i64 r1, .slice am xs1.length cm] 38) = ua at *
        generalize w12.heap.size = g12 at *
        have HBXp := hid ((HB10.out.setCell (p := ⟨gf, 0, none⟩) HGFS.out (.int .i64 e1)).setCell (p := ⟨gf, 1, none⟩) HGFS.out (.int .i64 a1))
        have hgr : ua.grownBy ((ua.setCell ⟨gf, 0, none⟩ (.int .i64 e1)).setCell ⟨gf, 1, none⟩ (.int .i64 a1)) (some gf) := grown_trans (grown_set ua gf 0 _) (grown_set _ gf 1 _)
        have HXBp := hid (heap_nextG hgr (typ_ne HXB10.out HFB10.out (by decide)) HXB10.out)
        have HNp := hid (HN10.out.fault HFB10.out hgr)
        have HMp := hid (HM10.out.fault HFB10.out hgr)
        have HFBp : Hid (((ua.setCell ⟨gf, 0, none⟩ (.int .i64 e1)).setCell ⟨gf, 1, none⟩ (.int .i64 a1)).heap[gf]? = some (.cells #[.int .i64 e1, .int .i64 a1] 27 (0, 0))) := hid (blk_set (blk_set HFB10.out _) _)
        have HO1p := hid (kept_ne HO110.out hgr (fun k hk e => by cases e; obtain ⟨_, c, hc⟩ := own_typ HO110.out hk; exact typ_ne hc HFB10.out (by decide) rfl))
        have H12p := hid (heap_nextG hgr (typ_ne H12.out HFB10.out (by decide)) H12.out)
        clear hgr HXB10 HN10 HM10 HFB10 HO110 H12 HB10
        generalize ((ua.setCell ⟨gf, 0, none⟩ (.int .i64 e1)).setCell ⟨gf, 1, none⟩ (.int .i64 a1)) = ub at *
        go_upto_region 11 with (go_at_call 11; refine (((smx_any _ (l ++ [x]) om _ HMp.out rfl HG2.out).mono fun _ _ h => RetMz.of HS2.out h)).mono ?_; rintro e w13 ⟨v2, xs2, rfl, hxs, hown, hb⟩; have HXB11 := hid (heap_later2 hb HXBp.out); have HN11 := hid (HNp.out.below' hb); have HM11 := hid (HMp.out.below' hb); have HFB11 := hid (heap_later2 hb HFBp.out); have HO111 := hid (own_none HO1p.out (grown_of_below hb none)); have H1211 := hid (heap_later2 hb H12p.out); have HB11 := hid (below_next HBXp.out hb); have HX2 := hid hxs; have HO2 := hid hown; obtain ⟨an, cn, rfl⟩ := (IsSl.of_own hown).form; clear hxs hown; clear hb )
        clear HXBp HNp HMp HFBp HO1p H12p HBXp
        have HXB12 := hid (heap_later2 ((Below.refl w13.heap.size w13).alloc (Nat.le_refl _) (.cells #[.int .i64 r2, .int .i64 r2, .slice an xs2.length cn] 38)) HXB11.out)
        have HN12 := hid (HN11.out.below' ((Below.refl w13.heap.size w13).alloc (Nat.le_refl _) (.cells #[.int .i64 r2, .int .i64 r2, .slice an xs2.length cn] 38)))
        have HM12 := hid (HM11.out.below' ((Below.refl w13.heap.size w13).alloc (Nat.le_refl _) (.cells #[.int .i64 r2, .int .i64 r2, .slice an xs2.length cn] 38)))
        have HFB12 := hid (heap_later2 ((Below.refl w13.heap.size w13).alloc (Nat.le_refl _) (.cells #[.int .i64 r2, .int .i64 r2, .slice an xs2.length cn] 38)) HFB11.out)
        have HO112 := hid (own_none HO111.out (grown_of_below ((Below.refl w13.heap.size w13).alloc (Nat.le_refl _) (.cells #[.int .i64 r2, .int .i64 r2, .slice an xs2.length cn] 38)) none))
        have H1212 := hid (heap_later2 ((Below.refl w13.heap.size w13).alloc (Nat.le_refl _) (.cells #[.int .i64 r2, .int .i64 r2, .slice an xs2.length cn] 38)) H1211.out)
        have HO212 := hid (own_none HO2.out (grown_of_below ((Below.refl w13.heap.size w13).alloc (Nat.le_refl _) (.cells #[.int .i64 r2, .int .i64 r2, .slice an xs2.length cn] 38)) none))
        have HB12 := hid (below_next HB11.out ((Below.refl w13.heap.size w13).alloc (Nat.le_refl _) (.cells #[.int .i64 r2, .int .i64 r2, .slice an xs2.length cn] 38)))
        have HU13 := hid (show (w13.alloc (.cells #[.int .i64 r2, .int .i64 r2, .slice an xs2.length cn] 38)).heap.size = w13.heap.size + 1 by simp)
        have H13 := hid (heap_alloc_new w13 (.cells #[.int .i64 r2, .int .i64 r2, .slice an xs2.length cn] 38))
        have HLT := hid (show g12 < w13.heap.size from (Array.getElem?_eq_some_iff.1 H1211.out).1)
        clear HXB11 HN11 HM11 HFB11 HO111 H1211 HO2 HB11
        generalize w13.alloc (.cells #[.int .i64 r2, .int .i64 r2, .slice an xs2.length cn] 38) = uc at *
        generalize w13.heap.size = g13 at *
        have HXB13 := hid (heap_later2 ((Below.refl uc.heap.size uc).alloc (Nat.le_refl _) (.cells #[.int .i64 e2, .int .i64 a2] 27)) HXB12.out)
        have HN13 := hid (HN12.out.below' ((Below.refl uc.heap.size uc).alloc (Nat.le_refl _) (.cells #[.int .i64 e2, .int .i64 a2] 27)))
        have HM13 := hid (HM12.out.below' ((Below.refl uc.heap.size uc).alloc (Nat.le_refl _) (.cells #[.int .i64 e2, .int .i64 a2] 27)))
        have HFB13 := hid (heap_later2 ((Below.refl uc.heap.size uc).alloc (Nat.le_refl _) (.cells #[.int .i64 e2, .int .i64 a2] 27)) HFB12.out)
        have HO113 := hid (own_none HO112.out (grown_of_below ((Below.refl uc.heap.size uc).alloc (Nat.le_refl _) (.cells #[.int .i64 e2, .int .i64 a2] 27)) none))
        have H1213 := hid (heap_later2 ((Below.refl uc.heap.size uc).alloc (Nat.le_refl _) (.cells #[.int .i64 e2, .int .i64 a2] 27)) H1212.out)
        have HO213 := hid (own_none HO212.out (grown_of_below ((Below.refl uc.heap.size uc).alloc (Nat.le_refl _) (.cells #[.int .i64 e2, .int .i64 a2] 27)) none))
        have H1313 := hid (heap_later2 ((Below.refl uc.heap.size uc).alloc (Nat.le_refl _) (.cells #[.int .i64 e2, .int .i64 a2] 27)) H13.out)
        have HB13 := hid (below_next HB12.out ((Below.refl uc.heap.size uc).alloc (Nat.le_refl _) (.cells #[.int .i64 e2, .int .i64 a2] 27)))
        have HF2 := hid (heap_alloc_new uc (.cells #[.int .i64 e2, .int .i64 a2] 27))
        rw [HU13.out] at HF2
        clear HXB12 HN12 HM12 HFB12 HO112 H1212 HO212 H13 HB12
        generalize uc.alloc (.cells #[.int .i64 e2, .int .i64 a2] 27) = ud at *
        have hsc := block_cells HFB13.out
        have z0 := hsc.1 0 _ rfl
        have z1 := hsc.1 1 _ rfl
        clear hsc
        have hsc := block_cells HF2.out
        have y0 := hsc.1 0 _ rfl
        have y1 := hsc.1 1 _ rfl
        clear hsc
        by_cases he1 : e1 = 0
        rotate_left
        · have hne : (e1 != 0) = true := by simpa using he1
          have hqe : (e1 == 0) = false := by simpa using he1
          go_wp2_with (go_at_call 8; refine (HAW.out _ HB13.out).mono ?_; rintro e wz ⟨rfl, hb⟩; have HBZ := hid (below_next HB13.out hb); clear hb)
          go_ret
          exact ⟨rfl, HBZ.out⟩
        have ha1 : a1 = 0 := by
          have h := mat_zero (l := l) (om := om) (by rw [HS1.out]; exact he1)
          rw [HS1.out] at h
          exact (Prod.mk.inj h).2
        subst he1 ha1
        by_cases he2 : e2 = 0
        rotate_left
        · have hne : (e2 != 0) = true := by simpa using he2
          have hqe : (e2 == 0) = false := by simpa using he2
          go_wp2_with (go_at_call 8; refine (HAW.out _ HB13.out).mono ?_; rintro e wz ⟨rfl, hb⟩; have HBZ := hid (below_next HB13.out hb); clear hb)
          go_ret
          exact ⟨rfl, HBZ.out⟩
        have ha2 : a2 = 0 := by
          have h := mat_zero (l := l ++ [x]) (om := om) (by rw [HS2.out]; exact he2)
          rw [HS2.out] at h
          exact (Prod.mk.inj h).2
        subst he2 ha2
        obtain ⟨m, l1, l2, l3, l4, l5⟩ := beside_law (om := om) HIB.out HT0.out HSZ.out (by rw [HS1.out]) (by rw [HS2.out])
        rw [HS1.out] at l1
        rw [HS2.out] at l3
        obtain ⟨n1, n2⟩ := Prod.mk.inj l1
        obtain ⟨n3, n4⟩ := Prod.mk.inj l3
        (try dsimp only at n1 n2 n3 n4)
        obtain ⟨N, hN⟩ : ∃ N, szL l = N := ⟨_, rfl⟩
        have hN64 : N ≤ 64 := by rw [← hN]; exact HG1.out.sz
        rw [hN] at n1 n2 n3 n4 l4 l5
        have hri := rowI_lt l x.a
        have hrj := rowI_lt l x.b
        have hnd : (nds l).length ≤ N := by rw [← hN]; unfold szL; omega
        obtain ⟨m1, m2, m3, m4, k0, k1, k2, k3, k4, k5, k6, k7, k8⟩ := pair_stages (n := N) (i := rowI l x.a) (j := rowI l x.b) (y := (fdiv fone (fc x.val), fc 0)) (m := m) hN64 (by omega) (by omega) l4
        rw [k0] at n4 l5
        subst n1 n3 n2 n4
        have HFI := hid l5
        have HFI := hid l5
        clear hri hrj hnd
        go_upto_region 13 with fail
        clear z0 z1 y0 y1
        have hsc := block_cells HXB13.out
        have c0 := hsc.1 0 _ rfl
        have c1 := hsc.1 1 _ rfl
        have c2 := hsc.1 2 _ rfl
        have c3 := hsc.1 3 _ rfl
        have c4 := hsc.1 4 _ rfl
        have c5 := hsc.1 5 _ rfl
        have c6 := hsc.1 6 _ rfl
        have c7 := hsc.1 7 _ rfl
        clear hsc
        have HL1 := hid (show xs1.length = r2 * r2 by have h := congrArg List.length HX1.out; rw [List.length_map, dm_len] at h; exact h)
        have HL2 := hid (show xs2.length = r2 * r2 by have h := congrArg List.length HX2.out; rw [List.length_map, dm_len] at h; exact h)
        have hsq : r2 * r2 ≤ 4096 := Nat.le_trans (Nat.mul_le_mul hN64 hN64) (by decide)
        have HSQ := hid hsq
        have HK1 := hid k1
        have HK2 := hid k2
        have HK3 := hid k3
        have HK4 := hid k4
        have HK5 := hid k5
        have HK6 := hid k6
        have HK7 := hid k7
        have HK8 := hid k8
        clear k0 k1 k2 k3 k4 k5 k6 k7 k8 l1 l3 l4 hsq
        cases ha : has (nds l) x.a <;> cases hb : has (nds l) x.b
        · have HA := hid ha
          have HBB := hid hb
          have hra := row_ge.2 ha
          have hrb := row_ge.2 hb
          have e1 := HK2.out hra
          subst e1
          have e2 := HK4.out hrb
          subst e2
          have e3 := HK6.out (.inl hra)
          subst e3
          have e4 := HK8.out (.inl hra)
          subst e4
          clear HK1 HK2 HK3 HK4 HK5 HK6 HK7 HK8 hra hrb
          go_upto_region 14 with (go_at_call 18; refine (nplace_any _ l x.a _ HN13.out HXO.out.a).mono ?_; rintro e wp ⟨rfl, rfl⟩; rw [ha])
          go_upto_region 15 with (go_at_call 18; refine (nplace_any _ l x.b _ HN13.out HXO.out.b).mono ?_; rintro e wp ⟨rfl, rfl⟩; rw [hb])
          go_upto_region 16 with (refine wpList_float rfl _ _ _ _ _ rfl rfl _ _ rfl rfl ?_; intro r nr hr; have HR := hid hr; clear hr)
          have HYY := hid (show ck (r, 0) = (fdiv fone (fc x.val), fc 0) by show (fc r, fc 0) = _; rw [HR.out]; rfl)
          have HYN := hid (show ck (Op.negFloat .f64 r, Op.negFloat .f64 0) = cneg (fdiv fone (fc x.val), fc 0) by rw [ck_neg, HYY.out])
          clear HR c0 c1 c2 c3 c4 c5 c6 c7
          have hbn := below_n (Below.refl ud.heap.size ud) nr
          have H1214 := hid (heap_later2 hbn H1213.out)
          have H1314 := hid (heap_later2 hbn H1313.out)
          have HD14 := hid (own_none HO113.out (grown_of_below hbn none))
          have HE14 := hid (own_none HO213.out (grown_of_below hbn none))
          have HB14 := hid (below_next HB13.out hbn)
          clear hbn H1213 H1313 HO113 HO213 HB13 HXB13 HN13 HM13 HFB13 HF2
          generalize ud.drewN nr = ue at *
          have HLX0 := HL1
          have hneg : Op.unary .neg (.complex .f64 r 0) = pure (.complex .f64 (Op.negFloat .f64 r) (Op.negFloat .f64 0)) := rfl
          obtain ⟨q0, q1, q2, _⟩ := mat_at H1214.out
          go_upto_region 17 with fail
          go_upto_region 19 with fail
          go_upto_region 21 with fail
          go_upto_region 25 with fail
          obtain ⟨r0, r1', r2', _⟩ := mat_at H1314.out
          go_wp2_with (first | (go_at_call 20; refine (equalmatrix_any r2 (.slice am xs1.length cm) (.slice an xs2.length cn) xs1 xs2 _ (IsSl.of_own HD14.out) (IsSl.of_own HE14.out) (by have h := HLX0.out; have := HSQ.out; omega) (eql_dm HX1.out HX2.out (dm_mem HFI.out))).mono ?_; rintro e wy ⟨rfl, hb⟩; have HBY := hid (below_next HB14.out hb); clear hb) | (go_at_call 8; refine (HAW.out _ HBY.out).mono ?_; rintro e wz ⟨rfl, hb⟩; have HBZ := hid (below_next HBY.out hb); clear hb))
          go_ret
          exact ⟨rfl, HBZ.out⟩
        · have HA := hid ha
          have HBB := hid hb
          have hra := row_ge.2 ha
          obtain ⟨j1, j2⟩ := row_ge.1 hb
          obtain ⟨pj, hpj⟩ : ∃ pj, plI (nds l) x.b = pj := ⟨_, rfl⟩
          have hrj : rowI l x.b = pj := by rw [← hpj]; exact j2
          (try rw [hrj] at HK1)
          (try rw [hrj] at HK2)
          (try rw [hrj] at HK3)
          (try rw [hrj] at HK4)
          (try rw [hrj] at HK5)
          (try rw [hrj] at HK6)
          (try rw [hrj] at HK7)
          (try rw [hrj] at HK8)
          rw [hrj] at j1
          have e1 := HK2.out hra
          subst e1
          have KF2 := hid (HK3.out j1)
          have e3 := HK6.out (.inl hra)
          subst e3
          have e4 := HK8.out (.inl hra)
          subst e4
          clear HK1 HK2 HK3 HK4 HK5 HK6 HK7 HK8 hra j1 j2 hrj
          go_upto_region 14 with (go_at_call 18; refine (nplace_any _ l x.a _ HN13.out HXO.out.a).mono ?_; rintro e wp ⟨rfl, rfl⟩; rw [ha])
          go_upto_region 15 with (go_at_call 18; refine (nplace_any _ l x.b _ HN13.out HXO.out.b).mono ?_; rintro e wp ⟨rfl, rfl⟩; rw [hb, hpj])
          go_upto_region 16 with (refine wpList_float rfl _ _ _ _ _ rfl rfl _ _ rfl rfl ?_; intro r nr hr; have HR := hid hr; clear hr)
          have HYY := hid (show ck (r, 0) = (fdiv fone (fc x.val), fc 0) by show (fc r, fc 0) = _; rw [HR.out]; rfl)
          have HYN := hid (show ck (Op.negFloat .f64 r, Op.negFloat .f64 0) = cneg (fdiv fone (fc x.val), fc 0) by rw [ck_neg, HYY.out])
          clear HR c0 c1 c2 c3 c4 c5 c6 c7
          have hbn := below_n (Below.refl ud.heap.size ud) nr
          have H1214 := hid (heap_later2 hbn H1213.out)
          have H1314 := hid (heap_later2 hbn H1313.out)
          have HD14 := hid (own_none HO113.out (grown_of_below hbn none))
          have HE14 := hid (own_none HO213.out (grown_of_below hbn none))
          have HB14 := hid (below_next HB13.out hbn)
          clear hbn H1213 H1313 HO113 HO213 HB13 HXB13 HN13 HM13 HFB13 HF2
          generalize ud.drewN nr = ue at *
          have HLX0 := HL1
          have hneg : Op.unary .neg (.complex .f64 r 0) = pure (.complex .f64 (Op.negFloat .f64 r) (Op.negFloat .f64 0)) := rfl
          obtain ⟨q0, q1, q2, _⟩ := mat_at H1214.out
          go_upto_region 17 with fail
          go_upto_region 19 with fail
          go_upto_region 21 with (go_at_call 19; refine (sadd_any r2 r2 pj pj (.slice am xs1.length cm) xs1 (r, 0) _ (IsSl.of_own HD14.out) (by have h := HLX0.out; have := HSQ.out; omega)).mono ?_; rintro e ws2 ⟨rr, rc, vv, kk, yss2, rfl, hown, hz, hb⟩; have H1215 := hid (heap_later2 hb H1214.out); have H1315 := hid (heap_later2 hb H1314.out); have HD15 := hid (own_none HD14.out (grown_of_below hb none)); have HE15 := hid (own_none HE14.out (grown_of_below hb none)); have HB15 := hid (below_next HB14.out hb); rw [HX1.out, HYY.out] at hz; have hz2 := hz.trans KF2.out; obtain ⟨hz3, rfl⟩ := Prod.mk.inj hz2; obtain ⟨rfl, hz4⟩ := Prod.mk.inj hz3; obtain ⟨rfl, hz5⟩ := Prod.mk.inj hz4; have HXs2 := hid hz5; have HOs2 := hid hown; obtain ⟨as2, cs2, rfl⟩ := (IsSl.of_own hown).form; obtain ⟨p0, p1, p2, p3, p4, p5⟩ := mat_at H1215.out; clear hb hown hz hz2 hz3 hz4 hz5)
          clear q0 q1 q2 H1214 H1314 HD14 HE14 HB14
          have hgr : ws2.grownBy (((ws2.setCell ⟨g12, 0, none⟩ (.int .i64 r2)).setCell ⟨g12, 1, none⟩ (.int .i64 r2)).setCell ⟨g12, 2, none⟩ (.slice as2 yss2.length cs2)) (some g12) := grown_trans (grown_trans (grown_set ws2 g12 0 _) (grown_set _ g12 1 _)) (grown_set _ g12 2 _)
          have H12s2 : Hid ((((ws2.setCell ⟨g12, 0, none⟩ (.int .i64 r2)).setCell ⟨g12, 1, none⟩ (.int .i64 r2)).setCell ⟨g12, 2, none⟩ (.slice as2 yss2.length cs2)).heap[g12]? = some (.cells #[.int .i64 r2, .int .i64 r2, .slice as2 yss2.length cs2] 38 (0, 0))) := hid (set3_heap H1215.out)
          have H13s2 := hid (heap_nextG hgr (by have := HLT.out; omega) H1315.out)
          have HEs2 := hid (kept_ne HE15.out hgr (fun k hk e => by cases e; obtain ⟨_, c, hc⟩ := own_typ HE15.out hk; exact typ_ne hc H1215.out (by decide) rfl))
          have HDs2 := hid (kept_ne HOs2.out hgr (fun k hk e => by cases e; obtain ⟨_, c, hc⟩ := own_typ HOs2.out hk; exact typ_ne hc H1215.out (by decide) rfl))
          have HBXs2 := hid (((HB15.out.setCell (p := ⟨g12, 0, none⟩) HG12.out (.int .i64 r2)).setCell (p := ⟨g12, 1, none⟩) HG12.out (.int .i64 r2)).setCell (p := ⟨g12, 2, none⟩) HG12.out (.slice as2 yss2.length cs2))
          have HLXs2 := hid (show yss2.length = r2 * r2 by have h := congrArg List.length HXs2.out; rw [List.length_map, dm_len] at h; exact h)
          clear hgr p0 p1 p2 p3 p4 p5 HOs2 H1215 H1315 HE15 HB15
          generalize (((ws2.setCell ⟨g12, 0, none⟩ (.int .i64 r2)).setCell ⟨g12, 1, none⟩ (.int .i64 r2)).setCell ⟨g12, 2, none⟩ (.slice as2 yss2.length cs2)) = us2 at *
          obtain ⟨q0, q1, q2, _⟩ := mat_at H12s2.out
          go_upto_region 25 with fail
          obtain ⟨r0, r1', r2', _⟩ := mat_at H13s2.out
          go_wp2_with (first | (go_at_call 20; refine (equalmatrix_any r2 (.slice as2 yss2.length cs2) (.slice an xs2.length cn) yss2 xs2 _ (IsSl.of_own HDs2.out) (IsSl.of_own HEs2.out) (by have h := HLXs2.out; have := HSQ.out; omega) (eql_dm HXs2.out HX2.out (dm_mem HFI.out))).mono ?_; rintro e wy ⟨rfl, hb⟩; have HBY := hid (below_next HBXs2.out hb); clear hb) | (go_at_call 8; refine (HAW.out _ HBY.out).mono ?_; rintro e wz ⟨rfl, hb⟩; have HBZ := hid (below_next HBY.out hb); clear hb))
          go_ret
          exact ⟨rfl, HBZ.out⟩
        · have HA := hid ha
          have HBB := hid hb
          obtain ⟨i1, i2⟩ := row_ge.1 ha
          obtain ⟨pi, hpi⟩ : ∃ pi, plI (nds l) x.a = pi := ⟨_, rfl⟩
          have hri : rowI l x.a = pi := by rw [← hpi]; exact i2
          (try rw [hri] at HK1)
          (try rw [hri] at HK2)
          (try rw [hri] at HK3)
          (try rw [hri] at HK4)
          (try rw [hri] at HK5)
          (try rw [hri] at HK6)
          (try rw [hri] at HK7)
          (try rw [hri] at HK8)
          rw [hri] at i1
          have hrb := row_ge.2 hb
          have KF1 := hid (HK1.out i1)
          have e2 := HK4.out hrb
          subst e2
          have e3 := HK6.out (.inr hrb)
          subst e3
          have e4 := HK8.out (.inr hrb)
          subst e4
          clear HK1 HK2 HK3 HK4 HK5 HK6 HK7 HK8 i1 i2 hri hrb
          go_upto_region 14 with (go_at_call 18; refine (nplace_any _ l x.a _ HN13.out HXO.out.a).mono ?_; rintro e wp ⟨rfl, rfl⟩; rw [ha, hpi])
          go_upto_region 15 with (go_at_call 18; refine (nplace_any _ l x.b _ HN13.out HXO.out.b).mono ?_; rintro e wp ⟨rfl, rfl⟩; rw [hb])
          go_upto_region 16 with (refine wpList_float rfl _ _ _ _ _ rfl rfl _ _ rfl rfl ?_; intro r nr hr; have HR := hid hr; clear hr)
          have HYY := hid (show ck (r, 0) = (fdiv fone (fc x.val), fc 0) by show (fc r, fc 0) = _; rw [HR.out]; rfl)
          have HYN := hid (show ck (Op.negFloat .f64 r, Op.negFloat .f64 0) = cneg (fdiv fone (fc x.val), fc 0) by rw [ck_neg, HYY.out])
          clear HR c0 c1 c2 c3 c4 c5 c6 c7
          have hbn := below_n (Below.refl ud.heap.size ud) nr
          have H1214 := hid (heap_later2 hbn H1213.out)
          have H1314 := hid (heap_later2 hbn H1313.out)
          have HD14 := hid (own_none HO113.out (grown_of_below hbn none))
          have HE14 := hid (own_none HO213.out (grown_of_below hbn none))
          have HB14 := hid (below_next HB13.out hbn)
          clear hbn H1213 H1313 HO113 HO213 HB13 HXB13 HN13 HM13 HFB13 HF2
          generalize ud.drewN nr = ue at *
          have HLX0 := HL1
          have hneg : Op.unary .neg (.complex .f64 r 0) = pure (.complex .f64 (Op.negFloat .f64 r) (Op.negFloat .f64 0)) := rfl
          obtain ⟨q0, q1, q2, _⟩ := mat_at H1214.out
          go_upto_region 17 with fail
          go_upto_region 19 with (go_at_call 19; refine (sadd_any r2 r2 pi pi (.slice am xs1.length cm) xs1 (r, 0) _ (IsSl.of_own HD14.out) (by have h := HLX0.out; have := HSQ.out; omega)).mono ?_; rintro e ws1 ⟨rr, rc, vv, kk, yss1, rfl, hown, hz, hb⟩; have H1215 := hid (heap_later2 hb H1214.out); have H1315 := hid (heap_later2 hb H1314.out); have HD15 := hid (own_none HD14.out (grown_of_below hb none)); have HE15 := hid (own_none HE14.out (grown_of_below hb none)); have HB15 := hid (below_next HB14.out hb); rw [HX1.out, HYY.out] at hz; have hz2 := hz.trans KF1.out; obtain ⟨hz3, rfl⟩ := Prod.mk.inj hz2; obtain ⟨rfl, hz4⟩ := Prod.mk.inj hz3; obtain ⟨rfl, hz5⟩ := Prod.mk.inj hz4; have HXs1 := hid hz5; have HOs1 := hid hown; obtain ⟨as1, cs1, rfl⟩ := (IsSl.of_own hown).form; obtain ⟨p0, p1, p2, p3, p4, p5⟩ := mat_at H1215.out; clear hb hown hz hz2 hz3 hz4 hz5)
          clear q0 q1 q2 H1214 H1314 HD14 HE14 HB14
          have hgr : ws1.grownBy (((ws1.setCell ⟨g12, 0, none⟩ (.int .i64 r2)).setCell ⟨g12, 1, none⟩ (.int .i64 r2)).setCell ⟨g12, 2, none⟩ (.slice as1 yss1.length cs1)) (some g12) := grown_trans (grown_trans (grown_set ws1 g12 0 _) (grown_set _ g12 1 _)) (grown_set _ g12 2 _)
          have H12s1 : Hid ((((ws1.setCell ⟨g12, 0, none⟩ (.int .i64 r2)).setCell ⟨g12, 1, none⟩ (.int .i64 r2)).setCell ⟨g12, 2, none⟩ (.slice as1 yss1.length cs1)).heap[g12]? = some (.cells #[.int .i64 r2, .int .i64 r2, .slice as1 yss1.length cs1] 38 (0, 0))) := hid (set3_heap H1215.out)
          have H13s1 := hid (heap_nextG hgr (by have := HLT.out; omega) H1315.out)
          have HEs1 := hid (kept_ne HE15.out hgr (fun k hk e => by cases e; obtain ⟨_, c, hc⟩ := own_typ HE15.out hk; exact typ_ne hc H1215.out (by decide) rfl))
          have HDs1 := hid (kept_ne HOs1.out hgr (fun k hk e => by cases e; obtain ⟨_, c, hc⟩ := own_typ HOs1.out hk; exact typ_ne hc H1215.out (by decide) rfl))
          have HBXs1 := hid (((HB15.out.setCell (p := ⟨g12, 0, none⟩) HG12.out (.int .i64 r2)).setCell (p := ⟨g12, 1, none⟩) HG12.out (.int .i64 r2)).setCell (p := ⟨g12, 2, none⟩) HG12.out (.slice as1 yss1.length cs1))
          have HLXs1 := hid (show yss1.length = r2 * r2 by have h := congrArg List.length HXs1.out; rw [List.length_map, dm_len] at h; exact h)
          clear hgr p0 p1 p2 p3 p4 p5 HOs1 H1215 H1315 HE15 HB15
          generalize (((ws1.setCell ⟨g12, 0, none⟩ (.int .i64 r2)).setCell ⟨g12, 1, none⟩ (.int .i64 r2)).setCell ⟨g12, 2, none⟩ (.slice as1 yss1.length cs1)) = us1 at *
          obtain ⟨q0, q1, q2, _⟩ := mat_at H12s1.out
          go_upto_region 21 with fail
          go_upto_region 25 with fail
          obtain ⟨r0, r1', r2', _⟩ := mat_at H13s1.out
          go_wp2_with (first | (go_at_call 20; refine (equalmatrix_any r2 (.slice as1 yss1.length cs1) (.slice an xs2.length cn) yss1 xs2 _ (IsSl.of_own HDs1.out) (IsSl.of_own HEs1.out) (by have h := HLXs1.out; have := HSQ.out; omega) (eql_dm HXs1.out HX2.out (dm_mem HFI.out))).mono ?_; rintro e wy ⟨rfl, hb⟩; have HBY := hid (below_next HBXs1.out hb); clear hb) | (go_at_call 8; refine (HAW.out _ HBY.out).mono ?_; rintro e wz ⟨rfl, hb⟩; have HBZ := hid (below_next HBY.out hb); clear hb))
          go_ret
          exact ⟨rfl, HBZ.out⟩
        · have HA := hid ha
          have HBB := hid hb
          obtain ⟨i1, i2⟩ := row_ge.1 ha
          obtain ⟨pi, hpi⟩ : ∃ pi, plI (nds l) x.a = pi := ⟨_, rfl⟩
          have hri : rowI l x.a = pi := by rw [← hpi]; exact i2
          (try rw [hri] at HK1)
          (try rw [hri] at HK2)
          (try rw [hri] at HK3)
          (try rw [hri] at HK4)
          (try rw [hri] at HK5)
          (try rw [hri] at HK6)
          (try rw [hri] at HK7)
          (try rw [hri] at HK8)
          rw [hri] at i1
          obtain ⟨j1, j2⟩ := row_ge.1 hb
          obtain ⟨pj, hpj⟩ : ∃ pj, plI (nds l) x.b = pj := ⟨_, rfl⟩
          have hrj : rowI l x.b = pj := by rw [← hpj]; exact j2
          (try rw [hrj] at HK1)
          (try rw [hrj] at HK2)
          (try rw [hrj] at HK3)
          (try rw [hrj] at HK4)
          (try rw [hrj] at HK5)
          (try rw [hrj] at HK6)
          (try rw [hrj] at HK7)
          (try rw [hrj] at HK8)
          rw [hrj] at j1
          have KF1 := hid (HK1.out i1)
          have KF2 := hid (HK3.out j1)
          have KF3 := hid (HK5.out ⟨i1, j1⟩)
          have KF4 := hid (HK7.out ⟨i1, j1⟩)
          clear HK1 HK2 HK3 HK4 HK5 HK6 HK7 HK8 i1 i2 hri j1 j2 hrj
          go_upto_region 14 with (go_at_call 18; refine (nplace_any _ l x.a _ HN13.out HXO.out.a).mono ?_; rintro e wp ⟨rfl, rfl⟩; rw [ha, hpi])
          go_upto_region 15 with (go_at_call 18; refine (nplace_any _ l x.b _ HN13.out HXO.out.b).mono ?_; rintro e wp ⟨rfl, rfl⟩; rw [hb, hpj])
          go_upto_region 16 with (refine wpList_float rfl _ _ _ _ _ rfl rfl _ _ rfl rfl ?_; intro r nr hr; have HR := hid hr; clear hr)
          have HYY := hid (show ck (r, 0) = (fdiv fone (fc x.val), fc 0) by show (fc r, fc 0) = _; rw [HR.out]; rfl)
          have HYN := hid (show ck (Op.negFloat .f64 r, Op.negFloat .f64 0) = cneg (fdiv fone (fc x.val), fc 0) by rw [ck_neg, HYY.out])
          clear HR c0 c1 c2 c3 c4 c5 c6 c7
          have hbn := below_n (Below.refl ud.heap.size ud) nr
          have H1214 := hid (heap_later2 hbn H1213.out)
          have H1314 := hid (heap_later2 hbn H1313.out)
          have HD14 := hid (own_none HO113.out (grown_of_below hbn none))
          have HE14 := hid (own_none HO213.out (grown_of_below hbn none))
          have HB14 := hid (below_next HB13.out hbn)
          clear hbn H1213 H1313 HO113 HO213 HB13 HXB13 HN13 HM13 HFB13 HF2
          generalize ud.drewN nr = ue at *
          have HLX0 := HL1
          have hneg : Op.unary .neg (.complex .f64 r 0) = pure (.complex .f64 (Op.negFloat .f64 r) (Op.negFloat .f64 0)) := rfl
          obtain ⟨q0, q1, q2, _⟩ := mat_at H1214.out
          go_upto_region 17 with fail
          go_upto_region 19 with (go_at_call 19; refine (sadd_any r2 r2 pi pi (.slice am xs1.length cm) xs1 (r, 0) _ (IsSl.of_own HD14.out) (by have h := HLX0.out; have := HSQ.out; omega)).mono ?_; rintro e ws1 ⟨rr, rc, vv, kk, yss1, rfl, hown, hz, hb⟩; have H1215 := hid (heap_later2 hb H1214.out); have H1315 := hid (heap_later2 hb H1314.out); have HD15 := hid (own_none HD14.out (grown_of_below hb none)); have HE15 := hid (own_none HE14.out (grown_of_below hb none)); have HB15 := hid (below_next HB14.out hb); rw [HX1.out, HYY.out] at hz; have hz2 := hz.trans KF1.out; obtain ⟨hz3, rfl⟩ := Prod.mk.inj hz2; obtain ⟨rfl, hz4⟩ := Prod.mk.inj hz3; obtain ⟨rfl, hz5⟩ := Prod.mk.inj hz4; have HXs1 := hid hz5; have HOs1 := hid hown; obtain ⟨as1, cs1, rfl⟩ := (IsSl.of_own hown).form; obtain ⟨p0, p1, p2, p3, p4, p5⟩ := mat_at H1215.out; clear hb hown hz hz2 hz3 hz4 hz5)
          clear q0 q1 q2 H1214 H1314 HD14 HE14 HB14
          have hgr : ws1.grownBy (((ws1.setCell ⟨g12, 0, none⟩ (.int .i64 r2)).setCell ⟨g12, 1, none⟩ (.int .i64 r2)).setCell ⟨g12, 2, none⟩ (.slice as1 yss1.length cs1)) (some g12) := grown_trans (grown_trans (grown_set ws1 g12 0 _) (grown_set _ g12 1 _)) (grown_set _ g12 2 _)
          have H12s1 : Hid ((((ws1.setCell ⟨g12, 0, none⟩ (.int .i64 r2)).setCell ⟨g12, 1, none⟩ (.int .i64 r2)).setCell ⟨g12, 2, none⟩ (.slice as1 yss1.length cs1)).heap[g12]? = some (.cells #[.int .i64 r2, .int .i64 r2, .slice as1 yss1.length cs1] 38 (0, 0))) := hid (set3_heap H1215.out)
          have H13s1 := hid (heap_nextG hgr (by have := HLT.out; omega) H1315.out)
          have HEs1 := hid (kept_ne HE15.out hgr (fun k hk e => by cases e; obtain ⟨_, c, hc⟩ := own_typ HE15.out hk; exact typ_ne hc H1215.out (by decide) rfl))
          have HDs1 := hid (kept_ne HOs1.out hgr (fun k hk e => by cases e; obtain ⟨_, c, hc⟩ := own_typ HOs1.out hk; exact typ_ne hc H1215.out (by decide) rfl))
          have HBXs1 := hid (((HB15.out.setCell (p := ⟨g12, 0, none⟩) HG12.out (.int .i64 r2)).setCell (p := ⟨g12, 1, none⟩) HG12.out (.int .i64 r2)).setCell (p := ⟨g12, 2, none⟩) HG12.out (.slice as1 yss1.length cs1))
          have HLXs1 := hid (show yss1.length = r2 * r2 by have h := congrArg List.length HXs1.out; rw [List.length_map, dm_len] at h; exact h)
          clear hgr p0 p1 p2 p3 p4 p5 HOs1 H1215 H1315 HE15 HB15
          generalize (((ws1.setCell ⟨g12, 0, none⟩ (.int .i64 r2)).setCell ⟨g12, 1, none⟩ (.int .i64 r2)).setCell ⟨g12, 2, none⟩ (.slice as1 yss1.length cs1)) = us1 at *
          obtain ⟨q0, q1, q2, _⟩ := mat_at H12s1.out
          go_upto_region 21 with (go_at_call 19; refine (sadd_any r2 r2 pj pj (.slice as1 yss1.length cs1) yss1 (r, 0) _ (IsSl.of_own HDs1.out) (by have h := HLXs1.out; have := HSQ.out; omega)).mono ?_; rintro e ws2 ⟨rr, rc, vv, kk, yss2, rfl, hown, hz, hb⟩; have H1216 := hid (heap_later2 hb H12s1.out); have H1316 := hid (heap_later2 hb H13s1.out); have HE16 := hid (own_none HEs1.out (grown_of_below hb none)); have HD16 := hid (own_none HDs1.out (grown_of_below hb none)); have HB16 := hid (below_next HBXs1.out hb); rw [HXs1.out, HYY.out] at hz; have hz2 := hz.trans KF2.out; obtain ⟨hz3, rfl⟩ := Prod.mk.inj hz2; obtain ⟨rfl, hz4⟩ := Prod.mk.inj hz3; obtain ⟨rfl, hz5⟩ := Prod.mk.inj hz4; have HXs2 := hid hz5; have HOs2 := hid hown; obtain ⟨as2, cs2, rfl⟩ := (IsSl.of_own hown).form; obtain ⟨p0, p1, p2, p3, p4, p5⟩ := mat_at H1216.out; clear hb hown hz hz2 hz3 hz4 hz5)
          clear q0 q1 q2 H12s1 H13s1 HEs1 HDs1 HBXs1
          have hgr : ws2.grownBy (((ws2.setCell ⟨g12, 0, none⟩ (.int .i64 r2)).setCell ⟨g12, 1, none⟩ (.int .i64 r2)).setCell ⟨g12, 2, none⟩ (.slice as2 yss2.length cs2)) (some g12) := grown_trans (grown_trans (grown_set ws2 g12 0 _) (grown_set _ g12 1 _)) (grown_set _ g12 2 _)
          have H12s2 : Hid ((((ws2.setCell ⟨g12, 0, none⟩ (.int .i64 r2)).setCell ⟨g12, 1, none⟩ (.int .i64 r2)).setCell ⟨g12, 2, none⟩ (.slice as2 yss2.length cs2)).heap[g12]? = some (.cells #[.int .i64 r2, .int .i64 r2, .slice as2 yss2.length cs2] 38 (0, 0))) := hid (set3_heap H1216.out)
          have H13s2 := hid (heap_nextG hgr (by have := HLT.out; omega) H1316.out)
          have HEs2 := hid (kept_ne HE16.out hgr (fun k hk e => by cases e; obtain ⟨_, c, hc⟩ := own_typ HE16.out hk; exact typ_ne hc H1216.out (by decide) rfl))
          have HDs2 := hid (kept_ne HOs2.out hgr (fun k hk e => by cases e; obtain ⟨_, c, hc⟩ := own_typ HOs2.out hk; exact typ_ne hc H1216.out (by decide) rfl))
          have HBXs2 := hid (((HB16.out.setCell (p := ⟨g12, 0, none⟩) HG12.out (.int .i64 r2)).setCell (p := ⟨g12, 1, none⟩) HG12.out (.int .i64 r2)).setCell (p := ⟨g12, 2, none⟩) HG12.out (.slice as2 yss2.length cs2))
          have HLXs2 := hid (show yss2.length = r2 * r2 by have h := congrArg List.length HXs2.out; rw [List.length_map, dm_len] at h; exact h)
          clear hgr p0 p1 p2 p3 p4 p5 HOs2 H1216 H1316 HE16 HB16
          generalize (((ws2.setCell ⟨g12, 0, none⟩ (.int .i64 r2)).setCell ⟨g12, 1, none⟩ (.int .i64 r2)).setCell ⟨g12, 2, none⟩ (.slice as2 yss2.length cs2)) = us2 at *
          obtain ⟨q0, q1, q2, _⟩ := mat_at H12s2.out
          go_upto_region 23 with (go_at_call 19; refine (sadd_any r2 r2 pi pj (.slice as2 yss2.length cs2) yss2 (Op.negFloat .f64 r, Op.negFloat .f64 0) _ (IsSl.of_own HDs2.out) (by have h := HLXs2.out; have := HSQ.out; omega)).mono ?_; rintro e ws3 ⟨rr, rc, vv, kk, yss3, rfl, hown, hz, hb⟩; have H1217 := hid (heap_later2 hb H12s2.out); have H1317 := hid (heap_later2 hb H13s2.out); have HE17 := hid (own_none HEs2.out (grown_of_below hb none)); have HD17 := hid (own_none HDs2.out (grown_of_below hb none)); have HB17 := hid (below_next HBXs2.out hb); rw [HXs2.out, HYN.out] at hz; have hz2 := hz.trans KF3.out; obtain ⟨hz3, rfl⟩ := Prod.mk.inj hz2; obtain ⟨rfl, hz4⟩ := Prod.mk.inj hz3; obtain ⟨rfl, hz5⟩ := Prod.mk.inj hz4; have HXs3 := hid hz5; have HOs3 := hid hown; obtain ⟨as3, cs3, rfl⟩ := (IsSl.of_own hown).form; obtain ⟨p0, p1, p2, p3, p4, p5⟩ := mat_at H1217.out; clear hb hown hz hz2 hz3 hz4 hz5)
          clear q0 q1 q2 H12s2 H13s2 HEs2 HDs2 HBXs2
          have hgr : ws3.grownBy (((ws3.setCell ⟨g12, 0, none⟩ (.int .i64 r2)).setCell ⟨g12, 1, none⟩ (.int .i64 r2)).setCell ⟨g12, 2, none⟩ (.slice as3 yss3.length cs3)) (some g12) := grown_trans (grown_trans (grown_set ws3 g12 0 _) (grown_set _ g12 1 _)) (grown_set _ g12 2 _)
          have H12s3 : Hid ((((ws3.setCell ⟨g12, 0, none⟩ (.int .i64 r2)).setCell ⟨g12, 1, none⟩ (.int .i64 r2)).setCell ⟨g12, 2, none⟩ (.slice as3 yss3.length cs3)).heap[g12]? = some (.cells #[.int .i64 r2, .int .i64 r2, .slice as3 yss3.length cs3] 38 (0, 0))) := hid (set3_heap H1217.out)
          have H13s3 := hid (heap_nextG hgr (by have := HLT.out; omega) H1317.out)
          have HEs3 := hid (kept_ne HE17.out hgr (fun k hk e => by cases e; obtain ⟨_, c, hc⟩ := own_typ HE17.out hk; exact typ_ne hc H1217.out (by decide) rfl))
          have HDs3 := hid (kept_ne HOs3.out hgr (fun k hk e => by cases e; obtain ⟨_, c, hc⟩ := own_typ HOs3.out hk; exact typ_ne hc H1217.out (by decide) rfl))
          have HBXs3 := hid (((HB17.out.setCell (p := ⟨g12, 0, none⟩) HG12.out (.int .i64 r2)).setCell (p := ⟨g12, 1, none⟩) HG12.out (.int .i64 r2)).setCell (p := ⟨g12, 2, none⟩) HG12.out (.slice as3 yss3.length cs3))
          have HLXs3 := hid (show yss3.length = r2 * r2 by have h := congrArg List.length HXs3.out; rw [List.length_map, dm_len] at h; exact h)
          clear hgr p0 p1 p2 p3 p4 p5 HOs3 H1217 H1317 HE17 HB17
          generalize (((ws3.setCell ⟨g12, 0, none⟩ (.int .i64 r2)).setCell ⟨g12, 1, none⟩ (.int .i64 r2)).setCell ⟨g12, 2, none⟩ (.slice as3 yss3.length cs3)) = us3 at *
          obtain ⟨q0, q1, q2, _⟩ := mat_at H12s3.out
          go_upto_region 25 with (go_at_call 19; refine (sadd_any r2 r2 pj pi (.slice as3 yss3.length cs3) yss3 (Op.negFloat .f64 r, Op.negFloat .f64 0) _ (IsSl.of_own HDs3.out) (by have h := HLXs3.out; have := HSQ.out; omega)).mono ?_; rintro e ws4 ⟨rr, rc, vv, kk, yss4, rfl, hown, hz, hb⟩; have H1218 := hid (heap_later2 hb H12s3.out); have H1318 := hid (heap_later2 hb H13s3.out); have HE18 := hid (own_none HEs3.out (grown_of_below hb none)); have HD18 := hid (own_none HDs3.out (grown_of_below hb none)); have HB18 := hid (below_next HBXs3.out hb); rw [HXs3.out, HYN.out] at hz; have hz2 := hz.trans KF4.out; obtain ⟨hz3, rfl⟩ := Prod.mk.inj hz2; obtain ⟨rfl, hz4⟩ := Prod.mk.inj hz3; obtain ⟨rfl, hz5⟩ := Prod.mk.inj hz4; have HXs4 := hid hz5; have HOs4 := hid hown; obtain ⟨as4, cs4, rfl⟩ := (IsSl.of_own hown).form; obtain ⟨p0, p1, p2, p3, p4, p5⟩ := mat_at H1218.out; clear hb hown hz hz2 hz3 hz4 hz5)
          clear q0 q1 q2 H12s3 H13s3 HEs3 HDs3 HBXs3
          have hgr : ws4.grownBy (((ws4.setCell ⟨g12, 0, none⟩ (.int .i64 r2)).setCell ⟨g12, 1, none⟩ (.int .i64 r2)).setCell ⟨g12, 2, none⟩ (.slice as4 yss4.length cs4)) (some g12) := grown_trans (grown_trans (grown_set ws4 g12 0 _) (grown_set _ g12 1 _)) (grown_set _ g12 2 _)
          have H12s4 : Hid ((((ws4.setCell ⟨g12, 0, none⟩ (.int .i64 r2)).setCell ⟨g12, 1, none⟩ (.int .i64 r2)).setCell ⟨g12, 2, none⟩ (.slice as4 yss4.length cs4)).heap[g12]? = some (.cells #[.int .i64 r2, .int .i64 r2, .slice as4 yss4.length cs4] 38 (0, 0))) := hid (set3_heap H1218.out)
          have H13s4 := hid (heap_nextG hgr (by have := HLT.out; omega) H1318.out)
          have HEs4 := hid (kept_ne HE18.out hgr (fun k hk e => by cases e; obtain ⟨_, c, hc⟩ := own_typ HE18.out hk; exact typ_ne hc H1218.out (by decide) rfl))
          have HDs4 := hid (kept_ne HOs4.out hgr (fun k hk e => by cases e; obtain ⟨_, c, hc⟩ := own_typ HOs4.out hk; exact typ_ne hc H1218.out (by decide) rfl))
          have HBXs4 := hid (((HB18.out.setCell (p := ⟨g12, 0, none⟩) HG12.out (.int .i64 r2)).setCell (p := ⟨g12, 1, none⟩) HG12.out (.int .i64 r2)).setCell (p := ⟨g12, 2, none⟩) HG12.out (.slice as4 yss4.length cs4))
          have HLXs4 := hid (show yss4.length = r2 * r2 by have h := congrArg List.length HXs4.out; rw [List.length_map, dm_len] at h; exact h)
          clear hgr p0 p1 p2 p3 p4 p5 HOs4 H1218 H1318 HE18 HB18
          generalize (((ws4.setCell ⟨g12, 0, none⟩ (.int .i64 r2)).setCell ⟨g12, 1, none⟩ (.int .i64 r2)).setCell ⟨g12, 2, none⟩ (.slice as4 yss4.length cs4)) = us4 at *
          obtain ⟨q0, q1, q2, _⟩ := mat_at H12s4.out
          obtain ⟨r0, r1', r2', _⟩ := mat_at H13s4.out
          go_wp2_with (first | (go_at_call 20; refine (equalmatrix_any r2 (.slice as4 yss4.length cs4) (.slice an xs2.length cn) yss4 xs2 _ (IsSl.of_own HDs4.out) (IsSl.of_own HEs4.out) (by have h := HLXs4.out; have := HSQ.out; omega) (eql_dm HXs4.out HX2.out (dm_mem HFI.out))).mono ?_; rintro e wy ⟨rfl, hb⟩; have HBY := hid (below_next HBXs4.out hb); clear hb) | (go_at_call 8; refine (HAW.out _ HBY.out).mono ?_; rintro e wz ⟨rfl, hb⟩; have HBZ := hid (below_next HBY.out hb); clear hb))
          go_ret
          exact ⟨rfl, HBZ.out⟩
end Go.Proofs.YtlaibmeokghdmaaGreatDoor
