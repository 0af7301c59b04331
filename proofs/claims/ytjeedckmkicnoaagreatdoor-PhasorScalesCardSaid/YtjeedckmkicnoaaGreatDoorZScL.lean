/- a part of the proof of the last text -/
import Derived.Test.YtjeedckmkicnoaaGreatDoorZSc2
import Derived.Test.YtjeedckmkicnoaaGreatDoorZSamE
namespace Go.Proofs.YtjeedckmkicnoaaGreatDoor
set_option linter.all false
set_option maxHeartbeats 4000000
set_option maxRecDepth 100000
open Go.RowKit
/-- A net's elements, of a net that may be none. -/
theorem elements20_any (p : Value) (l : List El) (w : World) (hp : NN w p l) (hn : p = .pointer none ∨ ∃ g : Nat, p = .pointer (some ⟨g, 0, none⟩)) (hl : l.length ≤ 100000) :
    Calls Tryz.prog 13 #[p] w (RetRow 81 8 l.length (fun xs => xs = l.flatMap ea) w) := by
  have HP := hid hp
  rcases hn with rfl | ⟨g, rfl⟩
  · obtain rfl : l = [] := by
      rcases hp with ⟨_, h⟩ | ⟨_, _, _, _, _, _, _, _, h, _⟩
      · exact h
      · cases h
    clear hp HP
    go_enter Tryz.func13, Tryz.ntmps13
    go_wp2
    (try simp only [Exit.inBlock, Exit.then])
    (try rw [Exit.noGoto_ret])
    go_ret
    exact ⟨_, _, rfl, World.ownsRow_nil _ _ _ _, rfl, Below.refl _ _⟩
  · clear hp
    go_enter Tryz.func13, Tryz.ntmps13
    go_wp2_with (go_at_call 15; refine (nelements_any _ l _ HP.out hl).mono ?_; rintro e w1 ⟨v, xs, rfl, hown, rfl, hb⟩; have HO := hid hown; have HB := hid hb; clear hown hb)
    (try simp only [Exit.inBlock, Exit.then])
    (try rw [Exit.noGoto_ret])
    go_ret
    exact ⟨_, _, rfl, HO.out, rfl, HB.out⟩
set_option maxRecDepth 100000 in
set_option maxHeartbeats 4000000 in
theorem scales_walk (v : Value) (l : List El) (by_ : Nat) (w : World) (hlv : ∀ w' : World, Below w.heap.size w w' → Calls Tryz.prog 6 #[] w' fun e w'' => e = .returned (.bool true) ∧ Below w'.heap.size w' w'')
    (hv : InSl w 8 v l.length (l.flatMap ez)) (hok : ∀ e ∈ l, e.Ok) (hle : l.length * 104 ≤ 140737488351232) :
    Calls Tryz.prog 3 #[v, .int .u64 by_] w fun e w' => e = .returned (.bool true) ∧ Below w.heap.size w w' := by
  have b2 := frombits_law
  obtain ⟨a0, c0, rfl⟩ := hv.form
  have HV := hid hv
  have HBW := hid (Below.refl w.heap.size w)
  have HLV := hid hlv
  have HOK := hid hok
  have HLE := hid hle
  clear hv hok hlv hle
  go_enter Tryz.func3, Tryz.ntmps3
  go_upto_region 2 with (go_at_call 5; refine (read20_any _ l _ HV.out HOK.out).mono ?_; rintro e w2 ⟨p, q, b, rfl, hb, hgd⟩; have HV1 := hid (HV.out.below hb (Nat.le_refl _)); have HB1 := hid (below_next HBW.out hb); have HGD := hid hgd; clear hgd; clear hb )
  clear HV HBW
  cases b
  · go_wp2_with (go_at_call 6; refine (HLV.out _ HB1.out).mono ?_; rintro e wz ⟨rfl, hb⟩; have HBZ := hid (below_next HB1.out hb); clear hb)
    (try simp only [Exit.inBlock, Exit.then])
    (try rw [Exit.noGoto_ret])
    go_ret
    exact ⟨rfl, HBZ.out⟩
  obtain ⟨h40, hob, hsz, hn, hr, hpn, hqn⟩ := HGD.out rfl
  have HOB := hid hob
  have HLN := hid (show l.length ≤ 100000 by omega)
  have HN := hid hn
  have HR := hid hr
  have HPN := hid hpn
  have HQN := hid (show noRef q = false by rw [ref_net q hr]; exact hqn)
  obtain ⟨L0, hL0⟩ : ∃ L, l.map (chg (fun _ => 0)) = L := ⟨_, rfl⟩
  obtain ⟨LS, hLS⟩ : ∃ L, l.map (chg (fun v => fmul v (fc by_))) = L := ⟨_, rfl⟩
  have HC0 := hid (show L0.length ≤ 100000 by rw [← hL0, List.length_map]; omega)
  have HCS := hid (show LS.length ≤ 100000 by rw [← hLS, List.length_map]; omega)
  have HL0 := hid hL0
  have HLS := hid hLS
  clear hL0 hLS
  clear h40 hob hsz hn hr hpn hqn HGD
  go_upto_region 4 with (go_at_call 6; refine (HLV.out _ HB1.out).mono ?_; rintro e w3 ⟨rfl, hb⟩; have HV2 := hid (HV1.out.below hb (Nat.le_refl _)); have HN2 := hid (HN.out.below' hb); have HR2 := hid (HR.out.below' hb); have HB2 := hid (below_next HB1.out hb); clear hb )
  clear HV1 HN HR HB1
  go_upto_region 6 with (go_at_call 8; refine (quiet_any p l _ HN2.out HPN.out HOB.out HOK.out).mono ?_; rintro e w4 ⟨gq, rfl, hq, hb⟩; have HV3 := hid (HV2.out.below hb (Nat.le_refl _)); have HN3 := hid (HN2.out.below' hb); have HR3 := hid (HR2.out.below' hb); have HB3 := hid (below_next HB2.out hb); rw [HL0.out] at hq; have HQ := hid hq; clear hq; clear hb )
  clear HV2 HN2 HR2 HB2
  have hways : (ffin (fc by_) = false) ∨ (ffin (fc by_) = true ∧ srcsS (fun v => fmul v (fc by_)) l = true) ∨ (ffin (fc by_) = true ∧ srcsS (fun v => fmul v (fc by_)) l = false) := by
    cases ffin (fc by_) <;> cases srcsS (fun v => fmul v (fc by_)) l <;> simp
  rcases hways with hf | ⟨hf, hs⟩ | ⟨hf, hs⟩
  · have HF := hid hf
    clear hf
    go_upto_region 7 with (go_at_call 9; refine (scaled_any _ l by_ _ HN3.out HPN.out HOB.out HOK.out).mono ?_; intro e w5 hsc; rcases hsc with ⟨_, rfl, hb⟩ | ⟨h1, _⟩; rotate_left; exact absurd (HF.out.symm.trans h1) (by decide); have HV4 := hid (HV3.out.below hb (Nat.le_refl _)); have HN4 := hid (HN3.out.below' hb); have HR4 := hid (HR3.out.below' hb); have HQ4 := hid (HQ.out.below' hb); have HB4 := hid (below_next HB3.out hb); clear hb)
    clear HV3 HN3 HR3 HQ HB3
    go_upto_region 8 with (go_at_call 10; refine (rscaled_any _ l by_ _ HR4.out HQN.out HOB.out HOK.out).mono ?_; intro e w6 hsc; rcases hsc with ⟨_, rfl, hb⟩ | ⟨h1, _⟩; rotate_left; exact absurd (HF.out.symm.trans h1) (by decide); have HV5 := hid (HV4.out.below hb (Nat.le_refl _)); have HN5 := hid (HN4.out.below' hb); have HR5 := hid (HR4.out.below' hb); have HQ5 := hid (HQ4.out.below' hb); have HB5 := hid (below_next HB4.out hb); clear hb)
    clear HV4 HN4 HR4 HQ4 HB4
    have T1 := hid trivial
    have T2 := hid trivial
    have T3 := hid trivial
    have T4 := hid trivial
    have T5 := hid trivial
    have T6 := hid trivial
    have T7 := hid trivial
    have T8 := hid trivial
    have T9 := hid trivial
    go_upto_region 11 with fail
    go_wp2_with (first | (clear T1; go_at_call 13; refine (elements20_any _ ([] : List El) _ (.inl ⟨rfl, rfl⟩) (.inl rfl) (by simp)).mono ?_; rintro e w8 ⟨vKS, xKS, rfl, hown, rfl, hb⟩; have HV6 := hid (HV5.out.below hb (Nat.le_refl _)); have HN6 := hid (HN5.out.below' hb); have HR6 := hid (HR5.out.below' hb); have HQ6 := hid (HQ5.out.below' hb); have HB6 := hid (below_next HB5.out hb); have KS := hid (IsSl.of_own hown); obtain ⟨aKS, cKS, rfl⟩ := KS.out.form; clear hown; clear hb ) | (clear T2; go_at_call 12; refine (sameels_any _ _ ([] : List El) _ KS.out (IsSl.nil _ _) (by simp)).mono ?_; rintro e w9 ⟨rfl, hb⟩; have HV7 := hid (HV6.out.below hb (Nat.le_refl _)); have HN7 := hid (HN6.out.below' hb); have HR7 := hid (HR6.out.below' hb); have HQ7 := hid (HQ6.out.below' hb); have KS7 := hid (KS.out.below hb (Nat.le_refl _)); have HB7 := hid (below_next HB6.out hb); clear hb ) | (clear T3; go_at_call 13; refine (elements20_any _ L0 _ HQ7.out (.inr ⟨_, rfl⟩) HC0.out).mono ?_; rintro e w10 ⟨vKQ, xKQ, rfl, hown, rfl, hb⟩; have HV8 := hid (HV7.out.below hb (Nat.le_refl _)); have HN8 := hid (HN7.out.below' hb); have HR8 := hid (HR7.out.below' hb); have HQ8 := hid (HQ7.out.below' hb); have KS8 := hid (KS7.out.below hb (Nat.le_refl _)); have HB8 := hid (below_next HB7.out hb); have KQ := hid (IsSl.of_own hown); obtain ⟨aKQ, cKQ, rfl⟩ := KQ.out.form; clear hown; clear hb ) | (clear T4; go_at_call 14; refine (rquiet_any q l _ HR8.out HQN.out HOB.out HOK.out).mono ?_; rintro e w11 ⟨gr, rfl, hq, hb⟩; have HV9 := hid (HV8.out.below hb (Nat.le_refl _)); have HN9 := hid (HN8.out.below' hb); have HR9 := hid (HR8.out.below' hb); have HQ9 := hid (HQ8.out.below' hb); have KS9 := hid (KS8.out.below hb (Nat.le_refl _)); have KQ9 := hid (KQ.out.below hb (Nat.le_refl _)); have HB9 := hid (below_next HB8.out hb); rw [HL0.out] at hq; have HRQ := hid hq; clear hq; clear hb ) | (clear T5; go_at_call 11; refine (relements_any _ L0 _ HRQ.out (by have := HC0.out; omega)).mono ?_; rintro e w12 ⟨vKR, xKR, rfl, hown, rfl, hb⟩; have HV10 := hid (HV9.out.below hb (Nat.le_refl _)); have HN10 := hid (HN9.out.below' hb); have HR10 := hid (HR9.out.below' hb); have HQ10 := hid (HQ9.out.below' hb); have KS10 := hid (KS9.out.below hb (Nat.le_refl _)); have KQ10 := hid (KQ9.out.below hb (Nat.le_refl _)); have HRQ10 := hid (HRQ.out.below' hb); have HB10 := hid (below_next HB9.out hb); have KR := hid (IsSl.of_own hown); obtain ⟨aKR, cKR, rfl⟩ := KR.out.form; clear hown; clear hb ) | (clear T6; go_at_call 12; refine (sameels_any _ _ L0 _ KQ10.out KR.out HC0.out).mono ?_; rintro e w13 ⟨rfl, hb⟩; have HV11 := hid (HV10.out.below hb (Nat.le_refl _)); have HN11 := hid (HN10.out.below' hb); have HR11 := hid (HR10.out.below' hb); have HQ11 := hid (HQ10.out.below' hb); have KS11 := hid (KS10.out.below hb (Nat.le_refl _)); have KQ11 := hid (KQ10.out.below hb (Nat.le_refl _)); have HRQ11 := hid (HRQ10.out.below' hb); have KR11 := hid (KR.out.below hb (Nat.le_refl _)); have HB11 := hid (below_next HB10.out hb); clear hb ) | (clear T7; go_at_call 15; refine (nelements_any p l _ HN11.out HLN.out).mono ?_; rintro e w14 ⟨vKN, xKN, rfl, hown, rfl, hb⟩; have HV12 := hid (HV11.out.below hb (Nat.le_refl _)); have HN12 := hid (HN11.out.below' hb); have HR12 := hid (HR11.out.below' hb); have HQ12 := hid (HQ11.out.below' hb); have KS12 := hid (KS11.out.below hb (Nat.le_refl _)); have KQ12 := hid (KQ11.out.below hb (Nat.le_refl _)); have HRQ12 := hid (HRQ11.out.below' hb); have KR12 := hid (KR11.out.below hb (Nat.le_refl _)); have HB12 := hid (below_next HB11.out hb); have KN := hid (IsSl.of_own hown); obtain ⟨aKN, cKN, rfl⟩ := KN.out.form; clear hown; clear hb ) | (clear T8; go_at_call 16; refine (elements_any _ l _ HV12.out HLE.out).mono ?_; rintro e w15 ⟨vKO, xKO, rfl, hown, rfl, hb⟩; have HV13 := hid (HV12.out.below hb (Nat.le_refl _)); have HN13 := hid (HN12.out.below' hb); have HR13 := hid (HR12.out.below' hb); have HQ13 := hid (HQ12.out.below' hb); have KS13 := hid (KS12.out.below hb (Nat.le_refl _)); have KQ13 := hid (KQ12.out.below hb (Nat.le_refl _)); have HRQ13 := hid (HRQ12.out.below' hb); have KR13 := hid (KR12.out.below hb (Nat.le_refl _)); have KN13 := hid (KN.out.below hb (Nat.le_refl _)); have HB13 := hid (below_next HB12.out hb); have KO := hid (IsSl.of_own hown); obtain ⟨aKO, cKO, rfl⟩ := KO.out.form; clear hown; clear hb ) | (clear T9; go_at_call 12; refine (sameels_any _ _ l _ KN13.out KO.out HLN.out).mono ?_; rintro e w16 ⟨rfl, hb⟩; have HV14 := hid (HV13.out.below hb (Nat.le_refl _)); have HN14 := hid (HN13.out.below' hb); have HR14 := hid (HR13.out.below' hb); have HQ14 := hid (HQ13.out.below' hb); have KS14 := hid (KS13.out.below hb (Nat.le_refl _)); have KQ14 := hid (KQ13.out.below hb (Nat.le_refl _)); have HRQ14 := hid (HRQ13.out.below' hb); have KR14 := hid (KR13.out.below hb (Nat.le_refl _)); have KN14 := hid (KN13.out.below hb (Nat.le_refl _)); have KO14 := hid (KO.out.below hb (Nat.le_refl _)); have HB14 := hid (below_next HB13.out hb); clear hb ))
    (try simp only [Exit.inBlock, Exit.then])
    (try rw [Exit.noGoto_ret])
    go_ret
    exact ⟨rfl, HB14.out⟩
  · have HF := hid hf; have HSR := hid hs
    clear hf hs
    go_upto_region 7 with (go_at_call 9; refine (scaled_any _ l by_ _ HN3.out HPN.out HOB.out HOK.out).mono ?_; intro e w5 hsc; rcases hsc with ⟨h1, _⟩ | ⟨_, ⟨_, gs, rfl, hnn, hb⟩ | ⟨h1, _⟩⟩; exact absurd (HF.out.symm.trans h1) (by decide); rotate_left; exact absurd (HSR.out.symm.trans h1) (by decide); rw [HLS.out] at hnn; have Hgs := hid hnn; clear hnn; have HV4 := hid (HV3.out.below hb (Nat.le_refl _)); have HN4 := hid (HN3.out.below' hb); have HR4 := hid (HR3.out.below' hb); have HQ4 := hid (HQ.out.below' hb); have HB4 := hid (below_next HB3.out hb); clear hb)
    clear HV3 HN3 HR3 HQ HB3
    go_upto_region 8 with (go_at_call 10; refine (rscaled_any _ l by_ _ HR4.out HQN.out HOB.out HOK.out).mono ?_; intro e w6 hsc; rcases hsc with ⟨h1, _⟩ | ⟨_, ⟨_, gt, rfl, hnn, hb⟩ | ⟨h1, _⟩⟩; exact absurd (HF.out.symm.trans h1) (by decide); rotate_left; exact absurd (HSR.out.symm.trans h1) (by decide); rw [HLS.out] at hnn; have Hgt := hid hnn; clear hnn; have HV5 := hid (HV4.out.below hb (Nat.le_refl _)); have HN5 := hid (HN4.out.below' hb); have HR5 := hid (HR4.out.below' hb); have HQ5 := hid (HQ4.out.below' hb); have Hgs5 := hid (Hgs.out.below' hb); have HB5 := hid (below_next HB4.out hb); clear hb)
    clear HV4 HN4 HR4 HQ4 Hgs HB4
    have T1 := hid trivial
    have T2 := hid trivial
    have T3 := hid trivial
    have T4 := hid trivial
    have T5 := hid trivial
    have T6 := hid trivial
    have T7 := hid trivial
    have T8 := hid trivial
    have T9 := hid trivial
    go_upto_region 10 with fail
    go_upto_region 11 with (go_at_call 11; refine (relements_any _ LS _ Hgt.out (by have := HCS.out; omega)).mono ?_; rintro e w7 ⟨vKW, xKW, rfl, hown, rfl, hb⟩; have HV6 := hid (HV5.out.below hb (Nat.le_refl _)); have HN6 := hid (HN5.out.below' hb); have HR6 := hid (HR5.out.below' hb); have HQ6 := hid (HQ5.out.below' hb); have Hgs6 := hid (Hgs5.out.below' hb); have Hgt6 := hid (Hgt.out.below' hb); have HB6 := hid (below_next HB5.out hb); have KW := hid (IsSl.of_own hown); obtain ⟨aKW, cKW, rfl⟩ := KW.out.form; clear hown; clear hb )
    clear HV5 HN5 HR5 HQ5 Hgs5 Hgt HB5
    go_wp2_with (first | (clear T1; go_at_call 13; refine (elements20_any _ LS _ Hgs6.out (.inr ⟨_, rfl⟩) HCS.out).mono ?_; rintro e w8 ⟨vKS, xKS, rfl, hown, rfl, hb⟩; have HV7 := hid (HV6.out.below hb (Nat.le_refl _)); have HN7 := hid (HN6.out.below' hb); have HR7 := hid (HR6.out.below' hb); have HQ7 := hid (HQ6.out.below' hb); have Hgs7 := hid (Hgs6.out.below' hb); have Hgt7 := hid (Hgt6.out.below' hb); have KW7 := hid (KW.out.below hb (Nat.le_refl _)); have HB7 := hid (below_next HB6.out hb); have KS := hid (IsSl.of_own hown); obtain ⟨aKS, cKS, rfl⟩ := KS.out.form; clear hown; clear hb ) | (clear T2; go_at_call 12; refine (sameels_any _ _ LS _ KS.out KW7.out HCS.out).mono ?_; rintro e w9 ⟨rfl, hb⟩; have HV8 := hid (HV7.out.below hb (Nat.le_refl _)); have HN8 := hid (HN7.out.below' hb); have HR8 := hid (HR7.out.below' hb); have HQ8 := hid (HQ7.out.below' hb); have Hgs8 := hid (Hgs7.out.below' hb); have Hgt8 := hid (Hgt7.out.below' hb); have KW8 := hid (KW7.out.below hb (Nat.le_refl _)); have KS8 := hid (KS.out.below hb (Nat.le_refl _)); have HB8 := hid (below_next HB7.out hb); clear hb ) | (clear T3; go_at_call 13; refine (elements20_any _ L0 _ HQ8.out (.inr ⟨_, rfl⟩) HC0.out).mono ?_; rintro e w10 ⟨vKQ, xKQ, rfl, hown, rfl, hb⟩; have HV9 := hid (HV8.out.below hb (Nat.le_refl _)); have HN9 := hid (HN8.out.below' hb); have HR9 := hid (HR8.out.below' hb); have HQ9 := hid (HQ8.out.below' hb); have Hgs9 := hid (Hgs8.out.below' hb); have Hgt9 := hid (Hgt8.out.below' hb); have KW9 := hid (KW8.out.below hb (Nat.le_refl _)); have KS9 := hid (KS8.out.below hb (Nat.le_refl _)); have HB9 := hid (below_next HB8.out hb); have KQ := hid (IsSl.of_own hown); obtain ⟨aKQ, cKQ, rfl⟩ := KQ.out.form; clear hown; clear hb ) | (clear T4; go_at_call 14; refine (rquiet_any q l _ HR9.out HQN.out HOB.out HOK.out).mono ?_; rintro e w11 ⟨gr, rfl, hq, hb⟩; have HV10 := hid (HV9.out.below hb (Nat.le_refl _)); have HN10 := hid (HN9.out.below' hb); have HR10 := hid (HR9.out.below' hb); have HQ10 := hid (HQ9.out.below' hb); have Hgs10 := hid (Hgs9.out.below' hb); have Hgt10 := hid (Hgt9.out.below' hb); have KW10 := hid (KW9.out.below hb (Nat.le_refl _)); have KS10 := hid (KS9.out.below hb (Nat.le_refl _)); have KQ10 := hid (KQ.out.below hb (Nat.le_refl _)); have HB10 := hid (below_next HB9.out hb); rw [HL0.out] at hq; have HRQ := hid hq; clear hq; clear hb ) | (clear T5; go_at_call 11; refine (relements_any _ L0 _ HRQ.out (by have := HC0.out; omega)).mono ?_; rintro e w12 ⟨vKR, xKR, rfl, hown, rfl, hb⟩; have HV11 := hid (HV10.out.below hb (Nat.le_refl _)); have HN11 := hid (HN10.out.below' hb); have HR11 := hid (HR10.out.below' hb); have HQ11 := hid (HQ10.out.below' hb); have Hgs11 := hid (Hgs10.out.below' hb); have Hgt11 := hid (Hgt10.out.below' hb); have KW11 := hid (KW10.out.below hb (Nat.le_refl _)); have KS11 := hid (KS10.out.below hb (Nat.le_refl _)); have KQ11 := hid (KQ10.out.below hb (Nat.le_refl _)); have HRQ11 := hid (HRQ.out.below' hb); have HB11 := hid (below_next HB10.out hb); have KR := hid (IsSl.of_own hown); obtain ⟨aKR, cKR, rfl⟩ := KR.out.form; clear hown; clear hb ) | (clear T6; go_at_call 12; refine (sameels_any _ _ L0 _ KQ11.out KR.out HC0.out).mono ?_; rintro e w13 ⟨rfl, hb⟩; have HV12 := hid (HV11.out.below hb (Nat.le_refl _)); have HN12 := hid (HN11.out.below' hb); have HR12 := hid (HR11.out.below' hb); have HQ12 := hid (HQ11.out.below' hb); have Hgs12 := hid (Hgs11.out.below' hb); have Hgt12 := hid (Hgt11.out.below' hb); have KW12 := hid (KW11.out.below hb (Nat.le_refl _)); have KS12 := hid (KS11.out.below hb (Nat.le_refl _)); have KQ12 := hid (KQ11.out.below hb (Nat.le_refl _)); have HRQ12 := hid (HRQ11.out.below' hb); have KR12 := hid (KR.out.below hb (Nat.le_refl _)); have HB12 := hid (below_next HB11.out hb); clear hb ) | (clear T7; go_at_call 15; refine (nelements_any p l _ HN12.out HLN.out).mono ?_; rintro e w14 ⟨vKN, xKN, rfl, hown, rfl, hb⟩; have HV13 := hid (HV12.out.below hb (Nat.le_refl _)); have HN13 := hid (HN12.out.below' hb); have HR13 := hid (HR12.out.below' hb); have HQ13 := hid (HQ12.out.below' hb); have Hgs13 := hid (Hgs12.out.below' hb); have Hgt13 := hid (Hgt12.out.below' hb); have KW13 := hid (KW12.out.below hb (Nat.le_refl _)); have KS13 := hid (KS12.out.below hb (Nat.le_refl _)); have KQ13 := hid (KQ12.out.below hb (Nat.le_refl _)); have HRQ13 := hid (HRQ12.out.below' hb); have KR13 := hid (KR12.out.below hb (Nat.le_refl _)); have HB13 := hid (below_next HB12.out hb); have KN := hid (IsSl.of_own hown); obtain ⟨aKN, cKN, rfl⟩ := KN.out.form; clear hown; clear hb ) | (clear T8; go_at_call 16; refine (elements_any _ l _ HV13.out HLE.out).mono ?_; rintro e w15 ⟨vKO, xKO, rfl, hown, rfl, hb⟩; have HV14 := hid (HV13.out.below hb (Nat.le_refl _)); have HN14 := hid (HN13.out.below' hb); have HR14 := hid (HR13.out.below' hb); have HQ14 := hid (HQ13.out.below' hb); have Hgs14 := hid (Hgs13.out.below' hb); have Hgt14 := hid (Hgt13.out.below' hb); have KW14 := hid (KW13.out.below hb (Nat.le_refl _)); have KS14 := hid (KS13.out.below hb (Nat.le_refl _)); have KQ14 := hid (KQ13.out.below hb (Nat.le_refl _)); have HRQ14 := hid (HRQ13.out.below' hb); have KR14 := hid (KR13.out.below hb (Nat.le_refl _)); have KN14 := hid (KN.out.below hb (Nat.le_refl _)); have HB14 := hid (below_next HB13.out hb); have KO := hid (IsSl.of_own hown); obtain ⟨aKO, cKO, rfl⟩ := KO.out.form; clear hown; clear hb ) | (clear T9; go_at_call 12; refine (sameels_any _ _ l _ KN14.out KO.out HLN.out).mono ?_; rintro e w16 ⟨rfl, hb⟩; have HV15 := hid (HV14.out.below hb (Nat.le_refl _)); have HN15 := hid (HN14.out.below' hb); have HR15 := hid (HR14.out.below' hb); have HQ15 := hid (HQ14.out.below' hb); have Hgs15 := hid (Hgs14.out.below' hb); have Hgt15 := hid (Hgt14.out.below' hb); have KW15 := hid (KW14.out.below hb (Nat.le_refl _)); have KS15 := hid (KS14.out.below hb (Nat.le_refl _)); have KQ15 := hid (KQ14.out.below hb (Nat.le_refl _)); have HRQ15 := hid (HRQ14.out.below' hb); have KR15 := hid (KR14.out.below hb (Nat.le_refl _)); have KN15 := hid (KN14.out.below hb (Nat.le_refl _)); have KO15 := hid (KO.out.below hb (Nat.le_refl _)); have HB15 := hid (below_next HB14.out hb); clear hb ))
    (try simp only [Exit.inBlock, Exit.then])
    (try rw [Exit.noGoto_ret])
    go_ret
    exact ⟨rfl, HB15.out⟩
  · have HF := hid hf; have HSR := hid hs
    clear hf hs
    go_upto_region 7 with (go_at_call 9; refine (scaled_any _ l by_ _ HN3.out HPN.out HOB.out HOK.out).mono ?_; intro e w5 hsc; rcases hsc with ⟨h1, _⟩ | ⟨_, ⟨h1, _⟩ | ⟨_, rfl, hb⟩⟩; exact absurd (HF.out.symm.trans h1) (by decide); exact absurd (HSR.out.symm.trans h1) (by decide); have HV4 := hid (HV3.out.below hb (Nat.le_refl _)); have HN4 := hid (HN3.out.below' hb); have HR4 := hid (HR3.out.below' hb); have HQ4 := hid (HQ.out.below' hb); have HB4 := hid (below_next HB3.out hb); clear hb)
    clear HV3 HN3 HR3 HQ HB3
    go_upto_region 8 with (go_at_call 10; refine (rscaled_any _ l by_ _ HR4.out HQN.out HOB.out HOK.out).mono ?_; intro e w6 hsc; rcases hsc with ⟨h1, _⟩ | ⟨_, ⟨h1, _⟩ | ⟨_, rfl, hb⟩⟩; exact absurd (HF.out.symm.trans h1) (by decide); exact absurd (HSR.out.symm.trans h1) (by decide); have HV5 := hid (HV4.out.below hb (Nat.le_refl _)); have HN5 := hid (HN4.out.below' hb); have HR5 := hid (HR4.out.below' hb); have HQ5 := hid (HQ4.out.below' hb); have HB5 := hid (below_next HB4.out hb); clear hb)
    clear HV4 HN4 HR4 HQ4 HB4
    have T1 := hid trivial
    have T2 := hid trivial
    have T3 := hid trivial
    have T4 := hid trivial
    have T5 := hid trivial
    have T6 := hid trivial
    have T7 := hid trivial
    have T8 := hid trivial
    have T9 := hid trivial
    go_upto_region 11 with fail
    go_wp2_with (first | (clear T1; go_at_call 13; refine (elements20_any _ ([] : List El) _ (.inl ⟨rfl, rfl⟩) (.inl rfl) (by simp)).mono ?_; rintro e w8 ⟨vKS, xKS, rfl, hown, rfl, hb⟩; have HV6 := hid (HV5.out.below hb (Nat.le_refl _)); have HN6 := hid (HN5.out.below' hb); have HR6 := hid (HR5.out.below' hb); have HQ6 := hid (HQ5.out.below' hb); have HB6 := hid (below_next HB5.out hb); have KS := hid (IsSl.of_own hown); obtain ⟨aKS, cKS, rfl⟩ := KS.out.form; clear hown; clear hb ) | (clear T2; go_at_call 12; refine (sameels_any _ _ ([] : List El) _ KS.out (IsSl.nil _ _) (by simp)).mono ?_; rintro e w9 ⟨rfl, hb⟩; have HV7 := hid (HV6.out.below hb (Nat.le_refl _)); have HN7 := hid (HN6.out.below' hb); have HR7 := hid (HR6.out.below' hb); have HQ7 := hid (HQ6.out.below' hb); have KS7 := hid (KS.out.below hb (Nat.le_refl _)); have HB7 := hid (below_next HB6.out hb); clear hb ) | (clear T3; go_at_call 13; refine (elements20_any _ L0 _ HQ7.out (.inr ⟨_, rfl⟩) HC0.out).mono ?_; rintro e w10 ⟨vKQ, xKQ, rfl, hown, rfl, hb⟩; have HV8 := hid (HV7.out.below hb (Nat.le_refl _)); have HN8 := hid (HN7.out.below' hb); have HR8 := hid (HR7.out.below' hb); have HQ8 := hid (HQ7.out.below' hb); have KS8 := hid (KS7.out.below hb (Nat.le_refl _)); have HB8 := hid (below_next HB7.out hb); have KQ := hid (IsSl.of_own hown); obtain ⟨aKQ, cKQ, rfl⟩ := KQ.out.form; clear hown; clear hb ) | (clear T4; go_at_call 14; refine (rquiet_any q l _ HR8.out HQN.out HOB.out HOK.out).mono ?_; rintro e w11 ⟨gr, rfl, hq, hb⟩; have HV9 := hid (HV8.out.below hb (Nat.le_refl _)); have HN9 := hid (HN8.out.below' hb); have HR9 := hid (HR8.out.below' hb); have HQ9 := hid (HQ8.out.below' hb); have KS9 := hid (KS8.out.below hb (Nat.le_refl _)); have KQ9 := hid (KQ.out.below hb (Nat.le_refl _)); have HB9 := hid (below_next HB8.out hb); rw [HL0.out] at hq; have HRQ := hid hq; clear hq; clear hb ) | (clear T5; go_at_call 11; refine (relements_any _ L0 _ HRQ.out (by have := HC0.out; omega)).mono ?_; rintro e w12 ⟨vKR, xKR, rfl, hown, rfl, hb⟩; have HV10 := hid (HV9.out.below hb (Nat.le_refl _)); have HN10 := hid (HN9.out.below' hb); have HR10 := hid (HR9.out.below' hb); have HQ10 := hid (HQ9.out.below' hb); have KS10 := hid (KS9.out.below hb (Nat.le_refl _)); have KQ10 := hid (KQ9.out.below hb (Nat.le_refl _)); have HRQ10 := hid (HRQ.out.below' hb); have HB10 := hid (below_next HB9.out hb); have KR := hid (IsSl.of_own hown); obtain ⟨aKR, cKR, rfl⟩ := KR.out.form; clear hown; clear hb ) | (clear T6; go_at_call 12; refine (sameels_any _ _ L0 _ KQ10.out KR.out HC0.out).mono ?_; rintro e w13 ⟨rfl, hb⟩; have HV11 := hid (HV10.out.below hb (Nat.le_refl _)); have HN11 := hid (HN10.out.below' hb); have HR11 := hid (HR10.out.below' hb); have HQ11 := hid (HQ10.out.below' hb); have KS11 := hid (KS10.out.below hb (Nat.le_refl _)); have KQ11 := hid (KQ10.out.below hb (Nat.le_refl _)); have HRQ11 := hid (HRQ10.out.below' hb); have KR11 := hid (KR.out.below hb (Nat.le_refl _)); have HB11 := hid (below_next HB10.out hb); clear hb ) | (clear T7; go_at_call 15; refine (nelements_any p l _ HN11.out HLN.out).mono ?_; rintro e w14 ⟨vKN, xKN, rfl, hown, rfl, hb⟩; have HV12 := hid (HV11.out.below hb (Nat.le_refl _)); have HN12 := hid (HN11.out.below' hb); have HR12 := hid (HR11.out.below' hb); have HQ12 := hid (HQ11.out.below' hb); have KS12 := hid (KS11.out.below hb (Nat.le_refl _)); have KQ12 := hid (KQ11.out.below hb (Nat.le_refl _)); have HRQ12 := hid (HRQ11.out.below' hb); have KR12 := hid (KR11.out.below hb (Nat.le_refl _)); have HB12 := hid (below_next HB11.out hb); have KN := hid (IsSl.of_own hown); obtain ⟨aKN, cKN, rfl⟩ := KN.out.form; clear hown; clear hb ) | (clear T8; go_at_call 16; refine (elements_any _ l _ HV12.out HLE.out).mono ?_; rintro e w15 ⟨vKO, xKO, rfl, hown, rfl, hb⟩; have HV13 := hid (HV12.out.below hb (Nat.le_refl _)); have HN13 := hid (HN12.out.below' hb); have HR13 := hid (HR12.out.below' hb); have HQ13 := hid (HQ12.out.below' hb); have KS13 := hid (KS12.out.below hb (Nat.le_refl _)); have KQ13 := hid (KQ12.out.below hb (Nat.le_refl _)); have HRQ13 := hid (HRQ12.out.below' hb); have KR13 := hid (KR12.out.below hb (Nat.le_refl _)); have KN13 := hid (KN.out.below hb (Nat.le_refl _)); have HB13 := hid (below_next HB12.out hb); have KO := hid (IsSl.of_own hown); obtain ⟨aKO, cKO, rfl⟩ := KO.out.form; clear hown; clear hb ) | (clear T9; go_at_call 12; refine (sameels_any _ _ l _ KN13.out KO.out HLN.out).mono ?_; rintro e w16 ⟨rfl, hb⟩; have HV14 := hid (HV13.out.below hb (Nat.le_refl _)); have HN14 := hid (HN13.out.below' hb); have HR14 := hid (HR13.out.below' hb); have HQ14 := hid (HQ13.out.below' hb); have KS14 := hid (KS13.out.below hb (Nat.le_refl _)); have KQ14 := hid (KQ13.out.below hb (Nat.le_refl _)); have HRQ14 := hid (HRQ13.out.below' hb); have KR14 := hid (KR13.out.below hb (Nat.le_refl _)); have KN14 := hid (KN13.out.below hb (Nat.le_refl _)); have KO14 := hid (KO.out.below hb (Nat.le_refl _)); have HB14 := hid (below_next HB13.out hb); clear hb ))
    (try simp only [Exit.inBlock, Exit.then])
    (try rw [Exit.noGoto_ret])
    go_ret
    exact ⟨rfl, HB14.out⟩
end Go.Proofs.YtjeedckmkicnoaaGreatDoor
