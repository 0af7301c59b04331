/- WaveTones walked: of every tones, step and number Sample, Row and Period of the package and of the reference are the same. -/
import Derived.Test.YtlgfpfjfoajjbaaRowsW
import Derived.Test.YtlgfpfjfoajjbaaApartReals
import Derived.Test.YtlgfpfjfoajjbaaOwns
import Derived.Deep.Onto
namespace Go.Proofs.Ytlgfpfjfoajjbaa
open Go.RowKit

theorem samereal_eq (a b : Nat) (h : fc a = fc b) (w : World) : Calls Try.prog 29 #[.float .f64 a, .float .f64 b] w fun e w' => e = .returned (.bool true) ∧ w = w' :=
  (samereal_any a b w).mono fun _ _ ⟨he, hw⟩ => ⟨by rw [he, h]; simp, hw⟩
theorem dis_new {w w1 : World} {B e s n m e' s' : Nat} {va vb : Value} {xs ys : List Value} (ha : w.ownsRow B e s va n xs) (hb : w1.ownsRow w.heap.size e' s' vb m ys) : Dis va vb :=
  fun g h1 h2 => by have := (ha.lt g h1).2; have := (hb.lt g h2).1; omega
theorem rowSpec_len (l : List Tn) (n : Int) : (rowSpec l n).1.length ≤ 65536 := by
  unfold rowSpec
  split
  · simp
  · simp [smps_len]; omega

set_option maxRecDepth 100000 in
set_option maxHeartbeats 2000000 in
theorem wtones_walk (v : Value) (l : List Tn) (t n : Int) (w : World) (hv : InSl w 3 v l.length (l.flatMap tz)) (hl : l.length * 24 ≤ 140737488351232) :
    Calls Try.prog 6 #[v, .int .i64 t, .int .i64 n] w fun e w' => e = .returned (.bool true) ∧ Below w.heap.size w w' := by
  obtain ⟨a, k0, rfl⟩ := hv.form
  have hll : l.length ≤ 140737488355328 := by omega
  have HV := hid hv
  clear hv
  go_enter Try.func6, Try.ntmps6
  go_wp2_with fail
  refine (tones_any _ l _ HV.out hl).mono ?_
  rintro e w1 ⟨v1, xs, rfl, hown1, rfl, hb1⟩
  have HS1 := hid (IsSl.of_own hown1)
  have HV1 := hid (HV.out.below hb1 (Nat.le_refl _))
  have HB1 := hid hb1
  clear hown1 hb1 HV
  go_wp2_with fail
  refine (tones_any _ l _ HV1.out hl).mono ?_
  rintro e w2 ⟨v2, xs, rfl, hown2, rfl, hb2⟩
  have HT2 := hid (IsSl.of_own hown2)
  have HS2 := hid (HS1.out.below hb2 (Nat.le_refl _))
  have HB2 := hid (below_step HB1.out hb2)
  clear hown2 hb2 HV1 HS1 HB1
  go_wp2_with fail
  refine (wsample_any _ l t _ HT2.out hll).mono ?_
  rintro e w3 ⟨v3, rfl, hb3, r3, rfl, hr3⟩
  have HT3 := hid (HT2.out.below hb3 (Nat.le_refl _))
  have HS3 := hid (HS2.out.below hb3 (Nat.le_refl _))
  have HB3 := hid (below_step HB2.out hb3)
  have HR3 := hid hr3
  clear hb3 hr3 HT2 HS2 HB2
  go_wp2_with fail
  refine (rsample_any _ l t _ HS3.out hll).mono ?_
  rintro e w4 ⟨v4, rfl, hb4, r4, rfl, hr4⟩
  have HT4 := hid (HT3.out.below hb4 (Nat.le_refl _))
  have HS4 := hid (HS3.out.below hb4 (Nat.le_refl _))
  have HB4 := hid (below_step HB3.out hb4)
  have HR4 := hid (HR3.out.trans hr4.symm)
  clear hb4 hr4 HT3 HS3 HB3 HR3
  go_wp2_with fail
  refine (samereal_eq _ _ HR4.out _).mono ?_
  rintro e w5 ⟨rfl, rfl⟩
  go_wp2_with fail
  refine (wperiod_any _ l _ HT4.out hll).mono ?_
  rintro e w5 ⟨v5, rfl, hb5, p5, rfl, hp5⟩
  have HT5 := hid (HT4.out.below hb5 (Nat.le_refl _))
  have HS5 := hid (HS4.out.below hb5 (Nat.le_refl _))
  have HB5 := hid (below_step HB4.out hb5)
  have HP5 := hid hp5
  clear hb5 hp5 HT4 HS4 HB4 HR4
  go_wp2_with fail
  refine (rperiod_any _ l _ HS5.out hll).mono ?_
  rintro e w6 ⟨v6, rfl, hb6, p6, rfl, hp6⟩
  have HT6 := hid (HT5.out.below hb6 (Nat.le_refl _))
  have HS6 := hid (HS5.out.below hb6 (Nat.le_refl _))
  have HB6 := hid (below_step HB5.out hb6)
  obtain rfl := HP5.out.eq hp6
  clear hb6 hp6 HT5 HS5 HB5 HP5
  by_cases hskip : 5000 < n ∧ n ≤ 65536
  · obtain ⟨hk1, hk2⟩ := hskip
    go_wp2_with fail
    go_ret
    exact ⟨rfl, HB6.out⟩
  · have hguard : (¬ 5000 < n) ∨ (5000 < n ∧ ¬ n ≤ 65536) := by omega
    clear hskip
    rcases hguard with hg | ⟨hg, hg2⟩
    all_goals
      go_wp2_with fail
      refine (wrow_any _ l n _ HT6.out hll).mono ?_
      rintro e w7 ⟨v7, k7, xa, rfl, hoa, hsa, hb7⟩
      obtain ⟨aa, ca, ha⟩ := (IsSl.of_own hoa).form
      subst ha
      have HT7 := hid (HT6.out.below hb7 (Nat.le_refl _))
      have HS7 := hid (HS6.out.below hb7 (Nat.le_refl _))
      have HB7 := hid (below_step HB6.out hb7)
      have HOA := hid hoa
      have HSA := hid hsa
      clear hb7 hoa hsa
      go_wp2_with fail
      refine (wrow_any _ l n _ HT7.out hll).mono ?_
      rintro e w8 ⟨v8, k8, xb, rfl, hob, hsb, hb8⟩
      obtain ⟨ab, cb, hb⟩ := (IsSl.of_own hob).form
      subst hb
      have HT8 := hid (HT7.out.below hb8 (Nat.le_refl _))
      have HS8 := hid (HS7.out.below hb8 (Nat.le_refl _))
      have HB8 := hid (below_step HB7.out hb8)
      have HD := hid (dis_new HOA.out hob)
      have HOA8 := hid (own_none HOA.out (grown_of_below hb8 _))
      have HOB := hid hob
      have HSB := hid hsb
      clear hb8 hob hsb
      go_wp2_with fail
      refine (rrow_any _ l n _ HS8.out hll).mono ?_
      rintro e w9 ⟨v9, k9, xc, rfl, hoc, hsc, hb9⟩
      obtain ⟨ac, cc, hc⟩ := (IsSl.of_own hoc).form
      subst hc
      have HT9 := hid (HT8.out.below hb9 (Nat.le_refl _))
      have HS9 := hid (HS8.out.below hb9 (Nat.le_refl _))
      have HB9 := hid (below_step HB8.out hb9)
      have HOA9 := hid (World.ownsRow.mono (own_none HOA8.out (grown_of_below hb9 _)) HB6.out.size)
      have HOB9 := hid (World.ownsRow.mono (own_none HOB.out (grown_of_below hb9 _)) HB7.out.size)
      have HSLA := hid (IsSl.of_own HOA9.out)
      have HSLB := hid (IsSl.of_own HOB9.out)
      have HSLC := hid (IsSl.of_own hoc)
      have ea := HSA.out.trans hsc.symm
      have eb := HSB.out.trans hsc.symm
      have hlc : xc.length ≤ 65536 := by have := rowSpec_len l n; rw [← hsc] at this; simpa using this
      obtain ⟨ea1, ea2⟩ := Prod.mk.inj ea
      obtain ⟨eb1, eb2⟩ := Prod.mk.inj eb
      subst ea2 eb2
      have hla : xa.length ≤ 65536 := by have := congrArg List.length ea1; simp at this; omega
      have hlb : xb.length ≤ 65536 := by have := congrArg List.length eb1; simp at this; omega
      have EA := hid ea1
      have EB := hid eb1
      clear hb9 hoc hsc ea eb ea1 eb1 HSA HSB HT7 HS7 HT8 HS8 HB7 HB8 HOA HOA8 HOB
      go_wp2_with (first
        | (go_at_call 13; refine (samereals_any _ _ xa xc _ (by exact HSLA.out) (by exact HSLC.out) (by omega) (by omega)).mono ?_; rintro e w' ⟨v, n1, rfl, rfl, rfl⟩; rw [EA.out]; rw [beq_self_eq_true])
        | (go_at_call 13; refine (samereals_any _ _ xb xc _ (by exact HSLB.out) (by exact HSLC.out) (by omega) (by omega)).mono ?_; rintro e w' ⟨v, n2, rfl, rfl, rfl⟩; rw [EB.out]; rw [beq_self_eq_true])
        | (go_at_call 36; refine (sametones_true _ _ l _ (by exact HT9.out) (by exact HS9.out) hll).mono ?_; rintro e w' ⟨v, n3, rfl, rfl, rfl⟩))
      have hfam := fam2 (mk := Value.float .f64) (ST := 24) (w1 := w9.drewN (n1 + n2 + n3)) (below_n HB9.out _) HB9.out.size (la := xa) (lb := xb) (by exact HOA9.out) (by exact HOB9.out) HD.out
      refine (apartreals_any w.heap.size 2 _ _ _ _ _ w (by omega) (fun j hj => ?_) hfam.1 hfam.2).mono ?_
      · obtain rfl | rfl : j = 0 ∨ j = 1 := by omega
        · show (xa.length + 6) * 8 ≤ _; omega
        · show (xb.length + 6) * 8 ≤ _; omega
      · rintro e w' ⟨rfl, hbf⟩
        go_wp2_with fail
        go_ret
        exact ⟨ret_bool (by simp), hbf⟩
end Go.Proofs.Ytlgfpfjfoajjbaa
