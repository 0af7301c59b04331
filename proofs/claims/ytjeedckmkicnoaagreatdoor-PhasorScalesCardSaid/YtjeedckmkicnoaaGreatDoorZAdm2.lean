/- a part of the proof of the last text -/
import Derived.Test.YtjeedckmkicnoaaGreatDoorZAdm
namespace Go.Proofs.YtjeedckmkicnoaaGreatDoor
set_option linter.all false
set_option maxHeartbeats 4000000
set_option maxRecDepth 100000
open Go.RowKit
theorem cfin_left (x : Nat) : cfin (x, fc 0) = ffin x := by unfold cfin; simp only; rw [fin_zero, Bool.and_true]
theorem cfin_right (x : Nat) : cfin (fc 0, x) = ffin x := by unfold cfin; simp only; rw [fin_zero, Bool.true_and]
theorem told_fin (x : Nat) : toldS false x true = fin6 (x, fc 0) := by unfold toldS fin6; rw [cfin_left]; rfl
theorem told_im {x : Nat} {b : Bool} : toldS true x b = if b = true then fin6 (fc 0, x) else ((fc 0, fc 0), 6) := by
  unfold toldS fin6
  rw [cfin_right]
  cases b <;> simp
theorem told_w (x : Nat) : toldS true x (ffin x) = fin6 (fc 0, x) := by
  rw [told_im]
  cases h : ffin x
  · rw [fin6_no (by rw [cfin_right]; exact h)]; rfl
  · rfl
theorem admB_1 {e : El} {o : Nat} (h : (e.kind == 1 || e.kind == 8) = true) : admB e o = fin6 (fdiv fone (fc e.val), fc 0) := by unfold admB; rw [if_pos h]
theorem admB_2 {e : El} {o : Nat} (h : (e.kind == 1 || e.kind == 8) = false) (h2 : (e.kind == 2) = true) : admB e o = if ffin (fmul (fc o) (fc e.val)) = true then fin6 (fc 0, fneg (fdiv fone (fmul (fc o) (fc e.val)))) else ((fc 0, fc 0), 6) := by unfold admB; rw [if_neg (by rw [h]; decide), if_pos h2]
theorem admB_3 {e : El} {o : Nat} (h : (e.kind == 1 || e.kind == 8) = false) (h2 : (e.kind == 2) = false) : admB e o = fin6 (fc 0, fmul (fc o) (fc e.val)) := by unfold admB; rw [if_neg (by rw [h]; decide), if_neg (by rw [h2]; decide)]
set_option maxRecDepth 100000 in
set_option maxHeartbeats 2000000 in
theorem reckon_any (x : El) (o : Nat) (w : World) (hx : x.Ok) :
    Calls Tryz.prog 118 #[.agg #[.int .u8 x.kind, .string x.name, .string x.a, .string x.b, .string x.c, .string x.d, .float .f64 x.val, .int .i64 x.ph], .float .f64 o, .bool true] w (RetB (IsCE (admS x o)) w) := by
  have HX := hid hx
  have hbx := heap_alloc_new w (.cells #[.int .u8 x.kind, .string x.name, .string x.a, .string x.b, .string x.c, .string x.d, .float .f64 x.val, .int .i64 x.ph] 81)
  have hbw := (Below.refl w.heap.size w).alloc (Nat.le_refl _) (.cells #[.int .u8 x.kind, .string x.name, .string x.a, .string x.b, .string x.c, .string x.d, .float .f64 x.val, .int .i64 x.ph] 81)
  obtain ⟨hbc, fb⟩ := block_cells hbx
  have b0 := hbc 0 _ rfl
  have b1 := hbc 1 _ rfl
  have b2 := hbc 2 _ rfl
  have b3 := hbc 3 _ rfl
  have b4 := hbc 4 _ rfl
  have b5 := hbc 5 _ rfl
  have b6 := hbc 6 _ rfl
  have b7 := hbc 7 _ rfl
  have HBX := hid hbx
  have HBW := hid hbw
  clear hbc fb hbx hbw hx
  have hn := fun (x : Nat) (w : World) => run_negf (P := Tryz.prog) x w
  go_enter Tryz.func118, Tryz.ntmps118
  go_upto_region 1 with fail
  generalize w.alloc (.cells #[.int .u8 x.kind, .string x.name, .string x.a, .string x.b, .string x.c, .string x.d, .float .f64 x.val, .int .i64 x.ph] 81) = w1 at *
  by_cases ha : angE o = 0
  · have HA := hid ha
    go_upto_region 4 with (go_at_call 131; refine (tang_any _ _).mono ?_; rintro e w' ⟨v, n, rfl, rfl, rfl⟩; rw [HA.out])
    by_cases hc : checkE x = 0
    · have HC := hid hc
      go_upto_region 5 with (go_at_call 60; refine (vcheck_any x _ HX.out).mono ?_; rintro en w2 ⟨rfl, hb2⟩; rw [HC.out]; have HB2 := hid (below_next (below_n HBW.out _) hb2); have HBX2 := hid (heap_later2 hb2 (show (w1.drewN n).heap[w.heap.size]? = _ from HBX.out)); clear hb2)
      clear b0 b1 b2 b3 b4 b5 b6 b7
      obtain ⟨hbc, fb⟩ := block_cells HBX2.out
      have b0 := hbc 0 _ rfl
      have b1 := hbc 1 _ rfl
      have b2 := hbc 2 _ rfl
      have b3 := hbc 3 _ rfl
      have b4 := hbc 4 _ rfl
      have b5 := hbc 5 _ rfl
      have b6 := hbc 6 _ rfl
      have b7 := hbc 7 _ rfl
      clear hbc fb
      go_upto_region 9 with (refine wpList_float rfl _ _ _ _ _ rfl rfl _ _ rfl rfl ?_; intro r1 n1 hr1; have HR1 := hid hr1; clear hr1)
      rcases ad_ways x with ⟨h1, h1'⟩ | ⟨h1, h1', h8, h8'⟩ | ⟨h1, h1', h8, h8', h2, h2', h3, h3'⟩ | ⟨h1, h1', h8, h8', h2, h2', h3, h3'⟩ | ⟨h1, h1', h8, h8', h2, h2', h3, h3'⟩
      · go_upto_region 22 with (refine wpList_float rfl _ _ _ _ _ rfl rfl _ _ rfl rfl ?_; intro r2 n2 hr2; have HR2 := hid hr2; clear hr2)
        cases hz : cfin ((fop .quo (fc 4607182418800017408) (fc x.val)), fc 0)
        · have HZ := hid hz
          clear hz
          go_wp2_with (first | (refine wpList_float rfl _ _ _ _ _ rfl rfl _ _ rfl rfl ?_; intro r3 n3 hr3; have hq := neq_fin hr3 (fin_zero); simp only [Bool.not_true] at hq; clear hr3) | (go_at_call 96; refine (pfin_any _ _ _).mono ?_; rintro e w' ⟨v, n, rfl, rfl, rfl⟩; rw [HR2.out, HZ.out]))
          (try rw [Exit.noGoto_ret])
          refine bodyPost_ret (v := .tuple #[.complex .f64 0 0, .int .i64 6]) ?_ rfl ⟨_, rfl, (by first | exact below_n HB2.out _ | exact below_n (below_n HB2.out _) _ | exact below_n (below_n (below_n HB2.out _) _) _ | exact below_n (below_n (below_n (below_n HB2.out _) _) _) _), _, _, _, rfl, by rw [adm_good (may_yes HA.out HC.out (by unfold isAd; rw [h1]; rfl)), admB_1 (by rw [h1]; rfl)]; exact (fin6_no HZ.out).symm⟩
          rw [results_tmp2 rfl]; rfl
        · have HZ := hid hz
          clear hz
          go_wp2_with (first | (refine wpList_float rfl _ _ _ _ _ rfl rfl _ _ rfl rfl ?_; intro r3 n3 hr3; have hq := neq_fin hr3 (fin_zero); simp only [Bool.not_true] at hq; clear hr3) | (go_at_call 96; refine (pfin_any _ _ _).mono ?_; rintro e w' ⟨v, n, rfl, rfl, rfl⟩; rw [HR2.out, HZ.out]))
          (try rw [Exit.noGoto_ret])
          refine bodyPost_ret (v := .tuple #[.complex .f64 r2 0, .int .i64 0]) ?_ rfl ⟨_, rfl, (by first | exact below_n HB2.out _ | exact below_n (below_n HB2.out _) _ | exact below_n (below_n (below_n HB2.out _) _) _ | exact below_n (below_n (below_n (below_n HB2.out _) _) _) _), _, _, _, rfl, by rw [adm_good (may_yes HA.out HC.out (by unfold isAd; rw [h1]; rfl)), admB_1 (by rw [h1]; rfl), HR2.out]; exact (fin6_yes HZ.out).symm⟩
          rw [results_tmp2 rfl]; rfl
      · go_upto_region 22 with (refine wpList_float rfl _ _ _ _ _ rfl rfl _ _ rfl rfl ?_; intro r2 n2 hr2; have HR2 := hid hr2; clear hr2)
        cases hz : cfin ((fop .quo (fc 4607182418800017408) (fc x.val)), fc 0)
        · have HZ := hid hz
          clear hz
          go_wp2_with (first | (refine wpList_float rfl _ _ _ _ _ rfl rfl _ _ rfl rfl ?_; intro r3 n3 hr3; have hq := neq_fin hr3 (fin_zero); simp only [Bool.not_true] at hq; clear hr3) | (go_at_call 96; refine (pfin_any _ _ _).mono ?_; rintro e w' ⟨v, n, rfl, rfl, rfl⟩; rw [HR2.out, HZ.out]))
          (try rw [Exit.noGoto_ret])
          refine bodyPost_ret (v := .tuple #[.complex .f64 0 0, .int .i64 6]) ?_ rfl ⟨_, rfl, (by first | exact below_n HB2.out _ | exact below_n (below_n HB2.out _) _ | exact below_n (below_n (below_n HB2.out _) _) _ | exact below_n (below_n (below_n (below_n HB2.out _) _) _) _), _, _, _, rfl, by rw [adm_good (may_yes HA.out HC.out (by unfold isAd; rw [h1, h8]; rfl)), admB_1 (by rw [h1, h8]; rfl)]; exact (fin6_no HZ.out).symm⟩
          rw [results_tmp2 rfl]; rfl
        · have HZ := hid hz
          clear hz
          go_wp2_with (first | (refine wpList_float rfl _ _ _ _ _ rfl rfl _ _ rfl rfl ?_; intro r3 n3 hr3; have hq := neq_fin hr3 (fin_zero); simp only [Bool.not_true] at hq; clear hr3) | (go_at_call 96; refine (pfin_any _ _ _).mono ?_; rintro e w' ⟨v, n, rfl, rfl, rfl⟩; rw [HR2.out, HZ.out]))
          (try rw [Exit.noGoto_ret])
          refine bodyPost_ret (v := .tuple #[.complex .f64 r2 0, .int .i64 0]) ?_ rfl ⟨_, rfl, (by first | exact below_n HB2.out _ | exact below_n (below_n HB2.out _) _ | exact below_n (below_n (below_n HB2.out _) _) _ | exact below_n (below_n (below_n (below_n HB2.out _) _) _) _), _, _, _, rfl, by rw [adm_good (may_yes HA.out HC.out (by unfold isAd; rw [h1, h8]; rfl)), admB_1 (by rw [h1, h8]; rfl), HR2.out]; exact (fin6_yes HZ.out).symm⟩
          rw [results_tmp2 rfl]; rfl
      · go_upto_region 22 with (refine wpList_float rfl _ _ _ _ _ rfl rfl _ _ rfl rfl ?_; intro r2 n2 hr2; have HR2 := hid hr2; clear hr2)
        cases hw : ffin (fop .mul (fc o) (fc x.val))
        · have HW := hid hw
          clear hw
          go_wp2_with (first | (refine wpList_float rfl _ _ _ _ _ rfl rfl _ _ rfl rfl ?_; intro r3 n3 hr3; have hq := neq_fin hr3 (show ffin (fc r1) = false by rw [HR1.out]; exact HW.out); simp only [Bool.not_false] at hq; clear hr3) | fail)
          (try rw [Exit.noGoto_ret])
          refine bodyPost_ret (v := .tuple #[.complex .f64 0 0, .int .i64 6]) ?_ rfl ⟨_, rfl, (by first | exact below_n HB2.out _ | exact below_n (below_n HB2.out _) _ | exact below_n (below_n (below_n HB2.out _) _) _ | exact below_n (below_n (below_n (below_n HB2.out _) _) _) _), _, _, _, rfl, by rw [adm_good (may_yes HA.out HC.out (by unfold isAd; rw [h1, h8, h2]; rfl)), admB_2 (by rw [h1, h8]; rfl) h2]; exact (if_neg (by rw [show ffin (fmul (fc o) (fc x.val)) = false from HW.out]; decide)).symm⟩
          rw [results_tmp2 rfl]; rfl
        · have HW := hid hw
          clear hw
          cases hz : cfin (fc 0, fneg (fop .quo (fc 4607182418800017408) (fop .mul (fc o) (fc x.val))))
          · have HZ := hid hz
            clear hz
            go_wp2_with (first | (refine wpList_float rfl _ _ _ _ _ rfl rfl _ _ rfl rfl ?_; intro r3 n3 hr3; have hq := neq_fin hr3 (show ffin (fc r1) = true by rw [HR1.out]; exact HW.out); simp only [Bool.not_true] at hq; clear hr3) | (go_at_call 96; refine (pfin_any _ _ _).mono ?_; rintro e w' ⟨v, n, rfl, rfl, rfl⟩; rw [fc_neg, HR2.out, HR1.out, HZ.out]))
            (try rw [Exit.noGoto_ret])
            refine bodyPost_ret (v := .tuple #[.complex .f64 0 0, .int .i64 6]) ?_ rfl ⟨_, rfl, (by first | exact below_n HB2.out _ | exact below_n (below_n HB2.out _) _ | exact below_n (below_n (below_n HB2.out _) _) _ | exact below_n (below_n (below_n (below_n HB2.out _) _) _) _), _, _, _, rfl, by rw [adm_good (may_yes HA.out HC.out (by unfold isAd; rw [h1, h8, h2]; rfl)), admB_2 (by rw [h1, h8]; rfl) h2, if_pos (show ffin (fmul (fc o) (fc x.val)) = true from HW.out)]; exact (fin6_no HZ.out).symm⟩
            rw [results_tmp2 rfl]; rfl
          · have HZ := hid hz
            clear hz
            go_wp2_with (first | (refine wpList_float rfl _ _ _ _ _ rfl rfl _ _ rfl rfl ?_; intro r3 n3 hr3; have hq := neq_fin hr3 (show ffin (fc r1) = true by rw [HR1.out]; exact HW.out); simp only [Bool.not_true] at hq; clear hr3) | (go_at_call 96; refine (pfin_any _ _ _).mono ?_; rintro e w' ⟨v, n, rfl, rfl, rfl⟩; rw [fc_neg, HR2.out, HR1.out, HZ.out]))
            (try rw [Exit.noGoto_ret])
            refine bodyPost_ret (v := .tuple #[.complex .f64 0 (Op.negFloat .f64 r2), .int .i64 0]) ?_ rfl ⟨_, rfl, (by first | exact below_n HB2.out _ | exact below_n (below_n HB2.out _) _ | exact below_n (below_n (below_n HB2.out _) _) _ | exact below_n (below_n (below_n (below_n HB2.out _) _) _) _), _, _, _, rfl, by rw [adm_good (may_yes HA.out HC.out (by unfold isAd; rw [h1, h8, h2]; rfl)), admB_2 (by rw [h1, h8]; rfl) h2, if_pos (show ffin (fmul (fc o) (fc x.val)) = true from HW.out), fc_neg, HR2.out, HR1.out]; exact (fin6_yes HZ.out).symm⟩
            rw [results_tmp2 rfl]; rfl
      · go_upto_region 22 with fail
        cases hw : ffin (fop .mul (fc o) (fc x.val))
        · have HW := hid hw
          clear hw
          go_wp2_with (first | (refine wpList_float rfl _ _ _ _ _ rfl rfl _ _ rfl rfl ?_; intro r3 n3 hr3; have hq := neq_fin hr3 (show ffin (fc r1) = false by rw [HR1.out]; exact HW.out); simp only [Bool.not_false] at hq; clear hr3) | fail)
          (try rw [Exit.noGoto_ret])
          refine bodyPost_ret (v := .tuple #[.complex .f64 0 0, .int .i64 6]) ?_ rfl ⟨_, rfl, (by first | exact below_n HB2.out _ | exact below_n (below_n HB2.out _) _ | exact below_n (below_n (below_n HB2.out _) _) _ | exact below_n (below_n (below_n (below_n HB2.out _) _) _) _), _, _, _, rfl, by rw [adm_good (may_yes HA.out HC.out (by unfold isAd; rw [h1, h8, h2, h3]; rfl)), admB_3 (by rw [h1, h8]; rfl) h2]; exact (fin6_no ((cfin_right _).trans HW.out)).symm⟩
          rw [results_tmp2 rfl]; rfl
        · have HW := hid hw
          clear hw
          go_wp2_with (first | (refine wpList_float rfl _ _ _ _ _ rfl rfl _ _ rfl rfl ?_; intro r3 n3 hr3; have hq := neq_fin hr3 (show ffin (fc r1) = true by rw [HR1.out]; exact HW.out); simp only [Bool.not_true] at hq; clear hr3) | (go_at_call 96; refine (pfin_any _ _ _).mono ?_; rintro e w' ⟨v, n, rfl, rfl, rfl⟩; rw [HR1.out, cfin_right, HW.out]))
          (try rw [Exit.noGoto_ret])
          refine bodyPost_ret (v := .tuple #[.complex .f64 0 r1, .int .i64 0]) ?_ rfl ⟨_, rfl, (by first | exact below_n HB2.out _ | exact below_n (below_n HB2.out _) _ | exact below_n (below_n (below_n HB2.out _) _) _ | exact below_n (below_n (below_n (below_n HB2.out _) _) _) _), _, _, _, rfl, by rw [adm_good (may_yes HA.out HC.out (by unfold isAd; rw [h1, h8, h2, h3]; rfl)), admB_3 (by rw [h1, h8]; rfl) h2, HR1.out]; exact (fin6_yes ((cfin_right _).trans HW.out)).symm⟩
          rw [results_tmp2 rfl]; rfl
      · go_wp2_with fail
        (try rw [Exit.noGoto_ret])
        refine bodyPost_ret (v := .tuple #[.complex .f64 0 0, .int .i64 2]) ?_ rfl ⟨_, rfl, (by first | exact below_n HB2.out _ | exact below_n (below_n HB2.out _) _ | exact below_n (below_n (below_n HB2.out _) _) _ | exact below_n (below_n (below_n (below_n HB2.out _) _) _) _), _, _, _, rfl, by rw [adm_bad (may_no HA.out HC.out (by unfold isAd; rw [h1, h8, h2, h3]; rfl)) (by decide)]⟩
        rw [results_tmp2 rfl]; rfl
    · have HC := hid hc
      have hcq : (checkE x == 0) = false := by simpa using hc
      have hcn : (checkE x != 0) = true := by simpa using hc
      go_wp2_with (go_at_call 60; refine (vcheck_any x _ HX.out).mono ?_; rintro en w2 ⟨rfl, hb2⟩; have HB2 := hid (below_next (below_n HBW.out _) hb2); have HBX2 := hid (heap_later2 hb2 (show (w1.drewN n).heap[w.heap.size]? = _ from HBX.out)); clear hb2)
      (try rw [Exit.noGoto_ret])
      refine bodyPost_ret (v := .tuple #[.complex .f64 0 0, .int .i64 (checkE x)]) ?_ rfl ⟨_, rfl, HB2.out, _, _, _, rfl, by rw [adm_bad (may_chk HA.out HC.out) HC.out]⟩
      rw [results_tmp2 rfl]; rfl
  · have HA := hid ha
    have haq : (angE o == 0) = false := by simpa using ha
    have han : (angE o != 0) = true := by simpa using ha
    go_wp2_with (go_at_call 131; refine (tang_any _ _).mono ?_; rintro e w' ⟨v, n, rfl, rfl, rfl⟩)
    (try rw [Exit.noGoto_ret])
    refine bodyPost_ret (v := .tuple #[.complex .f64 0 0, .int .i64 (angE o)]) ?_ rfl ⟨_, rfl, below_n HBW.out _, _, _, _, rfl, by rw [adm_bad (may_ang HA.out) HA.out]⟩
    rw [results_tmp2 rfl]; rfl
set_option maxRecDepth 100000 in
set_option maxHeartbeats 2000000 in
theorem tadm_any (x : El) (o : Nat) (w : World) (hx : x.Ok) :
    Calls Tryz.prog 93 #[.agg #[.int .u8 x.kind, .string x.name, .string x.a, .string x.b, .string x.c, .string x.d, .float .f64 x.val, .int .i64 x.ph], .float .f64 o] w (RetB (IsCE (admS x o)) w) := by
  have HX := hid hx
  have hbx := heap_alloc_new w (.cells #[.int .u8 x.kind, .string x.name, .string x.a, .string x.b, .string x.c, .string x.d, .float .f64 x.val, .int .i64 x.ph] 81)
  have hbw := (Below.refl w.heap.size w).alloc (Nat.le_refl _) (.cells #[.int .u8 x.kind, .string x.name, .string x.a, .string x.b, .string x.c, .string x.d, .float .f64 x.val, .int .i64 x.ph] 81)
  obtain ⟨hbc, fb⟩ := block_cells hbx
  have b0 := hbc 0 _ rfl
  have b1 := hbc 1 _ rfl
  have b2 := hbc 2 _ rfl
  have b3 := hbc 3 _ rfl
  have b4 := hbc 4 _ rfl
  have b5 := hbc 5 _ rfl
  have b6 := hbc 6 _ rfl
  have b7 := hbc 7 _ rfl
  have HBX := hid hbx
  have HBW := hid hbw
  clear hbc fb hbx hbw hx
  go_enter Tryz.func93, Tryz.ntmps93
  go_upto_region 1 with fail
  generalize w.alloc (.cells #[.int .u8 x.kind, .string x.name, .string x.a, .string x.b, .string x.c, .string x.d, .float .f64 x.val, .int .i64 x.ph] 81) = w1 at *
  go_wp2_with (go_at_call 118; refine (reckon_any x o _ HX.out).mono ?_; rintro en w2 ⟨v, rfl, hb2, p, q, k, rfl, hz⟩)
  refine bodyPost_ret (v := .tuple #[.complex .f64 p q, .int .i64 k]) ?_ rfl ⟨_, rfl, below_next HBW.out hb2, _, _, _, rfl, hz⟩
  rw [results_tmp2 rfl]; rfl
end Go.Proofs.YtjeedckmkicnoaaGreatDoor
