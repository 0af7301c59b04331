/- Walks of what flows through an element: current.through, gridworkref21.flows. -/
import Derived.Test.YtlaibmeokghdmaaGreatDoorCur1
namespace Go.Proofs.YtlaibmeokghdmaaGreatDoor
open Go.RowKit

theorem flow_ways {e : El} (h : checkE e = 0) : ((e.kind == 1) = true ∧ (e.kind == 2) = false ∧ (e.kind == 3) = false ∧ (e.kind == 4) = false ∧ (e.kind == 5) = false ∧ (e.kind == 6) = false ∧ (e.kind == 7) = false ∧ (e.kind == 8) = false) ∨
    ((e.kind == 1) = false ∧ (e.kind == 2) = true ∧ (e.kind == 3) = false ∧ (e.kind == 4) = false ∧ (e.kind == 5) = false ∧ (e.kind == 6) = false ∧ (e.kind == 7) = false ∧ (e.kind == 8) = false) ∨
    ((e.kind == 1) = false ∧ (e.kind == 2) = false ∧ (e.kind == 3) = true ∧ (e.kind == 4) = false ∧ (e.kind == 5) = false ∧ (e.kind == 6) = false ∧ (e.kind == 7) = false ∧ (e.kind == 8) = false) ∨
    ((e.kind == 1) = false ∧ (e.kind == 2) = false ∧ (e.kind == 3) = false ∧ (e.kind == 4) = true ∧ (e.kind == 5) = false ∧ (e.kind == 6) = false ∧ (e.kind == 7) = false ∧ (e.kind == 8) = false) ∨
    ((e.kind == 1) = false ∧ (e.kind == 2) = false ∧ (e.kind == 3) = false ∧ (e.kind == 4) = false ∧ (e.kind == 5) = true ∧ (e.kind == 6) = false ∧ (e.kind == 7) = false ∧ (e.kind == 8) = false) ∨
    ((e.kind == 1) = false ∧ (e.kind == 2) = false ∧ (e.kind == 3) = false ∧ (e.kind == 4) = false ∧ (e.kind == 5) = false ∧ (e.kind == 6) = true ∧ (e.kind == 7) = false ∧ (e.kind == 8) = false) ∨
    ((e.kind == 1) = false ∧ (e.kind == 2) = false ∧ (e.kind == 3) = false ∧ (e.kind == 4) = false ∧ (e.kind == 5) = false ∧ (e.kind == 6) = false ∧ (e.kind == 7) = true ∧ (e.kind == 8) = false) ∨
    ((e.kind == 1) = false ∧ (e.kind == 2) = false ∧ (e.kind == 3) = false ∧ (e.kind == 4) = false ∧ (e.kind == 5) = false ∧ (e.kind == 6) = false ∧ (e.kind == 7) = false ∧ (e.kind == 8) = true) := by
  have hk : isK e.kind = true := by
    unfold checkE at h
    split at h
    · assumption
    · cases h
  rcases kind_cases e.kind with h | h | h | h | h | h | h | h | h
  all_goals first
    | (rw [h]; decide)
    | (rw [hk] at h; cases h.1)
theorem psub_b (a b c d : Nat) (w : World) : Calls Tryz.prog 70 #[.complex .f64 a b, .complex .f64 c d] w (RetB (IsC (csub (fc a, fc b) (fc c, fc d))) w) :=
  (psub_any a b c d w).mono fun _ _ ⟨v, n, h1, h2, h3⟩ => ⟨v, h1, by rw [h2]; exact below_n (Below.refl _ _) n, h3⟩
theorem pmul_b (a b c d : Nat) (w : World) : Calls Tryz.prog 69 #[.complex .f64 a b, .complex .f64 c d] w (RetB (IsC (cmul (fc a, fc b) (fc c, fc d))) w) :=
  (pmul_any a b c d w).mono fun _ _ ⟨v, n, h1, h2, h3⟩ => ⟨v, h1, by rw [h2]; exact below_n (Below.refl _ _) n, h3⟩
theorem flow_4 {l : List El} {V A : List Cx} {o : Nat} {x : El} (h : (x.kind == 4) = true) : flowS l V A o x = fin6 (phs x.val x.ph) := by unfold flowS; rw [if_pos h]
theorem flow_b {l : List El} {V A : List Cx} {o : Nat} {x : El} (h : (x.kind == 4) = false) (h2 : isBr x = true) : flowS l V A o x = fin6 (ck (ampS l A x.name)) := by unfold flowS; rw [if_neg (by rw [h]; decide), if_pos h2]
theorem flow_6 {l : List El} {V A : List Cx} {o : Nat} {x : El} (h : (x.kind == 4) = false) (h2 : isBr x = false) (h6 : (x.kind == 6) = true) : flowS l V A o x = fin6 (cmul (fc x.val, fc 0) (csub (ck (voltS l V x.c)) (ck (voltS l V x.d)))) := by unfold flowS; rw [if_neg (by rw [h]; decide), if_neg (by rw [h2]; decide), if_pos h6]
theorem flow_r {l : List El} {V A : List Cx} {o : Nat} {x : El} (h : (x.kind == 4) = false) (h2 : isBr x = false) (h6 : (x.kind == 6) = false) (h0 : (admS x o).2 = 0) : flowS l V A o x = fin6 (cmul (admS x o).1 (csub (ck (voltS l V x.a)) (ck (voltS l V x.b)))) := by unfold flowS; rw [if_neg (by rw [h]; decide), if_neg (by rw [h2]; decide), if_neg (by rw [h6]; decide), if_pos h0]
theorem flow_rb {l : List El} {V A : List Cx} {o : Nat} {x : El} (h : (x.kind == 4) = false) (h2 : isBr x = false) (h6 : (x.kind == 6) = false) (h0 : ¬ (admS x o).2 = 0) : flowS l V A o x = ((fc 0, fc 0), (admS x o).2) := by unfold flowS; rw [if_neg (by rw [h]; decide), if_neg (by rw [h2]; decide), if_neg (by rw [h6]; decide), if_neg h0]
theorem br_has {l : List El} {x : El} (h : x ∈ l) (hb : isBr x = true) : has (brs l) x.name = true := (has_iff _ _).2 (List.mem_map.2 ⟨x, List.mem_filter.2 ⟨h, hb⟩, rfl⟩)
set_option maxRecDepth 100000 in
set_option maxHeartbeats 2000000 in
theorem through_any (p : Value) (l : List El) (o : Nat) (v1 v2 : Value) (V A : List Cx) (x : El) (w : World) (hp : NN w p l) (hx : x.Ok) (hck : checkE x = 0) (hm : x ∈ l)
    (h1 : IsSl w 1 v1 V.length (V.map mkC)) (h2 : IsSl w 1 v2 A.length (A.map mkC)) (hV : V.length = (nds l).length) (hA : A.length = (brs l).length) :
    Calls Tryz.prog 47 #[p, .agg #[.float .f64 o, v1, v2], .agg #[.int .u8 x.kind, .string x.name, .string x.a, .string x.b, .string x.c, .string x.d, .float .f64 x.val, .int .i64 x.ph]] w (RetB (IsCE (flowS l V A o x)) w) := by
  obtain ⟨a2, c2, rfl⟩ := h2.form
  obtain ⟨i0, hi, hz0, hz1, hz2⟩ := info_parts infoC
  have hbw : Below w.heap.size w ((w.alloc (.cells #[.float .f64 o, v1, .slice a2 A.length c2] 63)).alloc (.cells #[.int .u8 x.kind, .string x.name, .string x.a, .string x.b, .string x.c, .string x.d, .float .f64 x.val, .int .i64 x.ph] 44)) := ((Below.refl w.heap.size w).alloc (Nat.le_refl _) (.cells #[.float .f64 o, v1, .slice a2 A.length c2] 63)).alloc (by simp) (.cells #[.int .u8 x.kind, .string x.name, .string x.a, .string x.b, .string x.c, .string x.d, .float .f64 x.val, .int .i64 x.ph] 44)
  have hs0 := heap_past_of (o' := (.cells #[.int .u8 x.kind, .string x.name, .string x.a, .string x.b, .string x.c, .string x.d, .float .f64 x.val, .int .i64 x.ph] 44)) (heap_alloc_new w (.cells #[.float .f64 o, v1, .slice a2 A.length c2] 63))
  have he0 := heap_alloc_new (w.alloc (.cells #[.float .f64 o, v1, .slice a2 A.length c2] 63)) (.cells #[.int .u8 x.kind, .string x.name, .string x.a, .string x.b, .string x.c, .string x.d, .float .f64 x.val, .int .i64 x.ph] 44)
  rw [show (w.alloc (.cells #[.float .f64 o, v1, .slice a2 A.length c2] 63)).heap.size = w.heap.size + 1 by simp] at he0
  have HP := hid (hp.below' hbw)
  have HV := hid (h1.below hbw (Nat.le_refl _))
  have HA := hid (h2.below hbw (Nat.le_refl _))
  have HLV := hid hV
  have HLA := hid hA
  have HX := hid hx
  have HCK := hid hck
  have HM := hid hm
  have HBW := hid hbw
  have HS := hid hs0
  have HE := hid he0
  clear hp h1 h2 hV hA hx hck hm hbw hs0 he0
  go_enter Tryz.func47, Tryz.ntmps47
  go_upto_region 1 with fail
  generalize (w.alloc (.cells #[.float .f64 o, v1, .slice a2 A.length c2] 63)).alloc (.cells #[.int .u8 x.kind, .string x.name, .string x.a, .string x.b, .string x.c, .string x.d, .float .f64 x.val, .int .i64 x.ph] 44) = w1 at *
  have hsc := (block_cells HS.out).1
  have s0 := hsc 0 _ rfl
  have s1 := hsc 1 _ rfl
  have s2 := hsc 2 _ rfl
  have hec := (block_cells HE.out).1
  have e0 := hec 0 _ rfl
  have e1 := hec 1 _ rfl
  have e2 := hec 2 _ rfl
  have e3 := hec 3 _ rfl
  have e4 := hec 4 _ rfl
  have e5 := hec 5 _ rfl
  have e6 := hec 6 _ rfl
  have e7 := hec 7 _ rfl
  clear hsc hec
  rcases flow_ways HCK.out with ⟨k1, k2, k3, k4, k5, k6, k7, k8⟩ | ⟨k1, k2, k3, k4, k5, k6, k7, k8⟩ | ⟨k1, k2, k3, k4, k5, k6, k7, k8⟩ | ⟨k1, k2, k3, k4, k5, k6, k7, k8⟩ | ⟨k1, k2, k3, k4, k5, k6, k7, k8⟩ | ⟨k1, k2, k3, k4, k5, k6, k7, k8⟩ | ⟨k1, k2, k3, k4, k5, k6, k7, k8⟩ | ⟨k1, k2, k3, k4, k5, k6, k7, k8⟩
  · skip
    by_cases hz : (admS x o).2 = 0
    · have HZ := hid hz
      go_upto_region 5 with (go_at_call 33; refine (tadm_any x o _ HX.out).mono ?_; rintro e w2 ⟨v, rfl, hb, r, i, k, rfl, had⟩; obtain rfl : k = 0 := (congrArg Prod.snd had).trans HZ.out; have HAD := hid had; have HPK := hid (HP.out.below' hb); have HVK := hid (HV.out.below hb (Nat.le_refl _)); have HS2 := hid (heap_later2 hb HS.out); have HE2 := hid (heap_later2 hb HE.out); have HB2 := hid (below_next HBW.out hb); clear hb had)
      clear s0 s1 s2 e0 e1 e2 e3 e4 e5 e6 e7
      have hsc := (block_cells HS2.out).1
      have s0 := hsc 0 _ rfl
      have s1 := hsc 1 _ rfl
      have s2 := hsc 2 _ rfl
      have hec := (block_cells HE2.out).1
      have e2 := hec 2 _ rfl
      have e3 := hec 3 _ rfl
      clear hsc hec
      go_upto_region 6 with fail
      go_region_held3 (fun w' => Below w2.heap.size w2 w' ∧ w'.cell? ⟨w.heap.size, 0, none⟩ = some (.float .f64 o) ∧ w'.cell? ⟨w.heap.size, 1, none⟩ = some v1 ∧ w'.cell? ⟨w.heap.size, 2, none⟩ = some (.slice a2 A.length c2) ∧ w'.cell? ⟨w.heap.size + 1, 2, none⟩ = some (.string x.a) ∧ w'.cell? ⟨w.heap.size + 1, 3, none⟩ = some (.string x.b))
        (((try dsimp only); (try go_split_ands); refine ⟨?_, ?_, ?_, ?_, ?_, ?_⟩ <;> (first | with_reducible exact below_step (by assumption) hb | with_reducible exact cell_later hb (by assumption) | with_reducible exact (Below.refl _ _).drew | with_reducible assumption | (go_keep; done))))
        (first | (go_at_call 71; refine (cvolts_any p l o v1 _ V _ _ (HPK.out.below (by first | assumption | exact (Below.refl _ _).drew | (go_split_ands; assumption)) (Nat.le_refl _)) (by first | exact HX.out.a | exact HX.out.b | exact HX.out.c | exact HX.out.d) (HVK.out.below (by first | assumption | exact (Below.refl _ _).drew | (go_split_ands; assumption)) (Nat.le_refl _)) HLV.out).mono ?_; rintro e w' ⟨rfl, hb⟩) | (go_at_call 70; refine (psub_b _ _ _ _ _).mono ?_; rintro e w' ⟨v, rfl, hb, rs, is, rfl, hsub⟩) | (go_at_call 69; refine (pmul_b _ _ _ _ _).mono ?_; rintro e w' ⟨v, rfl, hb, rm, im, rfl, hmul⟩))
      rename_i hH
      have HBF := hid (below_next HB2.out hH.1)
      (try simp only [Exit.inBlock, Exit.then])
      have HEQ := hid (show (fc rm, fc im) = cmul (admS x o).1 (csub (ck (voltS l V x.a)) (ck (voltS l V x.b))) from by rw [hmul, hsub, show (fc r, fc i) = (admS x o).1 from congrArg Prod.fst HAD.out]; rfl)
      cases hf : cfin (cmul (admS x o).1 (csub (ck (voltS l V x.a)) (ck (voltS l V x.b))))
      · have HF := hid hf
        clear hf
        go_wp2_with (go_at_call 38; refine (pfin_any _ _ _).mono ?_; rintro e w' ⟨v, n, rfl, rfl, rfl⟩; rw [show cfin (fc rm, fc im) = _ from congrArg cfin HEQ.out, HF.out])
        (try rw [Exit.noGoto_ret])
        refine bodyPost_ret (v := .tuple #[.complex .f64 0 0, .int .i64 6]) ?_ rfl ⟨_, rfl, below_n HBF.out _, _, _, _, rfl, by rw [flow_r k4 (by unfold isBr; rw [k5, k7]; rfl) k6 HZ.out]; exact (fin6_no HF.out).symm⟩
        rw [results_tmp2 rfl]; rfl
      · have HF := hid hf
        clear hf
        go_wp2_with (go_at_call 38; refine (pfin_any _ _ _).mono ?_; rintro e w' ⟨v, n, rfl, rfl, rfl⟩; rw [show cfin (fc rm, fc im) = _ from congrArg cfin HEQ.out, HF.out])
        (try rw [Exit.noGoto_ret])
        refine bodyPost_ret (v := .tuple #[.complex .f64 rm im, .int .i64 0]) ?_ rfl ⟨_, rfl, below_n HBF.out _, _, _, _, rfl, by rw [flow_r k4 (by unfold isBr; rw [k5, k7]; rfl) k6 HZ.out, HEQ.out]; exact (fin6_yes HF.out).symm⟩
        rw [results_tmp2 rfl]; rfl
    · have HZ := hid hz
      have hzq : ((admS x o).2 == 0) = false := by simpa using hz
      have hzn : ((admS x o).2 != 0) = true := by simpa using hz
      go_wp2_with (go_at_call 33; refine (tadm_any x o _ HX.out).mono ?_; rintro e w2 ⟨v, rfl, hb, r, i, k, rfl, had⟩; obtain rfl : k = (admS x o).2 := congrArg Prod.snd had; have HB2 := hid (below_next HBW.out hb); clear hb had)
      (try rw [Exit.noGoto_ret])
      refine bodyPost_ret (v := .tuple #[.complex .f64 0 0, .int .i64 (admS x o).2]) ?_ rfl ⟨_, rfl, HB2.out, _, _, _, rfl, by rw [flow_rb k4 (by unfold isBr; rw [k5, k7]; rfl) k6 HZ.out]⟩
      rw [results_tmp2 rfl]; rfl
  · skip
    by_cases hz : (admS x o).2 = 0
    · have HZ := hid hz
      go_upto_region 5 with (go_at_call 33; refine (tadm_any x o _ HX.out).mono ?_; rintro e w2 ⟨v, rfl, hb, r, i, k, rfl, had⟩; obtain rfl : k = 0 := (congrArg Prod.snd had).trans HZ.out; have HAD := hid had; have HPK := hid (HP.out.below' hb); have HVK := hid (HV.out.below hb (Nat.le_refl _)); have HS2 := hid (heap_later2 hb HS.out); have HE2 := hid (heap_later2 hb HE.out); have HB2 := hid (below_next HBW.out hb); clear hb had)
      clear s0 s1 s2 e0 e1 e2 e3 e4 e5 e6 e7
      have hsc := (block_cells HS2.out).1
      have s0 := hsc 0 _ rfl
      have s1 := hsc 1 _ rfl
      have s2 := hsc 2 _ rfl
      have hec := (block_cells HE2.out).1
      have e2 := hec 2 _ rfl
      have e3 := hec 3 _ rfl
      clear hsc hec
      go_upto_region 6 with fail
      go_region_held3 (fun w' => Below w2.heap.size w2 w' ∧ w'.cell? ⟨w.heap.size, 0, none⟩ = some (.float .f64 o) ∧ w'.cell? ⟨w.heap.size, 1, none⟩ = some v1 ∧ w'.cell? ⟨w.heap.size, 2, none⟩ = some (.slice a2 A.length c2) ∧ w'.cell? ⟨w.heap.size + 1, 2, none⟩ = some (.string x.a) ∧ w'.cell? ⟨w.heap.size + 1, 3, none⟩ = some (.string x.b))
        (((try dsimp only); (try go_split_ands); refine ⟨?_, ?_, ?_, ?_, ?_, ?_⟩ <;> (first | with_reducible exact below_step (by assumption) hb | with_reducible exact cell_later hb (by assumption) | with_reducible exact (Below.refl _ _).drew | with_reducible assumption | (go_keep; done))))
        (first | (go_at_call 71; refine (cvolts_any p l o v1 _ V _ _ (HPK.out.below (by first | assumption | exact (Below.refl _ _).drew | (go_split_ands; assumption)) (Nat.le_refl _)) (by first | exact HX.out.a | exact HX.out.b | exact HX.out.c | exact HX.out.d) (HVK.out.below (by first | assumption | exact (Below.refl _ _).drew | (go_split_ands; assumption)) (Nat.le_refl _)) HLV.out).mono ?_; rintro e w' ⟨rfl, hb⟩) | (go_at_call 70; refine (psub_b _ _ _ _ _).mono ?_; rintro e w' ⟨v, rfl, hb, rs, is, rfl, hsub⟩) | (go_at_call 69; refine (pmul_b _ _ _ _ _).mono ?_; rintro e w' ⟨v, rfl, hb, rm, im, rfl, hmul⟩))
      rename_i hH
      have HBF := hid (below_next HB2.out hH.1)
      (try simp only [Exit.inBlock, Exit.then])
      have HEQ := hid (show (fc rm, fc im) = cmul (admS x o).1 (csub (ck (voltS l V x.a)) (ck (voltS l V x.b))) from by rw [hmul, hsub, show (fc r, fc i) = (admS x o).1 from congrArg Prod.fst HAD.out]; rfl)
      cases hf : cfin (cmul (admS x o).1 (csub (ck (voltS l V x.a)) (ck (voltS l V x.b))))
      · have HF := hid hf
        clear hf
        go_wp2_with (go_at_call 38; refine (pfin_any _ _ _).mono ?_; rintro e w' ⟨v, n, rfl, rfl, rfl⟩; rw [show cfin (fc rm, fc im) = _ from congrArg cfin HEQ.out, HF.out])
        (try rw [Exit.noGoto_ret])
        refine bodyPost_ret (v := .tuple #[.complex .f64 0 0, .int .i64 6]) ?_ rfl ⟨_, rfl, below_n HBF.out _, _, _, _, rfl, by rw [flow_r k4 (by unfold isBr; rw [k5, k7]; rfl) k6 HZ.out]; exact (fin6_no HF.out).symm⟩
        rw [results_tmp2 rfl]; rfl
      · have HF := hid hf
        clear hf
        go_wp2_with (go_at_call 38; refine (pfin_any _ _ _).mono ?_; rintro e w' ⟨v, n, rfl, rfl, rfl⟩; rw [show cfin (fc rm, fc im) = _ from congrArg cfin HEQ.out, HF.out])
        (try rw [Exit.noGoto_ret])
        refine bodyPost_ret (v := .tuple #[.complex .f64 rm im, .int .i64 0]) ?_ rfl ⟨_, rfl, below_n HBF.out _, _, _, _, rfl, by rw [flow_r k4 (by unfold isBr; rw [k5, k7]; rfl) k6 HZ.out, HEQ.out]; exact (fin6_yes HF.out).symm⟩
        rw [results_tmp2 rfl]; rfl
    · have HZ := hid hz
      have hzq : ((admS x o).2 == 0) = false := by simpa using hz
      have hzn : ((admS x o).2 != 0) = true := by simpa using hz
      go_wp2_with (go_at_call 33; refine (tadm_any x o _ HX.out).mono ?_; rintro e w2 ⟨v, rfl, hb, r, i, k, rfl, had⟩; obtain rfl : k = (admS x o).2 := congrArg Prod.snd had; have HB2 := hid (below_next HBW.out hb); clear hb had)
      (try rw [Exit.noGoto_ret])
      refine bodyPost_ret (v := .tuple #[.complex .f64 0 0, .int .i64 (admS x o).2]) ?_ rfl ⟨_, rfl, HB2.out, _, _, _, rfl, by rw [flow_rb k4 (by unfold isBr; rw [k5, k7]; rfl) k6 HZ.out]⟩
      rw [results_tmp2 rfl]; rfl
  · skip
    by_cases hz : (admS x o).2 = 0
    · have HZ := hid hz
      go_upto_region 5 with (go_at_call 33; refine (tadm_any x o _ HX.out).mono ?_; rintro e w2 ⟨v, rfl, hb, r, i, k, rfl, had⟩; obtain rfl : k = 0 := (congrArg Prod.snd had).trans HZ.out; have HAD := hid had; have HPK := hid (HP.out.below' hb); have HVK := hid (HV.out.below hb (Nat.le_refl _)); have HS2 := hid (heap_later2 hb HS.out); have HE2 := hid (heap_later2 hb HE.out); have HB2 := hid (below_next HBW.out hb); clear hb had)
      clear s0 s1 s2 e0 e1 e2 e3 e4 e5 e6 e7
      have hsc := (block_cells HS2.out).1
      have s0 := hsc 0 _ rfl
      have s1 := hsc 1 _ rfl
      have s2 := hsc 2 _ rfl
      have hec := (block_cells HE2.out).1
      have e2 := hec 2 _ rfl
      have e3 := hec 3 _ rfl
      clear hsc hec
      go_upto_region 6 with fail
      go_region_held3 (fun w' => Below w2.heap.size w2 w' ∧ w'.cell? ⟨w.heap.size, 0, none⟩ = some (.float .f64 o) ∧ w'.cell? ⟨w.heap.size, 1, none⟩ = some v1 ∧ w'.cell? ⟨w.heap.size, 2, none⟩ = some (.slice a2 A.length c2) ∧ w'.cell? ⟨w.heap.size + 1, 2, none⟩ = some (.string x.a) ∧ w'.cell? ⟨w.heap.size + 1, 3, none⟩ = some (.string x.b))
        (((try dsimp only); (try go_split_ands); refine ⟨?_, ?_, ?_, ?_, ?_, ?_⟩ <;> (first | with_reducible exact below_step (by assumption) hb | with_reducible exact cell_later hb (by assumption) | with_reducible exact (Below.refl _ _).drew | with_reducible assumption | (go_keep; done))))
        (first | (go_at_call 71; refine (cvolts_any p l o v1 _ V _ _ (HPK.out.below (by first | assumption | exact (Below.refl _ _).drew | (go_split_ands; assumption)) (Nat.le_refl _)) (by first | exact HX.out.a | exact HX.out.b | exact HX.out.c | exact HX.out.d) (HVK.out.below (by first | assumption | exact (Below.refl _ _).drew | (go_split_ands; assumption)) (Nat.le_refl _)) HLV.out).mono ?_; rintro e w' ⟨rfl, hb⟩) | (go_at_call 70; refine (psub_b _ _ _ _ _).mono ?_; rintro e w' ⟨v, rfl, hb, rs, is, rfl, hsub⟩) | (go_at_call 69; refine (pmul_b _ _ _ _ _).mono ?_; rintro e w' ⟨v, rfl, hb, rm, im, rfl, hmul⟩))
      rename_i hH
      have HBF := hid (below_next HB2.out hH.1)
      (try simp only [Exit.inBlock, Exit.then])
      have HEQ := hid (show (fc rm, fc im) = cmul (admS x o).1 (csub (ck (voltS l V x.a)) (ck (voltS l V x.b))) from by rw [hmul, hsub, show (fc r, fc i) = (admS x o).1 from congrArg Prod.fst HAD.out]; rfl)
      cases hf : cfin (cmul (admS x o).1 (csub (ck (voltS l V x.a)) (ck (voltS l V x.b))))
      · have HF := hid hf
        clear hf
        go_wp2_with (go_at_call 38; refine (pfin_any _ _ _).mono ?_; rintro e w' ⟨v, n, rfl, rfl, rfl⟩; rw [show cfin (fc rm, fc im) = _ from congrArg cfin HEQ.out, HF.out])
        (try rw [Exit.noGoto_ret])
        refine bodyPost_ret (v := .tuple #[.complex .f64 0 0, .int .i64 6]) ?_ rfl ⟨_, rfl, below_n HBF.out _, _, _, _, rfl, by rw [flow_r k4 (by unfold isBr; rw [k5, k7]; rfl) k6 HZ.out]; exact (fin6_no HF.out).symm⟩
        rw [results_tmp2 rfl]; rfl
      · have HF := hid hf
        clear hf
        go_wp2_with (go_at_call 38; refine (pfin_any _ _ _).mono ?_; rintro e w' ⟨v, n, rfl, rfl, rfl⟩; rw [show cfin (fc rm, fc im) = _ from congrArg cfin HEQ.out, HF.out])
        (try rw [Exit.noGoto_ret])
        refine bodyPost_ret (v := .tuple #[.complex .f64 rm im, .int .i64 0]) ?_ rfl ⟨_, rfl, below_n HBF.out _, _, _, _, rfl, by rw [flow_r k4 (by unfold isBr; rw [k5, k7]; rfl) k6 HZ.out, HEQ.out]; exact (fin6_yes HF.out).symm⟩
        rw [results_tmp2 rfl]; rfl
    · have HZ := hid hz
      have hzq : ((admS x o).2 == 0) = false := by simpa using hz
      have hzn : ((admS x o).2 != 0) = true := by simpa using hz
      go_wp2_with (go_at_call 33; refine (tadm_any x o _ HX.out).mono ?_; rintro e w2 ⟨v, rfl, hb, r, i, k, rfl, had⟩; obtain rfl : k = (admS x o).2 := congrArg Prod.snd had; have HB2 := hid (below_next HBW.out hb); clear hb had)
      (try rw [Exit.noGoto_ret])
      refine bodyPost_ret (v := .tuple #[.complex .f64 0 0, .int .i64 (admS x o).2]) ?_ rfl ⟨_, rfl, HB2.out, _, _, _, rfl, by rw [flow_rb k4 (by unfold isBr; rw [k5, k7]; rfl) k6 HZ.out]⟩
      rw [results_tmp2 rfl]; rfl
  · skip
    go_upto_region 14 with (go_at_call 67; refine (sphasor_any x _ HX.out).mono ?_; rintro e w2 ⟨v, rfl, hb, r, i, k, rfl, had⟩; rw [src_yes HCK.out (by rw [k4]; rfl)] at had; obtain rfl : k = 0 := congrArg Prod.snd had; have HAD := hid had; have HB2 := hid (below_next HBW.out hb); clear hb had)
    have HEQ := hid (show (fc r, fc i) = phs x.val x.ph from congrArg Prod.fst HAD.out)
    cases hf : cfin (phs x.val x.ph)
    · have HF := hid hf
      clear hf
      go_wp2_with (go_at_call 38; refine (pfin_any _ _ _).mono ?_; rintro e w' ⟨v, n, rfl, rfl, rfl⟩; rw [show cfin (fc r, fc i) = _ from congrArg cfin HEQ.out, HF.out])
      (try rw [Exit.noGoto_ret])
      refine bodyPost_ret (v := .tuple #[.complex .f64 0 0, .int .i64 6]) ?_ rfl ⟨_, rfl, below_n HB2.out _, _, _, _, rfl, by rw [flow_4 k4]; exact (fin6_no HF.out).symm⟩
      rw [results_tmp2 rfl]; rfl
    · have HF := hid hf
      clear hf
      go_wp2_with (go_at_call 38; refine (pfin_any _ _ _).mono ?_; rintro e w' ⟨v, n, rfl, rfl, rfl⟩; rw [show cfin (fc r, fc i) = _ from congrArg cfin HEQ.out, HF.out])
      (try rw [Exit.noGoto_ret])
      refine bodyPost_ret (v := .tuple #[.complex .f64 r i, .int .i64 0]) ?_ rfl ⟨_, rfl, below_n HB2.out _, _, _, _, rfl, by rw [flow_4 k4, HEQ.out]; exact (fin6_yes HF.out).symm⟩
      rw [results_tmp2 rfl]; rfl
  · skip
    obtain ⟨k, hk, hlt⟩ := pl_in (br_has HM.out (show isBr x = true from (by unfold isBr; rw [k5, k7]; rfl)))
    have HK := hid hk
    clear hk
    go_upto_region 11 with (go_at_call 68; refine (nbranch_any p l x.name _ HP.out HX.out.name).mono ?_; rintro e w2 ⟨rfl, rfl⟩; rw [HK.out])
    obtain ⟨g, o2, y, hidx, hg, hcell, hy⟩ := IsSl.at1 Tryz.underlying36 hi hz1 HA.out (k := k) (by have := HLA.out; omega)
    obtain ⟨z, hzz, rfl⟩ := map_getElem? hy
    unfold mkC at hcell
    have HZZ := hid hzz
    clear hzz hy hg
    have HEQ := hid (show (fc z.1, fc z.2) = ck (ampS l A x.name) from by rw [amp_at HK.out HZZ.out]; rfl)
    cases hf : cfin (ck (ampS l A x.name))
    · have HF := hid hf
      clear hf
      go_wp2_with (go_at_call 38; refine (pfin_any _ _ _).mono ?_; rintro e w' ⟨v, n, rfl, rfl, rfl⟩; rw [show cfin (fc z.1, fc z.2) = _ from congrArg cfin HEQ.out, HF.out])
      (try rw [Exit.noGoto_ret])
      refine bodyPost_ret (v := .tuple #[.complex .f64 0 0, .int .i64 6]) ?_ rfl ⟨_, rfl, below_n HBW.out _, _, _, _, rfl, by rw [flow_b k4 (by unfold isBr; rw [k5, k7]; rfl)]; exact (fin6_no HF.out).symm⟩
      rw [results_tmp2 rfl]; rfl
    · have HF := hid hf
      clear hf
      go_wp2_with (go_at_call 38; refine (pfin_any _ _ _).mono ?_; rintro e w' ⟨v, n, rfl, rfl, rfl⟩; rw [show cfin (fc z.1, fc z.2) = _ from congrArg cfin HEQ.out, HF.out])
      (try rw [Exit.noGoto_ret])
      refine bodyPost_ret (v := .tuple #[.complex .f64 z.1 z.2, .int .i64 0]) ?_ rfl ⟨_, rfl, below_n HBW.out _, _, _, _, rfl, by rw [flow_b k4 (by unfold isBr; rw [k5, k7]; rfl), HEQ.out]; exact (fin6_yes HF.out).symm⟩
      rw [results_tmp2 rfl]; rfl
  · skip
    go_upto_region 13 with fail
    go_region_held3 (fun w' => Below w1.heap.size w1 w' ∧ w'.cell? ⟨w.heap.size, 0, none⟩ = some (.float .f64 o) ∧ w'.cell? ⟨w.heap.size, 1, none⟩ = some v1 ∧ w'.cell? ⟨w.heap.size, 2, none⟩ = some (.slice a2 A.length c2) ∧ w'.cell? ⟨w.heap.size + 1, 4, none⟩ = some (.string x.c) ∧ w'.cell? ⟨w.heap.size + 1, 5, none⟩ = some (.string x.d) ∧ w'.cell? ⟨w.heap.size + 1, 6, none⟩ = some (.float .f64 x.val))
      (((try dsimp only); (try go_split_ands); refine ⟨?_, ?_, ?_, ?_, ?_, ?_, ?_⟩ <;> (first | with_reducible exact below_step (by assumption) hb | with_reducible exact cell_later hb (by assumption) | with_reducible exact (Below.refl _ _).drew | with_reducible assumption | (go_keep; done))))
      (first | (go_at_call 71; refine (cvolts_any p l o v1 _ V _ _ (HP.out.below (by first | assumption | exact (Below.refl _ _).drew | (go_split_ands; assumption)) (Nat.le_refl _)) (by first | exact HX.out.a | exact HX.out.b | exact HX.out.c | exact HX.out.d) (HV.out.below (by first | assumption | exact (Below.refl _ _).drew | (go_split_ands; assumption)) (Nat.le_refl _)) HLV.out).mono ?_; rintro e w' ⟨rfl, hb⟩) | (go_at_call 70; refine (psub_b _ _ _ _ _).mono ?_; rintro e w' ⟨v, rfl, hb, rs, is, rfl, hsub⟩) | (go_at_call 69; refine (pmul_b _ _ _ _ _).mono ?_; rintro e w' ⟨v, rfl, hb, rm, im, rfl, hmul⟩))
    all_goals
      rename_i hH
      have HBF := hid (below_next HBW.out hH.1)
      (try simp only [Exit.inBlock, Exit.then])
      have HEQ := hid (show (fc rm, fc im) = cmul (fc x.val, fc 0) (csub (ck (voltS l V x.c)) (ck (voltS l V x.d))) from by rw [hmul, hsub]; rfl)
      cases hf : cfin (cmul (fc x.val, fc 0) (csub (ck (voltS l V x.c)) (ck (voltS l V x.d))))
      · have HF := hid hf
        clear hf
        go_wp2_with (go_at_call 38; refine (pfin_any _ _ _).mono ?_; rintro e w' ⟨v, n, rfl, rfl, rfl⟩; rw [show cfin (fc rm, fc im) = _ from congrArg cfin HEQ.out, HF.out])
        (try rw [Exit.noGoto_ret])
        refine bodyPost_ret (v := .tuple #[.complex .f64 0 0, .int .i64 6]) ?_ rfl ⟨_, rfl, below_n HBF.out _, _, _, _, rfl, by rw [flow_6 k4 (by unfold isBr; rw [k5, k7]; rfl) k6]; exact (fin6_no HF.out).symm⟩
        rw [results_tmp2 rfl]; rfl
      · have HF := hid hf
        clear hf
        go_wp2_with (go_at_call 38; refine (pfin_any _ _ _).mono ?_; rintro e w' ⟨v, n, rfl, rfl, rfl⟩; rw [show cfin (fc rm, fc im) = _ from congrArg cfin HEQ.out, HF.out])
        (try rw [Exit.noGoto_ret])
        refine bodyPost_ret (v := .tuple #[.complex .f64 rm im, .int .i64 0]) ?_ rfl ⟨_, rfl, below_n HBF.out _, _, _, _, rfl, by rw [flow_6 k4 (by unfold isBr; rw [k5, k7]; rfl) k6, HEQ.out]; exact (fin6_yes HF.out).symm⟩
        rw [results_tmp2 rfl]; rfl
  · skip
    obtain ⟨k, hk, hlt⟩ := pl_in (br_has HM.out (show isBr x = true from (by unfold isBr; rw [k5, k7]; rfl)))
    have HK := hid hk
    clear hk
    go_upto_region 11 with (go_at_call 68; refine (nbranch_any p l x.name _ HP.out HX.out.name).mono ?_; rintro e w2 ⟨rfl, rfl⟩; rw [HK.out])
    obtain ⟨g, o2, y, hidx, hg, hcell, hy⟩ := IsSl.at1 Tryz.underlying36 hi hz1 HA.out (k := k) (by have := HLA.out; omega)
    obtain ⟨z, hzz, rfl⟩ := map_getElem? hy
    unfold mkC at hcell
    have HZZ := hid hzz
    clear hzz hy hg
    have HEQ := hid (show (fc z.1, fc z.2) = ck (ampS l A x.name) from by rw [amp_at HK.out HZZ.out]; rfl)
    cases hf : cfin (ck (ampS l A x.name))
    · have HF := hid hf
      clear hf
      go_wp2_with (go_at_call 38; refine (pfin_any _ _ _).mono ?_; rintro e w' ⟨v, n, rfl, rfl, rfl⟩; rw [show cfin (fc z.1, fc z.2) = _ from congrArg cfin HEQ.out, HF.out])
      (try rw [Exit.noGoto_ret])
      refine bodyPost_ret (v := .tuple #[.complex .f64 0 0, .int .i64 6]) ?_ rfl ⟨_, rfl, below_n HBW.out _, _, _, _, rfl, by rw [flow_b k4 (by unfold isBr; rw [k5, k7]; rfl)]; exact (fin6_no HF.out).symm⟩
      rw [results_tmp2 rfl]; rfl
    · have HF := hid hf
      clear hf
      go_wp2_with (go_at_call 38; refine (pfin_any _ _ _).mono ?_; rintro e w' ⟨v, n, rfl, rfl, rfl⟩; rw [show cfin (fc z.1, fc z.2) = _ from congrArg cfin HEQ.out, HF.out])
      (try rw [Exit.noGoto_ret])
      refine bodyPost_ret (v := .tuple #[.complex .f64 z.1 z.2, .int .i64 0]) ?_ rfl ⟨_, rfl, below_n HBW.out _, _, _, _, rfl, by rw [flow_b k4 (by unfold isBr; rw [k5, k7]; rfl), HEQ.out]; exact (fin6_yes HF.out).symm⟩
      rw [results_tmp2 rfl]; rfl
  · skip
    by_cases hz : (admS x o).2 = 0
    · have HZ := hid hz
      go_upto_region 5 with (go_at_call 33; refine (tadm_any x o _ HX.out).mono ?_; rintro e w2 ⟨v, rfl, hb, r, i, k, rfl, had⟩; obtain rfl : k = 0 := (congrArg Prod.snd had).trans HZ.out; have HAD := hid had; have HPK := hid (HP.out.below' hb); have HVK := hid (HV.out.below hb (Nat.le_refl _)); have HS2 := hid (heap_later2 hb HS.out); have HE2 := hid (heap_later2 hb HE.out); have HB2 := hid (below_next HBW.out hb); clear hb had)
      clear s0 s1 s2 e0 e1 e2 e3 e4 e5 e6 e7
      have hsc := (block_cells HS2.out).1
      have s0 := hsc 0 _ rfl
      have s1 := hsc 1 _ rfl
      have s2 := hsc 2 _ rfl
      have hec := (block_cells HE2.out).1
      have e2 := hec 2 _ rfl
      have e3 := hec 3 _ rfl
      clear hsc hec
      go_upto_region 6 with fail
      go_region_held3 (fun w' => Below w2.heap.size w2 w' ∧ w'.cell? ⟨w.heap.size, 0, none⟩ = some (.float .f64 o) ∧ w'.cell? ⟨w.heap.size, 1, none⟩ = some v1 ∧ w'.cell? ⟨w.heap.size, 2, none⟩ = some (.slice a2 A.length c2) ∧ w'.cell? ⟨w.heap.size + 1, 2, none⟩ = some (.string x.a) ∧ w'.cell? ⟨w.heap.size + 1, 3, none⟩ = some (.string x.b))
        (((try dsimp only); (try go_split_ands); refine ⟨?_, ?_, ?_, ?_, ?_, ?_⟩ <;> (first | with_reducible exact below_step (by assumption) hb | with_reducible exact cell_later hb (by assumption) | with_reducible exact (Below.refl _ _).drew | with_reducible assumption | (go_keep; done))))
        (first | (go_at_call 71; refine (cvolts_any p l o v1 _ V _ _ (HPK.out.below (by first | assumption | exact (Below.refl _ _).drew | (go_split_ands; assumption)) (Nat.le_refl _)) (by first | exact HX.out.a | exact HX.out.b | exact HX.out.c | exact HX.out.d) (HVK.out.below (by first | assumption | exact (Below.refl _ _).drew | (go_split_ands; assumption)) (Nat.le_refl _)) HLV.out).mono ?_; rintro e w' ⟨rfl, hb⟩) | (go_at_call 70; refine (psub_b _ _ _ _ _).mono ?_; rintro e w' ⟨v, rfl, hb, rs, is, rfl, hsub⟩) | (go_at_call 69; refine (pmul_b _ _ _ _ _).mono ?_; rintro e w' ⟨v, rfl, hb, rm, im, rfl, hmul⟩))
      rename_i hH
      have HBF := hid (below_next HB2.out hH.1)
      (try simp only [Exit.inBlock, Exit.then])
      have HEQ := hid (show (fc rm, fc im) = cmul (admS x o).1 (csub (ck (voltS l V x.a)) (ck (voltS l V x.b))) from by rw [hmul, hsub, show (fc r, fc i) = (admS x o).1 from congrArg Prod.fst HAD.out]; rfl)
      cases hf : cfin (cmul (admS x o).1 (csub (ck (voltS l V x.a)) (ck (voltS l V x.b))))
      · have HF := hid hf
        clear hf
        go_wp2_with (go_at_call 38; refine (pfin_any _ _ _).mono ?_; rintro e w' ⟨v, n, rfl, rfl, rfl⟩; rw [show cfin (fc rm, fc im) = _ from congrArg cfin HEQ.out, HF.out])
        (try rw [Exit.noGoto_ret])
        refine bodyPost_ret (v := .tuple #[.complex .f64 0 0, .int .i64 6]) ?_ rfl ⟨_, rfl, below_n HBF.out _, _, _, _, rfl, by rw [flow_r k4 (by unfold isBr; rw [k5, k7]; rfl) k6 HZ.out]; exact (fin6_no HF.out).symm⟩
        rw [results_tmp2 rfl]; rfl
      · have HF := hid hf
        clear hf
        go_wp2_with (go_at_call 38; refine (pfin_any _ _ _).mono ?_; rintro e w' ⟨v, n, rfl, rfl, rfl⟩; rw [show cfin (fc rm, fc im) = _ from congrArg cfin HEQ.out, HF.out])
        (try rw [Exit.noGoto_ret])
        refine bodyPost_ret (v := .tuple #[.complex .f64 rm im, .int .i64 0]) ?_ rfl ⟨_, rfl, below_n HBF.out _, _, _, _, rfl, by rw [flow_r k4 (by unfold isBr; rw [k5, k7]; rfl) k6 HZ.out, HEQ.out]; exact (fin6_yes HF.out).symm⟩
        rw [results_tmp2 rfl]; rfl
    · have HZ := hid hz
      have hzq : ((admS x o).2 == 0) = false := by simpa using hz
      have hzn : ((admS x o).2 != 0) = true := by simpa using hz
      go_wp2_with (go_at_call 33; refine (tadm_any x o _ HX.out).mono ?_; rintro e w2 ⟨v, rfl, hb, r, i, k, rfl, had⟩; obtain rfl : k = (admS x o).2 := congrArg Prod.snd had; have HB2 := hid (below_next HBW.out hb); clear hb had)
      (try rw [Exit.noGoto_ret])
      refine bodyPost_ret (v := .tuple #[.complex .f64 0 0, .int .i64 (admS x o).2]) ?_ rfl ⟨_, rfl, HB2.out, _, _, _, rfl, by rw [flow_rb k4 (by unfold isBr; rw [k5, k7]; rfl) k6 HZ.out]⟩
      rw [results_tmp2 rfl]; rfl
end Go.Proofs.YtlaibmeokghdmaaGreatDoor
