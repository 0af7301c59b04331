/- a part of the proof of the last text -/
import Derived.Test.YtjeedckmkicnoaaGreatDoorZMEls
import Derived.Test.YtjeedckmkicnoaaGreatDoorZFVal
namespace Go.Proofs.YtjeedckmkicnoaaGreatDoor
set_option linter.all false
set_option maxHeartbeats 4000000
set_option maxRecDepth 100000
section
open Go.RowKit
/-- The cells of a block that is known whole. -/
theorem block_cells {w : World} {g t : Nat} {cs : Array Value} (h : w.heap[g]? = some (.cells cs t (0, 0))) : (∀ (o : Nat) (x : Value), cs[o]? = some x → w.cell? ⟨g, o, none⟩ = some x) ∧ ∀ o, w.frozen? ⟨g, o, none⟩ = false :=
  ⟨fun o x hx => (cell_of_row _ _ _ _ _ _ h).trans hx, fun o => by simp [World.frozen?, h]⟩
theorem heap_past_of {w : World} {g : Nat} {o o' : Obj} (h : w.heap[g]? = some o) : (w.alloc o').heap[g]? = some o := (heap_alloc_old w o' (Array.getElem?_eq_some_iff.1 h).1).trans h
theorem heap_later2 {w w' : World} {g : Nat} {o : Obj} (hb : Below w.heap.size w w') (h : w.heap[g]? = some o) : w'.heap[g]? = some o := (hb.block g (Array.getElem?_eq_some_iff.1 h).1).trans h
theorem below_next {w w1 w2 : World} (h : Below w.heap.size w w1) (h2 : Below w1.heap.size w1 w2) : Below w.heap.size w w2 := h.trans (h2.mono h.size)
theorem cells_ofS {w : World} {g t : Nat} {cs : Array Value} (h : w.heap[g]? = some (.cells cs t (0, 0))) : (∀ (o : Nat) (x : Value), cs[o]? = some x → w.cell? ⟨g, o, none⟩ = some x) ∧ ∀ o, w.frozen? ⟨g, o, none⟩ = false :=
  ⟨fun o x hx => (cell_of_row _ _ _ _ _ _ h).trans hx, fun o => by simp [World.frozen?, h]⟩
end
section
/- Walks of value.Check, gridworkref13.Check. -/
open Go.RowKit
theorem order_zero {x : Nat} (h : kindF x ≤ 2) : FloatKind.f64.format.order x 0 = some .lt ∨ FloatKind.f64.format.order x 0 = some .eq ∨ FloatKind.f64.format.order x 0 = some .gt := by
  have hx : FV.fin x = true := by
    have hz : ((fsize x : Nat) : Int) < 9218868437227405312 := by
      unfold kindF at h
      rcases kindZ_cases ((fsize x : Nat) : Int) with c | c | c | c | c <;> omega
    have hf : fsize x = x % 9223372036854775808 := rfl
    have e1 : (2 : Nat) ^ 63 = 9223372036854775808 := by decide
    have e2 : 2047 * (2 : Nat) ^ 52 = 9218868437227405312 := by decide
    unfold FV.fin
    rw [e1, e2, ← hf]
    exact decide_eq_true (by omega)
  have h0 : FV.fin 0 = true := by decide +kernel
  have ho : FloatKind.f64.format.order x 0 = some (compare (FV.val x) (FV.val 0)) := FV.order_fin hx h0
  rw [ho]
  cases compare (FV.val x) (FV.val 0) <;> simp
theorem above_no {x : Nat} (h : (FloatKind.f64.format.order x 0 == some Ordering.lt) = true ∨ (FloatKind.f64.format.order x 0 == some Ordering.eq) = true) : notAbove x = true := by
  have : ford x 0 = FloatKind.f64.format.order x 0 := rfl
  unfold notAbove
  rw [this]
  rcases h with h | h <;> rw [eq_of_beq h] <;> rfl
theorem above_yes {x : Nat} (hk : kindF x ≤ 2) (h : (FloatKind.f64.format.order x 0 == some Ordering.lt) = false ∧ (FloatKind.f64.format.order x 0 == some Ordering.eq) = false) : notAbove x = false := by
  have e : ford x 0 = FloatKind.f64.format.order x 0 := rfl
  unfold notAbove
  rw [e]
  rcases order_zero hk with c | c | c
  · rw [c] at h; exact absurd h.1 (by decide)
  · rw [c] at h; exact absurd h.2 (by decide)
  · rw [c]; rfl
theorem check_end {e : El} {b : Bool} (hk : isK e.kind = true) (hn : nameBad e = false) (hg : argBad e = false) (h2 : kindF e.val ≤ 2) (ha : (kAb e.kind && notAbove e.val) = b) : checkE e = if b = true then 2 else 0 := by
  unfold checkE
  rw [hk, hn, hg, ha, if_neg (show ¬ 2 < kindF e.val by omega)]
  rfl
set_option maxRecDepth 100000 in
set_option maxHeartbeats 2000000 in
theorem vcheck_any (e : El) (w : World) (he : e.Ok) :
    Calls Tryz.prog 60 #[.agg #[.int .u8 e.kind, .string e.name, .string e.a, .string e.b, .string e.c, .string e.d, .float .f64 e.val, .int .i64 e.ph]] w (RetI (checkE e) w) := by
  have HE := hid he
  clear he
  cases hk : isK e.kind
  · have HK := hid hk
    clear hk
    go_enter Tryz.func60, Tryz.ntmps60
    go_wp2_with (go_at_call 79; refine (rowof_agg _ _).mono ?_; rintro e1 w1 ⟨rfl, hb1⟩; rw [HK.out])
    (try rw [Exit.noGoto_ret])
    go_ret
    have hb := ((Below.refl _ w).alloc (Nat.le_refl _) _).trans (hb1.mono (by simp))
    exact ⟨ret_int (by unfold checkE; rw [HK.out]; rfl), hb.alloc hb.size _⟩
  · have HK := hid hk
    clear hk
    go_enter Tryz.func60, Tryz.ntmps60
    go_upto_region 2 with (go_at_call 79; refine (rowof_agg _ _).mono ?_; rintro e1 w1 ⟨rfl, hb1⟩; rw [HK.out]; have HB1 := hid hb1; clear hb1)
    have hA0 := (HB1.out.block w.heap.size (by simp)).trans (heap_alloc_new w _)
    have hlt1 : w.heap.size < w1.heap.size := by have := HB1.out.size; simp at this; omega
    have HBW1 := hid ((((Below.refl _ w).alloc (Nat.le_refl _) _).trans (HB1.out.mono (by simp))).alloc (Nat.le_of_lt hlt1) (.cells #[.int .u8 (kLet e.kind), .string (kUnit e.kind), .bool (kAb e.kind), .bool (kFo e.kind), .bool (kPh e.kind)] 126))
    have hA1 := heap_past_of (o' := .cells #[.int .u8 (kLet e.kind), .string (kUnit e.kind), .bool (kAb e.kind), .bool (kFo e.kind), .bool (kPh e.kind)] 126) hA0
    have hR1 := heap_alloc_new w1 (.cells #[.int .u8 (kLet e.kind), .string (kUnit e.kind), .bool (kAb e.kind), .bool (kFo e.kind), .bool (kPh e.kind)] 126)
    obtain ⟨gr, hgr⟩ : ∃ gr, w1.heap.size = gr := ⟨_, rfl⟩
    generalize w1.alloc (.cells #[.int .u8 (kLet e.kind), .string (kUnit e.kind), .bool (kAb e.kind), .bool (kFo e.kind), .bool (kPh e.kind)] 126) = w2 at *
    rw [hgr] at *
    clear hgr hA0 HB1 hlt1
    have k1 := (block_cells hA1).1 1 _ rfl
    have HA := hid hA1
    have HR := hid hR1
    clear hA1 hR1
    go_upto_region 5 with (go_at_call 80; refine (vname_any _ _ HE.out.name).mono ?_; rintro e3 w3 ⟨rfl, hb3⟩; have HB3 := hid hb3; clear hb3)
    have HBW3 := hid (HBW1.out.trans (HB3.out.mono HBW1.out.size))
    obtain ⟨hac, _⟩ := block_cells (heap_later2 HB3.out HA.out)
    obtain ⟨hrc, _⟩ := block_cells (heap_later2 HB3.out HR.out)
    have c0 := hac 0 _ rfl
    have c2 := hac 2 _ rfl
    have c3 := hac 3 _ rfl
    have c4 := hac 4 _ rfl
    have c5 := hac 5 _ rfl
    have c6 := hac 6 _ rfl
    have c7 := hac 7 _ rfl
    have r2 := hrc 2 _ rfl
    have r3 := hrc 3 _ rfl
    have r4 := hrc 4 _ rfl
    clear hac hrc HA HR HBW1 HB3 k1
    go_cut [5, 6, 56] (fun _ _ t wx => t = .bool (nameBad e) ∧ Below w3.heap.size w3 wx)
    case first =>
      have hself := Below.refl w3.heap.size w3
      rcases name_ways e with ⟨h1, h0⟩ | ⟨h1, h2, h0⟩ | ⟨h1, h2, h3, h0⟩ | ⟨h1, h2, h3, h4, h0⟩ | ⟨h1, h2, h3, h4, h5, h0⟩ | ⟨h1, h2, h3, h4, h5, h6, h0⟩ | ⟨h1, h2, h3, h4, h5, h6, h7, h0⟩ | ⟨h1, h2, h3, h4, h5, h6, h7, h0⟩
      all_goals
        have H0 := hid h0
        clear h0
        go_wp2_with (go_at_call 81; refine (vnode_any _ _ (by first | exact HE.out.a | exact HE.out.b | exact HE.out.c | exact HE.out.d)).mono ?_; rintro en wn ⟨rfl, hbn⟩; have := below_next (w := w3) (by assumption) hbn; have := cell_later (a := ⟨w.heap.size, 0, none⟩) hbn (by assumption); have := cell_later (a := ⟨w.heap.size, 2, none⟩) hbn (by assumption); have := cell_later (a := ⟨w.heap.size, 3, none⟩) hbn (by assumption); have := cell_later (a := ⟨w.heap.size, 4, none⟩) hbn (by assumption); have := cell_later (a := ⟨w.heap.size, 5, none⟩) hbn (by assumption); have := cell_later (a := ⟨w.heap.size, 6, none⟩) hbn (by assumption); have := cell_later (a := ⟨w.heap.size, 7, none⟩) hbn (by assumption); have := cell_later (a := ⟨gr, 2, none⟩) hbn (by assumption); have := cell_later (a := ⟨gr, 3, none⟩) hbn (by assumption); have := cell_later (a := ⟨gr, 4, none⟩) hbn (by assumption))
        go_meet
        exact ⟨by rw [H0.out], by assumption⟩
    case rest =>
      obtain ⟨wa, rfl⟩ : ∃ wa : World, wa = wc := ⟨_, rfl⟩
      obtain ⟨rfl, hbn⟩ := hcut
      have HBA := hid (HBW3.out.trans (hbn.mono HBW3.out.size))
      have d0 := cell_later hbn c0
      have d2 := cell_later hbn c2
      have d3 := cell_later hbn c3
      have d4 := cell_later hbn c4
      have d5 := cell_later hbn c5
      have d6 := cell_later hbn c6
      have d7 := cell_later hbn c7
      have s2 := cell_later hbn r2
      have s3 := cell_later hbn r3
      have s4 := cell_later hbn r4
      clear c0 c2 c3 c4 c5 c6 c7 r2 r3 r4 hbn HBW3
      cases hn : nameBad e
      · have HN := hid hn
        clear hn
        go_upto_region 7 with fail
        go_cut [86] (fun t wx => t = .bool (argBad e) ∧ wx = wa)
        case first =>
          rcases arg_ways e with ⟨h1, h0⟩ | ⟨h1, g1, h2, h3, h0⟩ | ⟨h1, g1, h2, h3, h4, h0⟩ | ⟨h1, g1, h2, h3, h4, h5, h0⟩ | ⟨h1, g1, h2, h3, h4, h5, h6, h0⟩ | ⟨h1, g1, h2, h3, h4, h5, h6, h0⟩ | ⟨h1, g1, h2, h3, h0⟩ | ⟨h1, g1, h2, h3, h4, h0⟩ | ⟨h1, g1, h2, h3, h4, h0⟩
          all_goals
            have H0 := hid h0
            clear h0
            go_wp2_with fail
            go_meet
            exact ⟨by rw [H0.out], rfl⟩
        case rest =>
          obtain ⟨rfl, rfl⟩ := hcut
          cases hg : argBad e
          · have HG := hid hg
            clear hg
            by_cases hk2 : 2 < kindF e.val
            · go_wp2_with (go_at_call 82; refine (kind_any _ _ HE.out.val).mono ?_; rintro e5 w5 ⟨rfl, rfl⟩)
              (try rw [Exit.noGoto_ret])
              go_ret
              exact ⟨ret_int (by unfold checkE; rw [HK.out, HN.out, HG.out, if_pos hk2]; rfl), HBA.out⟩
            · have HK2 := hid (show kindF e.val ≤ 2 by omega)
              cases ha : kAb e.kind
              · go_wp2_with (go_at_call 82; refine (kind_any _ _ HE.out.val).mono ?_; rintro e5 w5 ⟨rfl, rfl⟩)
                (try rw [Exit.noGoto_ret])
                go_ret
                exact ⟨ret_int (check_end HK.out HN.out HG.out HK2.out (b := false) (by rw [ha]; rfl)).symm, HBA.out⟩
              · have HA := hid ha
                go_wp2_with (go_at_call 82; refine (kind_any _ _ HE.out.val).mono ?_; rintro e5 w5 ⟨rfl, rfl⟩)
                · rename_i hord
                  have HO := hid hord
                  clear hord
                  (try rw [Exit.noGoto_ret])
                  go_ret
                  exact ⟨ret_int (check_end HK.out HN.out HG.out HK2.out (b := true) (by rw [HA.out, above_no HO.out]; rfl)).symm, HBA.out⟩
                · rename_i hord
                  have HO := hid hord
                  clear hord
                  (try rw [Exit.noGoto_ret])
                  go_ret
                  exact ⟨ret_int (check_end HK.out HN.out HG.out HK2.out (b := false) (by rw [HA.out, above_yes HK2.out HO.out]; rfl)).symm, HBA.out⟩
          · have HG := hid hg
            clear hg
            go_wp2_with fail
            (try rw [Exit.noGoto_ret])
            go_ret
            exact ⟨ret_int (by unfold checkE; rw [HK.out, HN.out, HG.out]; rfl), HBA.out⟩
      · have HN := hid hn
        clear hn
        go_wp2_with fail
        (try rw [Exit.noGoto_ret])
        go_ret
        exact ⟨ret_int (by unfold checkE; rw [HK.out, HN.out]; rfl), HBA.out⟩
end
section
/- Walks of the packages parts, gridworkref02 and gridworkkit: whether a number is finite, whether two are the same. -/
open Go.RowKit
/-- 'x - x == 0' of what an operation gave. -/
theorem ffin_of {x r : Nat} (h : fc r = fop .sub (fc x) (fc x)) : (FloatKind.f64.format.order r 0 == some .eq) = ffin (fc x) := by
  have e0 : fc 0 = 0 := fc_of_not (by decide +kernel)
  show (ford r 0 == some .eq) = _
  rw [← ford_fc, h, e0]; rfl
/-- Whether both parts are finite, as the walks come to it. -/
theorem cfin_yes {a b r s : Nat} (h1 : fc r = fop .sub (fc a) (fc a)) (t : FloatKind.f64.format.order r 0 = some .eq) (h2 : fc s = fop .sub (fc b) (fc b)) :
    (FloatKind.f64.format.order s 0 == some .eq) = cfin (fc a, fc b) := by
  rw [ffin_of h2, cfin, ← ffin_of h1, t]; rfl
theorem cfin_no {a b r : Nat} (h1 : fc r = fop .sub (fc a) (fc a)) (t : ¬ FloatKind.f64.format.order r 0 = some .eq) : false = cfin (fc a, fc b) := by
  rw [cfin, ← ffin_of h1]
  have : (FloatKind.f64.format.order r 0 == some .eq) = false := by simpa using t
  rw [this]; rfl
theorem ret_bool {a b : Bool} (h : a = b) : Ending.returned (.bool a) = .returned (.bool b) := by rw [h]
set_option maxHeartbeats 400000 in
theorem pfin_any (a b : Nat) (w : World) :
    Calls Tryz.prog 96 #[.complex .f64 a b] w (Ret (fun v => v = .bool (cfin (fc a, fc b))) w) := by
  go_enter Tryz.func96, Tryz.ntmps96
  go_wp2_with (refine wpList_float rfl _ _ _ _ _ rfl rfl _ _ rfl rfl ?_; intro _ _ _)
  all_goals go_ret
  · rename_i r1 n1 h1 t r2 n2 h2
    exact ⟨_, _, rfl, rfl, congrArg Value.bool (cfin_yes h1 t h2)⟩
  · rename_i r1 n1 h1 t
    exact ⟨_, _, rfl, rfl, congrArg Value.bool (cfin_no h1 t)⟩
set_option maxHeartbeats 400000 in
theorem rfinr_any (a : Nat) (w : World) :
    Calls Tryz.prog 39 #[.float .f64 a] w (Ret (fun v => v = .bool (ffin (fc a))) w) := by
  go_enter Tryz.func39, Tryz.ntmps39
  go_wp2_with (refine wpList_float rfl _ _ _ _ _ rfl rfl _ _ rfl rfl ?_; intro _ _ _)
  go_ret
  rename_i r1 n1 h1
  exact ⟨_, _, rfl, rfl, congrArg Value.bool (ffin_of h1)⟩
set_option maxHeartbeats 400000 in
theorem number_any (x y : Nat) (w : World) :
    Calls Tryz.prog 45 #[.agg #[.int .u64 x, .int .u64 y]] w fun e w' => e = .returned (.complex .f64 x y) ∧ ∃ n, w' = (w.alloc (.cells #[.int .u64 x, .int .u64 y] 94)).drewN n := by
  have b2 := frombits_law
  go_enter Tryz.func45, Tryz.ntmps45
  go_wp2
  go_quiet (fail)
  go_wp2
  go_ret
  exact ⟨rfl, _, rfl⟩
/-- The same real: the same bits, or both NaN. -/
theorem same_bits_nan {a b : Nat} (h : ¬ (a = b)) : (fc a = fc b) ↔ (fnan a = true ∧ fnan b = true) := by
  constructor
  · intro hf
    by_cases ha : fnan a = true
    · refine ⟨ha, ?_⟩
      rw [fc_of_nan ha] at hf
      exact fc_eq_qnan.1 hf.symm
    · by_cases hb : fnan b = true
      · rw [fc_of_nan hb] at hf
        exact absurd (fc_eq_qnan.1 hf) ha
      · rw [fc_of_not (by simpa using ha), fc_of_not (by simpa using hb)] at hf
        exact absurd hf h
  · rintro ⟨ha, hb⟩
    rw [fc_of_nan ha, fc_of_nan hb]
theorem neq_self (x : Nat) : (FloatKind.f64.format.order x x != some .eq) = fnan x := by
  have := ford_self x
  unfold ford at this
  unfold bne
  rw [this]; simp
theorem same_1 {a b : Nat} (h : (a : Int) = b) : true = (fc a == fc b) := by
  have : a = b := by omega
  simp [this]
theorem same_2 {a b : Nat} (h : ¬ (a : Int) = b) (h2 : FloatKind.f64.format.order a a = some .eq) : ((a : Int) == b) = (fc a == fc b) := by
  have hab : ¬ a = b := by omega
  have hn : fnan a = false := by rw [← neq_self, h2]; rfl
  have h1 : ((a : Int) == b) = false := by simpa using h
  have h3 : (fc a == fc b) = false := by
    rw [beq_eq_false_iff_ne]
    intro e
    have := ((same_bits_nan hab).1 e).1
    rw [hn] at this; cases this
  rw [h1, h3]
theorem same_3 {a b : Nat} (h : ¬ (a : Int) = b) :
    ((a : Int) == b || FloatKind.f64.format.order a a != some .eq && FloatKind.f64.format.order b b != some .eq) = (fc a == fc b) := by
  have hab : ¬ a = b := by omega
  have h1 : ((a : Int) == b) = false := by simpa using h
  rw [h1, neq_self, neq_self, Bool.eq_iff_iff]
  simp [same_bits_nan hab]
set_option maxHeartbeats 400000 in
theorem samereal_any (a b : Nat) (w : World) :
    Calls Tryz.prog 58 #[.float .f64 a, .float .f64 b] w fun e w' => e = .returned (.bool (fc a == fc b)) ∧ w = w' := by
  have b1 := bits_law
  go_enter Tryz.func58, Tryz.ntmps58
  go_wp2
  all_goals go_ret
  · rename_i h; exact ⟨ret_bool (same_1 h), rfl⟩
  · rename_i h h2; exact ⟨ret_bool (same_2 h h2), rfl⟩
  · rename_i h h2; exact ⟨ret_bool (same_3 h), rfl⟩
set_option maxHeartbeats 400000 in
theorem samenum_any (a b c d : Nat) (w : World) :
    Calls Tryz.prog 25 #[.complex .f64 a b, .complex .f64 c d] w fun e w' => e = .returned (.bool (fc a == fc c && fc b == fc d)) ∧ w = w' := by
  go_enter Tryz.func25, Tryz.ntmps25
  go_wp2_with (go_at_call 58; refine (samereal_any _ _ _).mono ?_; rintro e w' ⟨rfl, rfl⟩)
  all_goals go_ret
  all_goals exact ⟨ret_bool (by simp [*]), rfl⟩
end
end Go.Proofs.YtjeedckmkicnoaaGreatDoor
