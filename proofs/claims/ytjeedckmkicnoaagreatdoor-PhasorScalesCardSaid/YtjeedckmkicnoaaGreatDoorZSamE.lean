/- a part of the proof of the last text -/
import Derived.Test.YtjeedckmkicnoaaGreatDoorZReg2
namespace Go.Proofs.YtjeedckmkicnoaaGreatDoor
set_option linter.all false
set_option maxHeartbeats 4000000
set_option maxRecDepth 100000
open Go.RowKit
theorem sl_atE {P : Program} {t e : TypeId} {i : TypeInfo} (ht : P.underlying t = some (.slice e)) (hi : P.info? e = some i) (hs : i.size = 8)
    {w : World} {n c g off : Nat} {l : List El} (h : IsSl w 8 (.slice (some ⟨g, off, none⟩) n c) n (l.flatMap ea)) (hl : l.length = n) {k : Nat} {x : El} (hx : l[k]? = some x) :
    (∀ w', (Instr.indexAt t (.slice (some ⟨g, off, none⟩) n c) (.int .i64 k)).run P w' = .ok (.pointer (some ⟨g, off + k * 8, none⟩)) w') ∧ ∀ j u, (ea x)[j]? = some u → w.cell? ⟨g, off + k * 8 + j, none⟩ = some u := by
  have hk := (List.getElem?_eq_some_iff.1 hx).1
  have he : P.elem t = e := by simp [Program.elem, ht]
  refine ⟨fun w' => ?_, fun j u hu => ?_⟩
  · rw [run_indexAt_slice w' t _ n c .i64 k (by rw [he]; exact ht), if_pos ⟨by omega, by omega⟩, he]
    simp [sizeOf, typeInfo, hi, hs, Result.andThen, Addr.add]
  · rcases h.2 with ⟨h6, _⟩ | ⟨g2, off2, c', hv, hc, hg, hcell⟩
    · cases h6
    · cases hv
      have hj : j < 8 := by rw [← ea_len x]; exact (List.getElem?_eq_some_iff.1 hu).1
      have := hcell (k * 8 + j) (by omega)
      rw [Nat.add_assoc, this, flat_get ea_len l k j hj, hx]; exact hu
set_option maxRecDepth 100000 in
set_option maxHeartbeats 1000000 in
theorem sameel_any (x : El) (w : World) : Calls Tryz.prog 42 #[.agg #[.int .u8 x.kind, .string x.name, .string x.a, .string x.b, .string x.c, .string x.d, .float .f64 x.val, .int .i64 x.ph], .agg #[.int .u8 x.kind, .string x.name, .string x.a, .string x.b, .string x.c, .string x.d, .float .f64 x.val, .int .i64 x.ph]] w fun e w' => e = .returned (.bool true) ∧ Below w.heap.size w w' := by
  obtain ⟨t1, t2, t3⟩ := two_blocks w (.cells #[.int .u8 x.kind, .string x.name, .string x.a, .string x.b, .string x.c, .string x.d, .float .f64 x.val, .int .i64 x.ph] 81) (.cells #[.int .u8 x.kind, .string x.name, .string x.a, .string x.b, .string x.c, .string x.d, .float .f64 x.val, .int .i64 x.ph] 81)
  have HB := hid t3
  have h1 := block_cells t1
  have c0 := h1.1 0 _ rfl
  have c1 := h1.1 1 _ rfl
  have c2 := h1.1 2 _ rfl
  have c3 := h1.1 3 _ rfl
  have c4 := h1.1 4 _ rfl
  have c5 := h1.1 5 _ rfl
  have c6 := h1.1 6 _ rfl
  have c7 := h1.1 7 _ rfl
  have h2 := block_cells t2
  have d0 := h2.1 0 _ rfl
  have d1 := h2.1 1 _ rfl
  have d2 := h2.1 2 _ rfl
  have d3 := h2.1 3 _ rfl
  have d4 := h2.1 4 _ rfl
  have d5 := h2.1 5 _ rfl
  have d6 := h2.1 6 _ rfl
  have d7 := h2.1 7 _ rfl
  clear h1 h2 t1 t2 t3
  go_enter Tryz.func42, Tryz.ntmps42
  go_upto_region 1 with fail
  generalize (w.alloc (.cells #[.int .u8 x.kind, .string x.name, .string x.a, .string x.b, .string x.c, .string x.d, .float .f64 x.val, .int .i64 x.ph] 81)).alloc (.cells #[.int .u8 x.kind, .string x.name, .string x.a, .string x.b, .string x.c, .string x.d, .float .f64 x.val, .int .i64 x.ph] 81) = w1 at *
  go_wp2_with (go_at_call 58; refine (samereal_any _ _ _).mono ?_; rintro e w' ⟨rfl, rfl⟩; rw [show (fc x.val == fc x.val) = true by simp])
  (try rw [Exit.noGoto_ret])
  go_ret
  exact ⟨rfl, HB.out⟩
set_option maxRecDepth 100000 in
set_option maxHeartbeats 2000000 in
theorem sameels_any (v u : Value) (l : List El) (w : World) (hv : IsSl w 8 v l.length (l.flatMap ea)) (hu : IsSl w 8 u l.length (l.flatMap ea)) (hl : l.length ≤ 100000) :
    Calls Tryz.prog 12 #[v, u] w fun e w' => e = .returned (.bool true) ∧ Below w.heap.size w w' := by
  obtain ⟨a, c, rfl⟩ := hv.form
  obtain ⟨b, d, rfl⟩ := hu.form
  obtain ⟨ie, hie, he0, he1, he2⟩ := info_parts infoEa
  have HV := hid hv
  have HU := hid hu
  clear hv hu
  go_enter Tryz.func12, Tryz.ntmps12
  go_wp2
  go_loopw [5] (fun i wr => ∃ k : Nat, k ≤ l.length ∧ i = .int .i64 k ∧ Below w.heap.size w wr) (fun i _ => l.length - (intOf i).toNat)
  case atStart => exact ⟨0, Nat.zero_le _, rfl, Below.refl _ _⟩
  case round =>
    obtain ⟨k, hk, rfl, hb⟩ := hrel
    obtain ⟨wo, rfl⟩ : ∃ wo : World, wo = wr := ⟨_, rfl⟩
    have HB := hid hb
    clear hb
    by_cases hlt : k < l.length
    · obtain ⟨x, hx⟩ : ∃ x, l[k]? = some x := ⟨_, List.getElem?_eq_getElem hlt⟩
      obtain ⟨g, o, rfl⟩ : ∃ g o, a = some ⟨g, o, none⟩ := by
        rcases HV.out.2 with ⟨h1, h2⟩ | ⟨g, o, c', h1, _⟩
        · omega
        · cases h1; exact ⟨g, o, rfl⟩
      obtain ⟨g2, o2, rfl⟩ : ∃ g o, b = some ⟨g, o, none⟩ := by
        rcases HU.out.2 with ⟨h1, h2⟩ | ⟨g, o, c', h1, _⟩
        · omega
        · cases h1; exact ⟨g, o, rfl⟩
      have HX := hid hx
      clear hx
      go_upto_region 6 with fail
      refine wp_region_any (by kernel_rfl) ?_
      change wpAny _ _ _ _ _ _ _ (World.drew _)
      refine wpAny_makersD [⟨some 17, 0, []⟩, ⟨some 18, 1, []⟩, ⟨some 19, 2, []⟩, ⟨some 20, 3, []⟩, ⟨some 21, 4, []⟩, ⟨some 22, 5, []⟩, ⟨some 23, 6, []⟩, ⟨some 24, 7, []⟩, ⟨some 25, 8, []⟩]
        (fun w' => IsSl w' 8 (.slice (some ⟨g, o, none⟩) l.length c) l.length (l.flatMap ea) ∧ IsSl w' 8 (.slice (some ⟨g2, o2, none⟩) l.length d) l.length (l.flatMap ea))
        (fun oq v _ _ _ _ => match oq with | 0 => v = .slice (some ⟨g, o, none⟩) l.length c | 1 => v = .int .i64 k | 2 => v = .pointer (some ⟨g, o + k * 8, none⟩) | 3 => v = .agg #[.int .u8 x.kind, .string x.name, .string x.a, .string x.b, .string x.c, .string x.d, .float .f64 x.val, .int .i64 x.ph] | 4 => v = .slice (some ⟨g2, o2, none⟩) l.length d | 5 => v = .int .i64 k | 6 => v = .pointer (some ⟨g2, o2 + k * 8, none⟩) | 7 => v = .agg #[.int .u8 x.kind, .string x.name, .string x.a, .string x.b, .string x.c, .string x.d, .float .f64 x.val, .int .i64 x.ph] | 8 => v = .bool true | _ => True) (by kernel_rfl) ?hSs (fun _ _ hb h => ⟨h.1.below hb (Nat.le_refl _), h.2.below hb (Nat.le_refl _)⟩) (fun _ _ _ _ _ _ _ _ _ h => h) ?hops ?hends
      case hSs => exact ⟨HV.out.below (HB.out.trans (Below.refl _ _).drew) (Nat.le_refl _), HU.out.below (HB.out.trans (Below.refl _ _).drew) (Nat.le_refl _)⟩
      case hops =>
        delta Owed
        simp only [fillD, Act.put, List.setIfInBounds_toArray, List.set_cons_zero, List.set_cons_succ]
        refine Each.cons rfl ?_ (Each.cons rfl ?_ (Each.cons rfl ?_ (Each.cons rfl ?_ (Each.cons rfl ?_ (Each.cons rfl ?_ (Each.cons rfl ?_ (Each.cons rfl ?_ (Each.cons rfl ?_ Each.nil))))))))
        · intro vs w2 hb2 hS2 hR2 K hK
          simp only [List.set_cons_zero, List.set_cons_succ] at hK ⊢
          go_simp
          exact hK.out _ _ (Below.refl _ _) rfl
        · intro vs w2 hb2 hS2 hR2 K hK
          simp only [List.set_cons_zero, List.set_cons_succ] at hK ⊢
          go_simp
          exact hK.out _ _ (Below.refl _ _) rfl
        · intro vs w2 hb2 hS2 hR2 K hK
          have h0 : vs 0 = .slice (some ⟨g, o, none⟩) l.length c := by obtain ⟨_, _, _, h⟩ := hR2 0 (by kernel_rfl); exact h
          have h1 : vs 1 = .int .i64 k := by obtain ⟨_, _, _, h⟩ := hR2 1 (by kernel_rfl); exact h
          simp only [List.set_cons_zero, List.set_cons_succ] at hK ⊢
          obtain ⟨k0, kc⟩ := sl_atE Tryz.underlying37 hie he1 hS2.1 rfl HX.out
          have c0 := kc 0 _ rfl
          have c1 := kc 1 _ rfl
          have c2 := kc 2 _ rfl
          have c3 := kc 3 _ rfl
          have c4 := kc 4 _ rfl
          have c5 := kc 5 _ rfl
          have c6 := kc 6 _ rfl
          have c7 := kc 7 _ rfl
          rw [Nat.add_zero] at c0
          obtain ⟨k1, kd⟩ := sl_atE Tryz.underlying37 hie he1 hS2.2 rfl HX.out
          have d0 := kd 0 _ rfl
          have d1 := kd 1 _ rfl
          have d2 := kd 2 _ rfl
          have d3 := kd 3 _ rfl
          have d4 := kd 4 _ rfl
          have d5 := kd 5 _ rfl
          have d6 := kd 6 _ rfl
          have d7 := kd 7 _ rfl
          rw [Nat.add_zero] at d0
          clear kc kd
          simp only [h0, h1] at hK ⊢
          go_simp
          exact hK.out _ _ (Below.refl _ _) rfl
        · intro vs w2 hb2 hS2 hR2 K hK
          have h2 : vs 2 = .pointer (some ⟨g, o + k * 8, none⟩) := by obtain ⟨_, _, _, h⟩ := hR2 2 (by kernel_rfl); exact h
          simp only [List.set_cons_zero, List.set_cons_succ] at hK ⊢
          obtain ⟨k0, kc⟩ := sl_atE Tryz.underlying37 hie he1 hS2.1 rfl HX.out
          have c0 := kc 0 _ rfl
          have c1 := kc 1 _ rfl
          have c2 := kc 2 _ rfl
          have c3 := kc 3 _ rfl
          have c4 := kc 4 _ rfl
          have c5 := kc 5 _ rfl
          have c6 := kc 6 _ rfl
          have c7 := kc 7 _ rfl
          rw [Nat.add_zero] at c0
          obtain ⟨k1, kd⟩ := sl_atE Tryz.underlying37 hie he1 hS2.2 rfl HX.out
          have d0 := kd 0 _ rfl
          have d1 := kd 1 _ rfl
          have d2 := kd 2 _ rfl
          have d3 := kd 3 _ rfl
          have d4 := kd 4 _ rfl
          have d5 := kd 5 _ rfl
          have d6 := kd 6 _ rfl
          have d7 := kd 7 _ rfl
          rw [Nat.add_zero] at d0
          clear kc kd
          simp only [h2] at hK ⊢
          go_simp
          exact hK.out _ _ (Below.refl _ _) rfl
        · intro vs w2 hb2 hS2 hR2 K hK
          simp only [List.set_cons_zero, List.set_cons_succ] at hK ⊢
          go_simp
          exact hK.out _ _ (Below.refl _ _) rfl
        · intro vs w2 hb2 hS2 hR2 K hK
          simp only [List.set_cons_zero, List.set_cons_succ] at hK ⊢
          go_simp
          exact hK.out _ _ (Below.refl _ _) rfl
        · intro vs w2 hb2 hS2 hR2 K hK
          have h4 : vs 4 = .slice (some ⟨g2, o2, none⟩) l.length d := by obtain ⟨_, _, _, h⟩ := hR2 4 (by kernel_rfl); exact h
          have h5 : vs 5 = .int .i64 k := by obtain ⟨_, _, _, h⟩ := hR2 5 (by kernel_rfl); exact h
          simp only [List.set_cons_zero, List.set_cons_succ] at hK ⊢
          obtain ⟨k0, kc⟩ := sl_atE Tryz.underlying37 hie he1 hS2.1 rfl HX.out
          have c0 := kc 0 _ rfl
          have c1 := kc 1 _ rfl
          have c2 := kc 2 _ rfl
          have c3 := kc 3 _ rfl
          have c4 := kc 4 _ rfl
          have c5 := kc 5 _ rfl
          have c6 := kc 6 _ rfl
          have c7 := kc 7 _ rfl
          rw [Nat.add_zero] at c0
          obtain ⟨k1, kd⟩ := sl_atE Tryz.underlying37 hie he1 hS2.2 rfl HX.out
          have d0 := kd 0 _ rfl
          have d1 := kd 1 _ rfl
          have d2 := kd 2 _ rfl
          have d3 := kd 3 _ rfl
          have d4 := kd 4 _ rfl
          have d5 := kd 5 _ rfl
          have d6 := kd 6 _ rfl
          have d7 := kd 7 _ rfl
          rw [Nat.add_zero] at d0
          clear kc kd
          simp only [h4, h5] at hK ⊢
          go_simp
          exact hK.out _ _ (Below.refl _ _) rfl
        · intro vs w2 hb2 hS2 hR2 K hK
          have h6 : vs 6 = .pointer (some ⟨g2, o2 + k * 8, none⟩) := by obtain ⟨_, _, _, h⟩ := hR2 6 (by kernel_rfl); exact h
          simp only [List.set_cons_zero, List.set_cons_succ] at hK ⊢
          obtain ⟨k0, kc⟩ := sl_atE Tryz.underlying37 hie he1 hS2.1 rfl HX.out
          have c0 := kc 0 _ rfl
          have c1 := kc 1 _ rfl
          have c2 := kc 2 _ rfl
          have c3 := kc 3 _ rfl
          have c4 := kc 4 _ rfl
          have c5 := kc 5 _ rfl
          have c6 := kc 6 _ rfl
          have c7 := kc 7 _ rfl
          rw [Nat.add_zero] at c0
          obtain ⟨k1, kd⟩ := sl_atE Tryz.underlying37 hie he1 hS2.2 rfl HX.out
          have d0 := kd 0 _ rfl
          have d1 := kd 1 _ rfl
          have d2 := kd 2 _ rfl
          have d3 := kd 3 _ rfl
          have d4 := kd 4 _ rfl
          have d5 := kd 5 _ rfl
          have d6 := kd 6 _ rfl
          have d7 := kd 7 _ rfl
          rw [Nat.add_zero] at d0
          clear kc kd
          simp only [h6] at hK ⊢
          go_simp
          exact hK.out _ _ (Below.refl _ _) rfl
        · intro vs w2 hb2 hS2 hR2 K hK
          have h3 : vs 3 = .agg #[.int .u8 x.kind, .string x.name, .string x.a, .string x.b, .string x.c, .string x.d, .float .f64 x.val, .int .i64 x.ph] := by obtain ⟨_, _, _, h⟩ := hR2 3 (by kernel_rfl); exact h
          have h7 : vs 7 = .agg #[.int .u8 x.kind, .string x.name, .string x.a, .string x.b, .string x.c, .string x.d, .float .f64 x.val, .int .i64 x.ph] := by obtain ⟨_, _, _, h⟩ := hR2 7 (by kernel_rfl); exact h
          simp only [List.set_cons_zero, List.set_cons_succ] at hK ⊢
          simp only [h3, h7] at hK ⊢
          rw [if_pos (by rfl)]
          go_wp2_with (go_at_call 42; refine (sameel_any x _).mono ?_; rintro e w5 ⟨rfl, hb⟩)
          exact hK.out _ _ hb rfl
      case hends =>
        intro vs wx lo hiv hbx hSx hRx hdx
        have h0 : vs 0 = .slice (some ⟨g, o, none⟩) l.length c := (hRx 0 (by kernel_rfl)).1
        have h1 : vs 1 = .int .i64 k := (hRx 1 (by kernel_rfl)).1
        have h2 : vs 2 = .pointer (some ⟨g, o + k * 8, none⟩) := (hRx 2 (by kernel_rfl)).1
        have h3 : vs 3 = .agg #[.int .u8 x.kind, .string x.name, .string x.a, .string x.b, .string x.c, .string x.d, .float .f64 x.val, .int .i64 x.ph] := (hRx 3 (by kernel_rfl)).1
        have h4 : vs 4 = .slice (some ⟨g2, o2, none⟩) l.length d := (hRx 4 (by kernel_rfl)).1
        have h5 : vs 5 = .int .i64 k := (hRx 5 (by kernel_rfl)).1
        have h6 : vs 6 = .pointer (some ⟨g2, o2 + k * 8, none⟩) := (hRx 6 (by kernel_rfl)).1
        have h7 : vs 7 = .agg #[.int .u8 x.kind, .string x.name, .string x.a, .string x.b, .string x.c, .string x.d, .float .f64 x.val, .int .i64 x.ph] := (hRx 7 (by kernel_rfl)).1
        have H8 := (hRx 8 (by kernel_rfl)).1
        have h8 : vs 8 = .bool true := H8
        simp only [fillD, Act.put, List.setIfInBounds_toArray, List.set_cons_zero, List.set_cons_succ, h0, h1, h2, h3, h4, h5, h6, h7, h8]
        have hb := below_drew_left hbx
        have HB2 := hid (below_next HB.out hb)
        clear hbx hSx hRx hdx hb h0 h1 h2 h3 h4 h5 h6 h7 h8
        refine wpAny_one (i := 9) (by kernel_rfl) rfl (fun K hK => ?_)
        go_simp
        refine hK.out _ _ ?_
        clear hK
        refine wpAny_done (by kernel_rfl) ?_ _
        go_wp2
        go_roundw
        case rel => exact ⟨k + 1, by omega, by go_num, HB2.out⟩
        case measure => simp [intOf]; omega
    · go_wp2
      (try simp only [Exit.inBlock, Exit.then])
      (try rw [Exit.noGoto_ret])
      go_ret
      exact ⟨rfl, HB.out⟩
end Go.Proofs.YtjeedckmkicnoaaGreatDoor
