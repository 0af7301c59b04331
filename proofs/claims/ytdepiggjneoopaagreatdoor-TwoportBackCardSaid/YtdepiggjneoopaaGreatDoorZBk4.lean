/- a part of the proof of the last text -/
import Derived.Test.YtdepiggjneoopaaGreatDoorZBk3
import Derived.Test.YtdepiggjneoopaaGreatDoorZTp4
namespace Go.Proofs.YtdepiggjneoopaaGreatDoor
set_option linter.all false
set_option maxHeartbeats 4000000
set_option maxRecDepth 100000
open Go.RowKit FV
def nr (n : Int) : Nat := FloatKind.f64.nearest n
theorem rem_ok {a m : Int} (hm : 0 < m) (hm2 : m ≤ 2147483647) : IntKind.i32.wrap (a.tmod m) = a.tmod m := by
  have h5 : (a.tmod m).natAbs < m.natAbs := by rw [Int.natAbs_tmod]; exact Nat.mod_lt _ (by omega)
  exact IntWalk.i32_in _ ⟨by omega, by omega⟩
theorem isl_of4 {w : World} {q : Nat} {a b c d : Cx} (h : w.heap[q]? = some (.cells #[mkC a, mkC b, mkC c, mkC d] 48 (0, 0))) : IsSl w 1 (.slice (some ⟨q, 0, none⟩) 4 4) [a, b, c, d].length ([a, b, c, d].map mkC) :=
  IsSl.of_own (cells4_own (w := { w with heap := #[] }) (Nat.zero_le _) h)
theorem typ_neB {w : World} {g h t t' : Nat} {cs cs' : Array Value} (hg : w.heap[g]? = some (.cells cs t (0, 0))) (hh : w.heap[h]? = some (.cells cs' t' (0, 0))) (hne : t ≠ t') : g ≠ h := fun e => by
  subst e
  rw [hg] at hh
  exact hne (by injection hh with h1; injection h1)
def PairD (a b c d : Cx) (v : Value) (w : World) (lo hi : Nat) : Prop := ∃ q, v = .agg #[.int .i64 2, .int .i64 2, .slice (some ⟨q, 0, none⟩) 4 4] ∧ lo ≤ q ∧ q < hi ∧ w.heap[q]? = some (.cells #[mkC a, mkC b, mkC c, mkC d] 48 (0, 0))
theorem PairD.later {a b c d : Cx} {lo hi : Nat} {v : Value} {w w' : World} (h : PairD a b c d v w lo hi) (hb : Below w.heap.size w w') : PairD a b c d v w' lo hi := by
  obtain ⟨q, h1, h2, h3, h4⟩ := h
  exact ⟨q, h1, h2, h3, heap_next hb h4⟩
theorem rem_lt (a : Int) {m : Int} (hm : 0 < m) : (a.tmod m).natAbs < m.natAbs := by rw [Int.natAbs_tmod]; exact Nat.mod_lt _ (by omega)
set_option maxRecDepth 100000 in
set_option maxHeartbeats 1000000 in
theorem small_any (a b : Int) (w : World) (ha : -2147483648 ≤ a ∧ a < 2147483648) (hb : -2147483648 ≤ b ∧ b < 2147483648) :
    Calls Tryz.prog 16 #[.agg #[.int .i32 a, .int .i32 b]] w fun e w' => e = .returned (.complex .f64 (nr (a.tmod 1000)) (nr (b.tmod 1000))) ∧ Below w.heap.size w w' := by
  have r1 := rem_ok (a := a) (m := 1000) (by decide) (by decide)
  have r2 := rem_ok (a := b) (m := 1000) (by decide) (by decide)
  have hb1 := (Below.refl w.heap.size w).alloc (Nat.le_refl _) (.cells #[.int .i32 a, .int .i32 b] 55)
  have HB := hid hb1
  have HS := hid (heap_alloc_new w (.cells #[.int .i32 a, .int .i32 b] 55))
  clear hb1 ha hb
  go_enter Tryz.func16, Tryz.ntmps16
  go_upto_region 1 with fail
  generalize w.alloc (.cells #[.int .i32 a, .int .i32 b] 55) = w1 at *
  obtain ⟨gs, hgs⟩ : ∃ gs, w.heap.size = gs := ⟨_, rfl⟩
  rw [hgs] at HS ⊢
  clear hgs
  have hsc := block_cells HS.out
  have s0 := hsc.1 0 _ rfl
  have s1 := hsc.1 1 _ rfl
  clear hsc
  go_wp2
  (try simp only [Exit.inBlock, Exit.then])
  (try rw [Exit.noGoto_ret])
  go_ret
  exact ⟨rfl, HB.out⟩
set_option maxRecDepth 100000 in
set_option maxHeartbeats 1000000 in
theorem wnum_any (a b : Int) (w : World) (ha : -2147483648 ≤ a ∧ a < 2147483648) (hb : -2147483648 ≤ b ∧ b < 2147483648) :
    Calls Tryz.prog 21 #[.agg #[.int .i32 a, .int .i32 b]] w fun e w' => e = .returned (.complex .f64 (nr (a.tmod 1048577)) (nr (b.tmod 1048577))) ∧ Below w.heap.size w w' := by
  have r1 := rem_ok (a := a) (m := 1048577) (by decide) (by decide)
  have r2 := rem_ok (a := b) (m := 1048577) (by decide) (by decide)
  have hb1 := (Below.refl w.heap.size w).alloc (Nat.le_refl _) (.cells #[.int .i32 a, .int .i32 b] 55)
  have HB := hid hb1
  have HS := hid (heap_alloc_new w (.cells #[.int .i32 a, .int .i32 b] 55))
  clear hb1 ha hb
  go_enter Tryz.func21, Tryz.ntmps21
  go_upto_region 1 with fail
  generalize w.alloc (.cells #[.int .i32 a, .int .i32 b] 55) = w1 at *
  obtain ⟨gs, hgs⟩ : ∃ gs, w.heap.size = gs := ⟨_, rfl⟩
  rw [hgs] at HS ⊢
  clear hgs
  have hsc := block_cells HS.out
  have s0 := hsc.1 0 _ rfl
  have s1 := hsc.1 1 _ rfl
  clear hsc
  go_wp2
  (try simp only [Exit.inBlock, Exit.then])
  (try rw [Exit.noGoto_ret])
  go_ret
  exact ⟨rfl, HB.out⟩
theorem enter_B1 (args : Array Value) (w : World) : (callFunc 16 args).run Tryz.prog w = .ok (.enter 16 args) w := by
  have h : (Tryz.f16.name == "runtime.NumGoroutine") = false := by kernel_rfl
  have h2 : Tryz.f16.body.isNone = false := by kernel_rfl
  simp only [callFunc, Sem.run_bind, run_program, Result.andThen_ok, Tryz.func16, h, h2, Bool.false_eq_true, if_false, Sem.run_pure]
set_option maxRecDepth 100000 in
set_option maxHeartbeats 4000000 in
theorem back_walk (u0 u1 v0 v1 x0 x1 : Int) (ng : Bool) (w : World) (hlv : ∀ w' : World, Below w.heap.size w w' → Calls Tryz.prog 8 #[] w' fun e w'' => e = .returned (.bool true) ∧ Below w'.heap.size w' w'')
    (hu : (-2147483648 ≤ u0 ∧ u0 < 2147483648) ∧ (-2147483648 ≤ u1 ∧ u1 < 2147483648)) (hv : (-2147483648 ≤ v0 ∧ v0 < 2147483648) ∧ (-2147483648 ≤ v1 ∧ v1 < 2147483648)) (hx : (-2147483648 ≤ x0 ∧ x0 < 2147483648) ∧ (-2147483648 ≤ x1 ∧ x1 < 2147483648)) :
    Calls Tryz.prog 5 #[.agg #[.int .i32 u0, .int .i32 u1], .agg #[.int .i32 v0, .int .i32 v1], .agg #[.int .i32 x0, .int .i32 x1], .bool ng] w fun e w' => e = .returned (.bool true) ∧ Below w.heap.size w w' := by
  obtain ⟨U, hU⟩ : ∃ U, U = 1074 := ⟨_, rfl⟩
  have HUV := hid hU
  have HLV := hid hlv
  have HU := hid hu
  have HV := hid hv
  have HX := hid hx
  have hb1 := (Below.refl w.heap.size w).alloc (Nat.le_refl _) (.cells #[.int .i32 u0, .int .i32 u1] 55)
  have hb2 := hb1.alloc hb1.size (.cells #[.int .i32 v0, .int .i32 v1] 55)
  have hb3 := hb2.alloc hb2.size (.cells #[.int .i32 x0, .int .i32 x1] 55)
  have HB := hid hb3
  have k1 := heap_past_of (o' := (.cells #[.int .i32 x0, .int .i32 x1] 55)) (heap_past_of (o' := (.cells #[.int .i32 v0, .int .i32 v1] 55)) (heap_alloc_new w (.cells #[.int .i32 u0, .int .i32 u1] 55)))
  have k2 := heap_past_of (o' := (.cells #[.int .i32 x0, .int .i32 x1] 55)) (heap_alloc_new (w.alloc (.cells #[.int .i32 u0, .int .i32 u1] 55)) (.cells #[.int .i32 v0, .int .i32 v1] 55))
  have k3 := heap_alloc_new ((w.alloc (.cells #[.int .i32 u0, .int .i32 u1] 55)).alloc (.cells #[.int .i32 v0, .int .i32 v1] 55)) (.cells #[.int .i32 x0, .int .i32 x1] 55)
  rw [show (w.alloc (.cells #[.int .i32 u0, .int .i32 u1] 55)).heap.size = w.heap.size + 1 by simp] at k2
  rw [show ((w.alloc (.cells #[.int .i32 u0, .int .i32 u1] 55)).alloc (.cells #[.int .i32 v0, .int .i32 v1] 55)).heap.size = w.heap.size + 1 + 1 by simp] at k3
  have HBU := hid k1
  have HBV := hid k2
  have HBX := hid k3
  clear hU hlv hu hv hx hb1 hb2 hb3 k1 k2 k3
  cases ng
  · go_enter Tryz.func5, Tryz.ntmps5
    go_upto_region 1 with fail
    generalize ((w.alloc (.cells #[.int .i32 u0, .int .i32 u1] 55)).alloc (.cells #[.int .i32 v0, .int .i32 v1] 55)).alloc (.cells #[.int .i32 x0, .int .i32 x1] 55) = w1 at *
    obtain ⟨pu, hpu⟩ : ∃ g, w.heap.size = g := ⟨_, rfl⟩
    obtain ⟨pv, hpv⟩ : ∃ g, pu + 1 = g := ⟨_, rfl⟩
    obtain ⟨px, hpx⟩ : ∃ g, pv + 1 = g := ⟨_, rfl⟩
    rw [hpu] at HBU HBV HBX ⊢
    rw [hpv] at HBV HBX ⊢
    rw [hpx] at HBX ⊢
    clear hpu hpv hpx
    go_upto_region 2 with (go_at_call 8; refine (HLV.out _ HB.out).mono ?_; rintro e w2 ⟨rfl, hb⟩; have HBU1 := hid (heap_later2 hb HBU.out); have HBV1 := hid (heap_later2 hb HBV.out); have HBX1 := hid (heap_later2 hb HBX.out); have HB1 := hid (below_next HB.out hb); clear hb )
    clear HBU HBV HBX HB
    go_upto_region 7 with fail
    refine wp_region_any (by kernel_rfl) ?_
    change wpAny _ _ _ _ _ _ _ (World.drew _)
    refine wpAny_makersD [⟨some 27, 0, []⟩, ⟨some 28, 1, []⟩, ⟨some 29, 2, []⟩, ⟨some 30, 3, []⟩, ⟨some 31, 4, []⟩, ⟨some 32, 5, []⟩]
      (fun w' => w'.heap[pu]? = some (.cells #[.int .i32 u0, .int .i32 u1] 55 (0, 0)) ∧ w'.heap[pv]? = some (.cells #[.int .i32 v0, .int .i32 v1] 55 (0, 0)))
      (fun oq v _ _ _ _ => match oq with | 0 => v = .func (.func 16) #[] #[] | 1 => v = .agg #[.int .i32 u0, .int .i32 u1] | 2 => v = .complex .f64 (nr (u0.tmod 1000)) (nr (u1.tmod 1000)) | 3 => v = .func (.func 16) #[] #[] | 4 => v = .agg #[.int .i32 v0, .int .i32 v1] | 5 => v = .complex .f64 (nr (v0.tmod 1000)) (nr (v1.tmod 1000)) | _ => True) (by kernel_rfl) ?hSap (fun _ _ hb h => ⟨heap_next hb h.1, heap_next hb h.2⟩) (fun _ _ _ _ _ _ _ _ _ h => h) ?hopap ?hendap
    case hSap => exact ⟨heap_next (Below.refl _ _).drew HBU1.out, heap_next (Below.refl _ _).drew HBV1.out⟩
    case hopap =>
      delta Owed
      simp only [fillD, Act.put, List.setIfInBounds_toArray, List.set_cons_zero, List.set_cons_succ]
      refine Each.cons rfl ?_ (Each.cons rfl ?_ (Each.cons rfl ?_ (Each.cons rfl ?_ (Each.cons rfl ?_ (Each.cons rfl ?_ Each.nil)))))
      · intro vs w2 hb2 hS2 hR2 K hK
        simp only [List.set_cons_zero, List.set_cons_succ] at hK ⊢
        go_simp
        exact hK.out _ _ (Below.refl _ _) rfl
      · intro vs w2 hb2 hS2 hR2 K hK
        simp only [List.set_cons_zero, List.set_cons_succ] at hK ⊢
        obtain ⟨k0, k1⟩ : w2.cell? ⟨pu, 0, none⟩ = some (.int .i32 u0) ∧ w2.cell? ⟨pu, 1, none⟩ = some (.int .i32 u1) := ⟨(cells_ofS hS2.1).1 0 _ rfl, (cells_ofS hS2.1).1 1 _ rfl⟩
        obtain ⟨j0, j1⟩ : w2.cell? ⟨pv, 0, none⟩ = some (.int .i32 v0) ∧ w2.cell? ⟨pv, 1, none⟩ = some (.int .i32 v1) := ⟨(cells_ofS hS2.2).1 0 _ rfl, (cells_ofS hS2.2).1 1 _ rfl⟩
        go_simp
        exact hK.out _ _ (Below.refl _ _) rfl
      · intro vs w2 hb2 hS2 hR2 K hK
        have h0 : vs 0 = .func (.func 16) #[] #[] := by obtain ⟨_, _, _, h⟩ := hR2 0 (by kernel_rfl); exact h
        have h1 : vs 1 = .agg #[.int .i32 u0, .int .i32 u1] := by obtain ⟨_, _, _, h⟩ := hR2 1 (by kernel_rfl); exact h
        simp only [List.set_cons_zero, List.set_cons_succ] at hK ⊢
        simp only [h0, h1] at hK ⊢
        rw [if_pos (by rfl)]
        go_wp2_with (first | (refine (small_any u0 u1 _ HU.out.1 HU.out.2).mono ?_; rintro e w5 ⟨rfl, hb⟩) | (go_simp; refine (small_any u0 u1 _ HU.out.1 HU.out.2).mono ?_; rintro e w5 ⟨rfl, hb⟩))
        exact hK.out _ _ hb rfl
      · intro vs w2 hb2 hS2 hR2 K hK
        simp only [List.set_cons_zero, List.set_cons_succ] at hK ⊢
        go_simp
        exact hK.out _ _ (Below.refl _ _) rfl
      · intro vs w2 hb2 hS2 hR2 K hK
        simp only [List.set_cons_zero, List.set_cons_succ] at hK ⊢
        obtain ⟨k0, k1⟩ : w2.cell? ⟨pu, 0, none⟩ = some (.int .i32 u0) ∧ w2.cell? ⟨pu, 1, none⟩ = some (.int .i32 u1) := ⟨(cells_ofS hS2.1).1 0 _ rfl, (cells_ofS hS2.1).1 1 _ rfl⟩
        obtain ⟨j0, j1⟩ : w2.cell? ⟨pv, 0, none⟩ = some (.int .i32 v0) ∧ w2.cell? ⟨pv, 1, none⟩ = some (.int .i32 v1) := ⟨(cells_ofS hS2.2).1 0 _ rfl, (cells_ofS hS2.2).1 1 _ rfl⟩
        go_simp
        exact hK.out _ _ (Below.refl _ _) rfl
      · intro vs w2 hb2 hS2 hR2 K hK
        have h3 : vs 3 = .func (.func 16) #[] #[] := by obtain ⟨_, _, _, h⟩ := hR2 3 (by kernel_rfl); exact h
        have h4 : vs 4 = .agg #[.int .i32 v0, .int .i32 v1] := by obtain ⟨_, _, _, h⟩ := hR2 4 (by kernel_rfl); exact h
        simp only [List.set_cons_zero, List.set_cons_succ] at hK ⊢
        simp only [h3, h4] at hK ⊢
        rw [if_pos (by rfl)]
        go_wp2_with (first | (refine (small_any v0 v1 _ HV.out.1 HV.out.2).mono ?_; rintro e w5 ⟨rfl, hb⟩) | (go_simp; refine (small_any v0 v1 _ HV.out.1 HV.out.2).mono ?_; rintro e w5 ⟨rfl, hb⟩))
        exact hK.out _ _ hb rfl
    case hendap =>
      intro vs wx lo hiv hbx hSx hRx hdx
      have h0 : vs 0 = .func (.func 16) #[] #[] := (hRx 0 (by kernel_rfl)).1
      have h1 : vs 1 = .agg #[.int .i32 u0, .int .i32 u1] := (hRx 1 (by kernel_rfl)).1
      have H2 := (hRx 2 (by kernel_rfl)).1
      have h2 : vs 2 = .complex .f64 (nr (u0.tmod 1000)) (nr (u1.tmod 1000)) := H2
      have h3 : vs 3 = .func (.func 16) #[] #[] := (hRx 3 (by kernel_rfl)).1
      have h4 : vs 4 = .agg #[.int .i32 v0, .int .i32 v1] := (hRx 4 (by kernel_rfl)).1
      have H5 := (hRx 5 (by kernel_rfl)).1
      have h5 : vs 5 = .complex .f64 (nr (v0.tmod 1000)) (nr (v1.tmod 1000)) := H5
      simp only [fillD, Act.put, List.setIfInBounds_toArray, List.set_cons_zero, List.set_cons_succ, h0, h1, h2, h3, h4, h5]
      have hb := below_drew_left hbx
      have HBU2 := hid (heap_later2 hb HBU1.out)
      have HBV2 := hid (heap_later2 hb HBV1.out)
      have HBX2 := hid (heap_later2 hb HBX1.out)
      have HB2 := hid (below_next HB1.out hb)
      clear hbx hSx hRx hdx hb HBU1 HBV1 HBX1 HB1 h0 h1 h2 h3 h4 h5
      refine wpAny_one (i := 6) (by kernel_rfl) rfl (fun K hK => ?_)
      go_simp
      refine hK.out _ _ ?_
      clear hK
      refine wpAny_one (i := 7) (by kernel_rfl) rfl (fun K hK => ?_)
      go_simp
      refine hK.out _ _ ?_
      clear hK
      refine wpAny_done (by kernel_rfl) ?_ _
      have hU := HUV.out
      obtain ⟨u0s, hu0s⟩ : ∃ n, u0.tmod 1000 = n := ⟨_, rfl⟩
      obtain ⟨u1s, hu1s⟩ : ∃ n, u1.tmod 1000 = n := ⟨_, rfl⟩
      obtain ⟨v0s, hv0s⟩ : ∃ n, v0.tmod 1000 = n := ⟨_, rfl⟩
      obtain ⟨v1s, hv1s⟩ : ∃ n, v1.tmod 1000 = n := ⟨_, rfl⟩
      have bu0 := rem_lt u0 (m := 1000) (by decide)
      have bu1 := rem_lt u1 (m := 1000) (by decide)
      have bv0 := rem_lt v0 (m := 1000) (by decide)
      have bv1 := rem_lt v1 (m := 1000) (by decide)
      rw [hu0s] at bu0 ⊢
      rw [hu1s] at bu1 ⊢
      rw [hv0s] at bv0 ⊢
      rw [hv1s] at bv1 ⊢
      clear hu0s hu1s hv0s hv1s
      have p53 : (1000 : Nat) ≤ 2 ^ 25 := by decide
      have q53 : (2 : Nat) ^ 25 ≤ 2 ^ 53 := by decide
      have t1000 : ((1000 : Int)).natAbs = 1000 := rfl
      obtain ⟨n1, hn1⟩ : ∃ n, nr u0s = n := ⟨_, rfl⟩
      obtain ⟨n2, hn2⟩ : ∃ n, nr u1s = n := ⟨_, rfl⟩
      obtain ⟨n3, hn3⟩ : ∃ n, nr v0s = n := ⟨_, rfl⟩
      obtain ⟨n4, hn4⟩ : ∃ n, nr v1s = n := ⟨_, rfl⟩
      have wA : isC U (n1, n2) u0s u1s := ⟨by rw [← hn1]; exact isW_near hU (by omega), by rw [← hn2]; exact isW_near hU (by omega)⟩
      have wB : isC U (n3, n4) v0s v1s := ⟨by rw [← hn3]; exact isW_near hU (by omega), by rw [← hn4]; exact isW_near hU (by omega)⟩
      rw [hn1, hn2, hn3, hn4]
      clear hn1 hn2 hn3 hn4
      have m1 := abs_le_mul (m := 1000) (n := 1000) (a := u0s) (b := v0s) (by omega) (by omega)
      have m2 := abs_le_mul (m := 1000) (n := 1000) (a := u1s) (b := v1s) (by omega) (by omega)
      have m3 := abs_le_mul (m := 1000) (n := 1000) (a := u0s) (b := v1s) (by omega) (by omega)
      have m4 := abs_le_mul (m := 1000) (n := 1000) (a := u1s) (b := v0s) (by omega) (by omega)
      have p25 : (2 : Nat) ^ 25 = 33554432 := by decide
      have p52 : (2 : Nat) ^ 52 = 4503599627370496 := by decide
      have p532 : (2 : Nat) ^ 53 = 9007199254740992 := by decide
      have wM := isC_mul hU wA wB (by omega) (by omega) (by omega) (by omega)
      have wO : isC U (4607182418800017408, 0) 1 0 := ⟨isW1 hU, isW0 U⟩
      have wS := isC_add hU wO wM (by omega) (by omega)
      have f1 := isW_ffin (isW_mul hU wA.1 wB.1 (by omega))
      have f2 := isW_ffin (isW_mul hU wA.2 wB.2 (by omega))
      have f3 := isW_ffin (isW_mul hU wA.1 wB.2 (by omega))
      have f4 := isW_ffin (isW_mul hU wA.2 wB.1 (by omega))
      have hcm := run_cmul (P := Tryz.prog) 48 f1 f2 f3 f4 (isW_ffin wM.1) (isW_ffin wM.2)
      have hca := run_cadd (P := Tryz.prog) 48 (a := 4607182418800017408) (b := 0) (c := fsub (fmul n1 n3) (fmul n2 n4)) (d := fadd (fmul n1 n4) (fmul n2 n3)) (isW_ffin wS.1) (isW_ffin wS.2)
      obtain ⟨za, hza⟩ : ∃ n, fadd 4607182418800017408 (fsub (fmul n1 n3) (fmul n2 n4)) = n := ⟨_, rfl⟩
      obtain ⟨zb, hzb⟩ : ∃ n, fadd 0 (fadd (fmul n1 n4) (fmul n2 n3)) = n := ⟨_, rfl⟩
      rw [hza, hzb] at hca
      have HZ1 := hid (show isC U (za, zb) (1 + (u0s * v0s - u1s * v1s)) (0 + (u0s * v1s + u1s * v0s)) by rw [← hza, ← hzb]; exact wS)
      clear hza hzb
      have HA := hid wA
      have HBq := hid wB
      have HO := hid wO
      have HM := hid (And.intro m1 (And.intro m2 (And.intro m3 m4)))
      have HBD := hid (And.intro bu0 (And.intro bu1 (And.intro bv0 bv1)))
      clear f1 f2 f3 f4 wM wO wS wA wB m1 m2 m3 m4 bu0 bu1 bv0 bv1 p53 q53 t1000 p25 p52 p532 hU
      go_upto_region 9 with (go_at_call 17; refine (pair_any (za, zb) (n1, n2) (n3, n4) (4607182418800017408, 0) _).mono ?_; rintro e w4 ⟨qz, rfl, hq, hrow, hb⟩; have HBU3 := hid (heap_later2 hb HBU2.out); have HBV3 := hid (heap_later2 hb HBV2.out); have HBX3 := hid (heap_later2 hb HBX2.out); have HB3 := hid (below_next HB2.out hb); have HSZ := hid (isl_of4 hrow); clear hq hrow; clear hb )
      clear hcm hca HBU2 HBV2 HBX2 HB2
      have HBU4 := hid (heap_later2 ((Below.refl w4.heap.size w4).alloc (Nat.le_refl _) (.cells #[.int .i64 2, .int .i64 2, .slice (some ⟨qz, 0, none⟩) 4 4] 43)) HBU3.out)
      have HBV4 := hid (heap_later2 ((Below.refl w4.heap.size w4).alloc (Nat.le_refl _) (.cells #[.int .i64 2, .int .i64 2, .slice (some ⟨qz, 0, none⟩) 4 4] 43)) HBV3.out)
      have HBX4 := hid (heap_later2 ((Below.refl w4.heap.size w4).alloc (Nat.le_refl _) (.cells #[.int .i64 2, .int .i64 2, .slice (some ⟨qz, 0, none⟩) 4 4] 43)) HBX3.out)
      have HSZ4 := hid (HSZ.out.below ((Below.refl w4.heap.size w4).alloc (Nat.le_refl _) (.cells #[.int .i64 2, .int .i64 2, .slice (some ⟨qz, 0, none⟩) 4 4] 43)) (Nat.le_refl _))
      have HB4 := hid (below_next HB3.out ((Below.refl w4.heap.size w4).alloc (Nat.le_refl _) (.cells #[.int .i64 2, .int .i64 2, .slice (some ⟨qz, 0, none⟩) 4 4] 43)))
      have HMZ := hid (heap_alloc_new w4 (.cells #[.int .i64 2, .int .i64 2, .slice (some ⟨qz, 0, none⟩) 4 4] 43))
      clear HBU3 HBV3 HBX3 HSZ HB3
      generalize w4.alloc (.cells #[.int .i64 2, .int .i64 2, .slice (some ⟨qz, 0, none⟩) 4 4] 43) = w5 at *
      generalize w4.heap.size = gz at *
      have hU := HUV.out
      have p25 : (2 : Nat) ^ 25 = 33554432 := by decide
      obtain ⟨m1, m2, m3, m4⟩ := HM.out
      obtain ⟨d1, d2, d3, d4⟩ := HBD.out
      have t1000 : ((1000 : Int)).natAbs = 1000 := rfl
      rw [t1000] at d1 d2 d3 d4
      have HFZ := hid (show Four U [(za, zb), (n1, n2), (n3, n4), (4607182418800017408, 0)] (1 + (u0s * v0s - u1s * v1s)) (0 + (u0s * v1s + u1s * v0s)) u0s u1s v0s v1s 1 0 from ⟨_, _, _, _, rfl, HZ1.out, HA.out, HBq.out, isW1 hU, isW0 U⟩)
      have hl1 : (1 + (u0s * v0s - u1s * v1s)) * 1 - (0 + (u0s * v1s + u1s * v0s)) * 0 - (u0s * v0s - u1s * v1s) = 1 := by grind
      have hl2 : (1 + (u0s * v0s - u1s * v1s)) * 0 + (0 + (u0s * v1s + u1s * v0s)) * 1 - (u0s * v1s + u1s * v0s) = 0 := by grind
      have HLW := hid (And.intro hl1 hl2)
      have HBO := hid (show (((1 + (u0s * v0s - u1s * v1s)).natAbs ≤ 2 ^ 25 ∧ (0 + (u0s * v1s + u1s * v0s)).natAbs ≤ 2 ^ 25) ∧ (u0s.natAbs ≤ 2 ^ 25 ∧ u1s.natAbs ≤ 2 ^ 25)) ∧ ((v0s.natAbs ≤ 2 ^ 25 ∧ v1s.natAbs ≤ 2 ^ 25) ∧ ((1 : Int).natAbs ≤ 2 ^ 25 ∧ (0 : Int).natAbs ≤ 2 ^ 25)) from ⟨⟨⟨by omega, by omega⟩, ⟨by omega, by omega⟩⟩, ⟨⟨by omega, by omega⟩, ⟨by decide, by decide⟩⟩⟩)
      clear hl1 hl2 p25 m1 m2 m3 m4 d1 d2 d3 d4 t1000
      obtain ⟨Y1, hy1, hy2⟩ := y_four hU HFZ.out HBO.out.1.1 HBO.out.1.2 HBO.out.2.1 HBO.out.2.2 HLW.out.1 HLW.out.2 (by decide)
      have HY1 := hid hy1
      have HY2 := hid hy2
      clear hy1 hy2 hU HM HBD HZ1 HA HBq
      have hsc := block_cells HMZ.out
      have s0 := hsc.1 0 _ rfl
      have s1 := hsc.1 1 _ rfl
      have s2 := hsc.1 2 _ rfl
      clear hsc
      go_upto_region 10 with (go_at_call 18; refine (y_any 2 2 _ [(za, zb), (n1, n2), (n3, n4), (4607182418800017408, 0)] _ HSZ4.out).mono ?_; rintro e w6 ⟨vy, ys, rfl, hys, hown, hb⟩; have HBU5 := hid (heap_later2 hb HBU4.out); have HBV5 := hid (heap_later2 hb HBV4.out); have HBX5 := hid (heap_later2 hb HBX4.out); have HSZ5 := hid (HSZ4.out.below hb (Nat.le_refl _)); have HMZ5 := hid (heap_later2 hb HMZ.out); have HB5 := hid (below_next HB4.out hb); rw [HY1.out] at hys ⊢; dsimp only at hys ⊢; (try simp only [Nat.cast_ofNat]); have HYS := hid hys; obtain ⟨avy, cvy, rfl⟩ := (IsSl.of_own hown).form; have HSY := hid (IsSl.of_own hown); clear hys hown; clear hb )
      clear HBU4 HBV4 HBX4 HSZ4 HMZ HB4
      clear s0 s1 s2
      have HFY := hid (HY2.out ys HYS.out)
      have HLY := hid (HFY.out.len)
      have HBU6 := hid (heap_later2 ((Below.refl w6.heap.size w6).alloc (Nat.le_refl _) (.cells #[.int .i64 2, .int .i64 2, .slice avy ys.length cvy] 43)) HBU5.out)
      have HBV6 := hid (heap_later2 ((Below.refl w6.heap.size w6).alloc (Nat.le_refl _) (.cells #[.int .i64 2, .int .i64 2, .slice avy ys.length cvy] 43)) HBV5.out)
      have HBX6 := hid (heap_later2 ((Below.refl w6.heap.size w6).alloc (Nat.le_refl _) (.cells #[.int .i64 2, .int .i64 2, .slice avy ys.length cvy] 43)) HBX5.out)
      have HSZ6 := hid (HSZ5.out.below ((Below.refl w6.heap.size w6).alloc (Nat.le_refl _) (.cells #[.int .i64 2, .int .i64 2, .slice avy ys.length cvy] 43)) (Nat.le_refl _))
      have HMZ6 := hid (heap_later2 ((Below.refl w6.heap.size w6).alloc (Nat.le_refl _) (.cells #[.int .i64 2, .int .i64 2, .slice avy ys.length cvy] 43)) HMZ5.out)
      have HSY6 := hid (HSY.out.below ((Below.refl w6.heap.size w6).alloc (Nat.le_refl _) (.cells #[.int .i64 2, .int .i64 2, .slice avy ys.length cvy] 43)) (Nat.le_refl _))
      have HB6 := hid (below_next HB5.out ((Below.refl w6.heap.size w6).alloc (Nat.le_refl _) (.cells #[.int .i64 2, .int .i64 2, .slice avy ys.length cvy] 43)))
      have HMY := hid (heap_alloc_new w6 (.cells #[.int .i64 2, .int .i64 2, .slice avy ys.length cvy] 43))
      clear HBU5 HBV5 HBX5 HSZ5 HMZ5 HSY HB5
      generalize w6.alloc (.cells #[.int .i64 2, .int .i64 2, .slice avy ys.length cvy] 43) = w7 at *
      generalize w6.heap.size = gy at *
      obtain ⟨Y2, hy1, hy2⟩ := y_four_back HUV.out HFY.out HBO.out.1.1 HBO.out.1.2 HBO.out.2.1 HBO.out.2.2 HLW.out.1 HLW.out.2 (by decide)
      have HY3 := hid hy1
      have HY4 := hid hy2
      clear hy1 hy2
      have hsc := block_cells HMY.out
      have s0 := hsc.1 0 _ rfl
      have s1 := hsc.1 1 _ rfl
      have s2 := hsc.1 2 _ rfl
      clear hsc
      go_upto_region 11 with (go_at_call 19; refine (z_any 2 2 _ ys _ HSY6.out).mono ?_; rintro e w8 ⟨vb, bs, rfl, hys, hown, hb⟩; have HBU7 := hid (heap_later2 hb HBU6.out); have HBV7 := hid (heap_later2 hb HBV6.out); have HBX7 := hid (heap_later2 hb HBX6.out); have HSZ7 := hid (HSZ6.out.below hb (Nat.le_refl _)); have HMZ7 := hid (heap_later2 hb HMZ6.out); have HSY7 := hid (HSY6.out.below hb (Nat.le_refl _)); have HMY7 := hid (heap_later2 hb HMY.out); have HB7 := hid (below_next HB6.out hb); rw [HY3.out] at hys ⊢; dsimp only at hys ⊢; (try simp only [Nat.cast_ofNat]); have HBS := hid hys; obtain ⟨avb, cvb, rfl⟩ := (IsSl.of_own hown).form; have HSB := hid (IsSl.of_own hown); clear hys hown; clear hb )
      clear HBU6 HBV6 HBX6 HSZ6 HMZ6 HSY6 HMY HB6
      clear s0 s1 s2
      have HEQ := hid ((HY4.out bs HBS.out).eq HFZ.out)
      have HLB := hid ((HY4.out bs HBS.out).len)
      have HBU8 := hid (heap_later2 ((Below.refl w8.heap.size w8).alloc (Nat.le_refl _) (.cells #[.int .i64 2, .int .i64 2, .slice avb bs.length cvb] 43)) HBU7.out)
      have HBV8 := hid (heap_later2 ((Below.refl w8.heap.size w8).alloc (Nat.le_refl _) (.cells #[.int .i64 2, .int .i64 2, .slice avb bs.length cvb] 43)) HBV7.out)
      have HBX8 := hid (heap_later2 ((Below.refl w8.heap.size w8).alloc (Nat.le_refl _) (.cells #[.int .i64 2, .int .i64 2, .slice avb bs.length cvb] 43)) HBX7.out)
      have HSZ8 := hid (HSZ7.out.below ((Below.refl w8.heap.size w8).alloc (Nat.le_refl _) (.cells #[.int .i64 2, .int .i64 2, .slice avb bs.length cvb] 43)) (Nat.le_refl _))
      have HMZ8 := hid (heap_later2 ((Below.refl w8.heap.size w8).alloc (Nat.le_refl _) (.cells #[.int .i64 2, .int .i64 2, .slice avb bs.length cvb] 43)) HMZ7.out)
      have HSY8 := hid (HSY7.out.below ((Below.refl w8.heap.size w8).alloc (Nat.le_refl _) (.cells #[.int .i64 2, .int .i64 2, .slice avb bs.length cvb] 43)) (Nat.le_refl _))
      have HMY8 := hid (heap_later2 ((Below.refl w8.heap.size w8).alloc (Nat.le_refl _) (.cells #[.int .i64 2, .int .i64 2, .slice avb bs.length cvb] 43)) HMY7.out)
      have HSB8 := hid (HSB.out.below ((Below.refl w8.heap.size w8).alloc (Nat.le_refl _) (.cells #[.int .i64 2, .int .i64 2, .slice avb bs.length cvb] 43)) (Nat.le_refl _))
      have HB8 := hid (below_next HB7.out ((Below.refl w8.heap.size w8).alloc (Nat.le_refl _) (.cells #[.int .i64 2, .int .i64 2, .slice avb bs.length cvb] 43)))
      have HMB := hid (heap_alloc_new w8 (.cells #[.int .i64 2, .int .i64 2, .slice avb bs.length cvb] 43))
      clear HBU7 HBV7 HBX7 HSZ7 HMZ7 HSY7 HMY7 HSB HB7
      generalize w8.alloc (.cells #[.int .i64 2, .int .i64 2, .slice avb bs.length cvb] 43) = w9 at *
      generalize w8.heap.size = gb at *
      have hsc := block_cells HMB.out
      have s0 := hsc.1 0 _ rfl
      have s1 := hsc.1 1 _ rfl
      have s2 := hsc.1 2 _ rfl
      clear hsc
      have hsc := block_cells HMZ8.out
      have r0 := hsc.1 0 _ rfl
      have r1 := hsc.1 1 _ rfl
      have r2 := hsc.1 2 _ rfl
      clear hsc
      go_upto_region 13 with (go_at_call 20; refine (equalmatrix_any 2 _ _ bs [(za, zb), (n1, n2), (n3, n4), (4607182418800017408, 0)] _ HSB8.out HSZ8.out (by have := HLB.out; omega) HEQ.out).mono ?_; rintro e wa ⟨rfl, hb⟩; have HBU9 := hid (heap_later2 hb HBU8.out); have HBV9 := hid (heap_later2 hb HBV8.out); have HBX9 := hid (heap_later2 hb HBX8.out); have HB9 := hid (below_next HB8.out hb); clear hb )
      clear s0 s1 s2 r0 r1 r2
      clear HBU8 HBV8 HBX8 HB8 HSB8 HSY8 HMB HMY8 HMZ8 HSZ8
      refine wp_region_any (by kernel_rfl) ?_
      change wpAny _ _ _ _ _ _ _ (World.drew _)
      refine wpAny_makersD [⟨some 63, 0, []⟩, ⟨some 64, 1, []⟩, ⟨some 65, 2, []⟩, ⟨some 66, 3, []⟩, ⟨some 67, 4, []⟩, ⟨some 68, 5, []⟩, ⟨some 69, 6, []⟩, ⟨some 70, 7, []⟩, ⟨some 18, 8, []⟩]
        (fun w' => w'.heap[pu]? = some (.cells #[.int .i32 u0, .int .i32 u1] 55 (0, 0)) ∧ w'.heap[pv]? = some (.cells #[.int .i32 v0, .int .i32 v1] 55 (0, 0)) ∧ w'.heap[px]? = some (.cells #[.int .i32 x0, .int .i32 x1] 55 (0, 0)))
        (fun oq v _ ww lo hi => (match oq with | 0 => v = .agg #[.int .i32 u0, .int .i32 u1] | 1 => v = .complex .f64 (nr (u0.tmod 1048577)) (nr (u1.tmod 1048577)) | 2 => v = .agg #[.int .i32 v0, .int .i32 v1] | 3 => v = .complex .f64 (nr (v0.tmod 1048577)) (nr (v1.tmod 1048577)) | 4 => v = .complex .f64 4607182418800017408 0 | 5 => v = .agg #[.int .i32 x0, .int .i32 x1] | 6 => v = .complex .f64 (nr (x0.tmod 1048577)) (nr (x1.tmod 1048577)) | 7 => True | 8 => True | _ => True) ∧ (oq = 7 → PairD (nr (u0.tmod 1048577), nr (u1.tmod 1048577)) (nr (v0.tmod 1048577), nr (v1.tmod 1048577)) (4607182418800017408, 0) (nr (x0.tmod 1048577), nr (x1.tmod 1048577)) v ww lo hi) ∧ (oq = 8 → BlkD (.cells #[.int .i64 0, .int .i64 0, .slice none 0 0] 43 (0, 0)) v ww lo hi)) (by kernel_rfl) ?hSbp (fun _ _ hb h => ⟨heap_next hb h.1, heap_next hb h.2.1, heap_next hb h.2.2⟩) (fun _ _ _ _ _ _ _ hb _ h => ⟨h.1, fun e => (h.2.1 e).later hb, fun e => (h.2.2 e).later hb⟩) ?hopbp ?hendbp
      case hSbp => exact ⟨heap_next (Below.refl _ _).drew HBU9.out, heap_next (Below.refl _ _).drew HBV9.out, heap_next (Below.refl _ _).drew HBX9.out⟩
      case hopbp =>
        delta Owed
        simp only [fillD, Act.put, List.setIfInBounds_toArray, List.set_cons_zero, List.set_cons_succ]
        refine Each.cons rfl ?_ (Each.cons rfl ?_ (Each.cons rfl ?_ (Each.cons rfl ?_ (Each.cons rfl ?_ (Each.cons rfl ?_ (Each.cons rfl ?_ (Each.cons rfl ?_ (Each.cons rfl ?_ Each.nil))))))))
        · intro vs w2 hb2 hS2 hR2 K hK
          simp only [List.set_cons_zero, List.set_cons_succ] at hK ⊢
          obtain ⟨ku0, ku1⟩ : w2.cell? ⟨pu, 0, none⟩ = some (.int .i32 u0) ∧ w2.cell? ⟨pu, 1, none⟩ = some (.int .i32 u1) := ⟨(cells_ofS hS2.1).1 0 _ rfl, (cells_ofS hS2.1).1 1 _ rfl⟩
          obtain ⟨kv0, kv1⟩ : w2.cell? ⟨pv, 0, none⟩ = some (.int .i32 v0) ∧ w2.cell? ⟨pv, 1, none⟩ = some (.int .i32 v1) := ⟨(cells_ofS hS2.2.1).1 0 _ rfl, (cells_ofS hS2.2.1).1 1 _ rfl⟩
          obtain ⟨kx0, kx1⟩ : w2.cell? ⟨px, 0, none⟩ = some (.int .i32 x0) ∧ w2.cell? ⟨px, 1, none⟩ = some (.int .i32 x1) := ⟨(cells_ofS hS2.2.2).1 0 _ rfl, (cells_ofS hS2.2.2).1 1 _ rfl⟩
          go_simp
          exact hK.out _ _ (Below.refl _ _) ⟨rfl, (fun e => (by cases e)), (fun e => (by cases e))⟩
        · intro vs w2 hb2 hS2 hR2 K hK
          have h0 : vs 0 = .agg #[.int .i32 u0, .int .i32 u1] := by obtain ⟨_, _, _, h⟩ := hR2 0 (by kernel_rfl); exact h.1
          simp only [List.set_cons_zero, List.set_cons_succ] at hK ⊢
          simp only [h0] at hK ⊢
          rw [if_pos (by rfl)]
          go_wp2_with (go_at_call 21; refine (wnum_any u0 u1 _ HU.out.1 HU.out.2).mono ?_; rintro e w5 ⟨rfl, hb⟩)
          exact hK.out _ _ hb ⟨rfl, (fun e => (by cases e)), (fun e => (by cases e))⟩
        · intro vs w2 hb2 hS2 hR2 K hK
          simp only [List.set_cons_zero, List.set_cons_succ] at hK ⊢
          obtain ⟨ku0, ku1⟩ : w2.cell? ⟨pu, 0, none⟩ = some (.int .i32 u0) ∧ w2.cell? ⟨pu, 1, none⟩ = some (.int .i32 u1) := ⟨(cells_ofS hS2.1).1 0 _ rfl, (cells_ofS hS2.1).1 1 _ rfl⟩
          obtain ⟨kv0, kv1⟩ : w2.cell? ⟨pv, 0, none⟩ = some (.int .i32 v0) ∧ w2.cell? ⟨pv, 1, none⟩ = some (.int .i32 v1) := ⟨(cells_ofS hS2.2.1).1 0 _ rfl, (cells_ofS hS2.2.1).1 1 _ rfl⟩
          obtain ⟨kx0, kx1⟩ : w2.cell? ⟨px, 0, none⟩ = some (.int .i32 x0) ∧ w2.cell? ⟨px, 1, none⟩ = some (.int .i32 x1) := ⟨(cells_ofS hS2.2.2).1 0 _ rfl, (cells_ofS hS2.2.2).1 1 _ rfl⟩
          go_simp
          exact hK.out _ _ (Below.refl _ _) ⟨rfl, (fun e => (by cases e)), (fun e => (by cases e))⟩
        · intro vs w2 hb2 hS2 hR2 K hK
          have h2 : vs 2 = .agg #[.int .i32 v0, .int .i32 v1] := by obtain ⟨_, _, _, h⟩ := hR2 2 (by kernel_rfl); exact h.1
          simp only [List.set_cons_zero, List.set_cons_succ] at hK ⊢
          simp only [h2] at hK ⊢
          rw [if_pos (by rfl)]
          go_wp2_with (go_at_call 21; refine (wnum_any v0 v1 _ HV.out.1 HV.out.2).mono ?_; rintro e w5 ⟨rfl, hb⟩)
          exact hK.out _ _ hb ⟨rfl, (fun e => (by cases e)), (fun e => (by cases e))⟩
        · intro vs w2 hb2 hS2 hR2 K hK
          simp only [List.set_cons_zero, List.set_cons_succ] at hK ⊢
          go_simp
          exact hK.out _ _ (Below.refl _ _) ⟨rfl, (fun e => (by cases e)), (fun e => (by cases e))⟩
        · intro vs w2 hb2 hS2 hR2 K hK
          simp only [List.set_cons_zero, List.set_cons_succ] at hK ⊢
          obtain ⟨ku0, ku1⟩ : w2.cell? ⟨pu, 0, none⟩ = some (.int .i32 u0) ∧ w2.cell? ⟨pu, 1, none⟩ = some (.int .i32 u1) := ⟨(cells_ofS hS2.1).1 0 _ rfl, (cells_ofS hS2.1).1 1 _ rfl⟩
          obtain ⟨kv0, kv1⟩ : w2.cell? ⟨pv, 0, none⟩ = some (.int .i32 v0) ∧ w2.cell? ⟨pv, 1, none⟩ = some (.int .i32 v1) := ⟨(cells_ofS hS2.2.1).1 0 _ rfl, (cells_ofS hS2.2.1).1 1 _ rfl⟩
          obtain ⟨kx0, kx1⟩ : w2.cell? ⟨px, 0, none⟩ = some (.int .i32 x0) ∧ w2.cell? ⟨px, 1, none⟩ = some (.int .i32 x1) := ⟨(cells_ofS hS2.2.2).1 0 _ rfl, (cells_ofS hS2.2.2).1 1 _ rfl⟩
          go_simp
          exact hK.out _ _ (Below.refl _ _) ⟨rfl, (fun e => (by cases e)), (fun e => (by cases e))⟩
        · intro vs w2 hb2 hS2 hR2 K hK
          have h5 : vs 5 = .agg #[.int .i32 x0, .int .i32 x1] := by obtain ⟨_, _, _, h⟩ := hR2 5 (by kernel_rfl); exact h.1
          simp only [List.set_cons_zero, List.set_cons_succ] at hK ⊢
          simp only [h5] at hK ⊢
          rw [if_pos (by rfl)]
          go_wp2_with (go_at_call 21; refine (wnum_any x0 x1 _ HX.out.1 HX.out.2).mono ?_; rintro e w5 ⟨rfl, hb⟩)
          exact hK.out _ _ hb ⟨rfl, (fun e => (by cases e)), (fun e => (by cases e))⟩
        · intro vs w2 hb2 hS2 hR2 K hK
          obtain ⟨_, _, _, H1⟩ := hR2 1 (by kernel_rfl)
          replace H1 := H1.1
          have h1 : vs 1 = .complex .f64 (nr (u0.tmod 1048577)) (nr (u1.tmod 1048577)) := H1
          obtain ⟨_, _, _, H3⟩ := hR2 3 (by kernel_rfl)
          replace H3 := H3.1
          have h3 : vs 3 = .complex .f64 (nr (v0.tmod 1048577)) (nr (v1.tmod 1048577)) := H3
          have h4 : vs 4 = .complex .f64 4607182418800017408 0 := by obtain ⟨_, _, _, h⟩ := hR2 4 (by kernel_rfl); exact h.1
          obtain ⟨_, _, _, H6⟩ := hR2 6 (by kernel_rfl)
          replace H6 := H6.1
          have h6 : vs 6 = .complex .f64 (nr (x0.tmod 1048577)) (nr (x1.tmod 1048577)) := H6
          simp only [List.set_cons_zero, List.set_cons_succ] at hK ⊢
          simp only [h4, h1, h3, h6] at hK ⊢
          rw [if_pos (by rfl)]
          go_wp2_with (go_at_call 17; refine (pair_any (nr (u0.tmod 1048577), nr (u1.tmod 1048577)) (nr (v0.tmod 1048577), nr (v1.tmod 1048577)) (4607182418800017408, 0) (nr (x0.tmod 1048577), nr (x1.tmod 1048577)) _).mono ?_; rintro e w5 ⟨qc, rfl, hq, hrow, hb⟩)
          exact hK.out _ _ hb ⟨trivial, (fun _ => ⟨qc, rfl, hq, (Array.getElem?_eq_some_iff.1 hrow).1, hrow⟩), (fun e => (by cases e))⟩
        · intro vs w2 hb2 hS2 hR2 K hK
          simp only [List.set_cons_zero, List.set_cons_succ] at hK ⊢
          go_simp
          exact hK.out _ _ ((Below.refl _ _).alloc (Nat.le_refl _) _) ⟨trivial, (fun e => (by cases e)), fun _ => BlkD.new _ _⟩
      case hendbp =>
        intro vs wx lo hiv hbx hSx hRx hdx
        have h0 : vs 0 = .agg #[.int .i32 u0, .int .i32 u1] := (hRx 0 (by kernel_rfl)).1.1
        have H1 := (hRx 1 (by kernel_rfl)).1.1
        have h1 : vs 1 = .complex .f64 (nr (u0.tmod 1048577)) (nr (u1.tmod 1048577)) := H1
        have h2 : vs 2 = .agg #[.int .i32 v0, .int .i32 v1] := (hRx 2 (by kernel_rfl)).1.1
        have H3 := (hRx 3 (by kernel_rfl)).1.1
        have h3 : vs 3 = .complex .f64 (nr (v0.tmod 1048577)) (nr (v1.tmod 1048577)) := H3
        have h4 : vs 4 = .complex .f64 4607182418800017408 0 := (hRx 4 (by kernel_rfl)).1.1
        have h5 : vs 5 = .agg #[.int .i32 x0, .int .i32 x1] := (hRx 5 (by kernel_rfl)).1.1
        have H6 := (hRx 6 (by kernel_rfl)).1.1
        have h6 : vs 6 = .complex .f64 (nr (x0.tmod 1048577)) (nr (x1.tmod 1048577)) := H6
        have Y7 := (hRx 7 (by kernel_rfl)).1.2.1 rfl
        have Z7 := (hRx 7 (by kernel_rfl)).2
        have Y8 := (hRx 8 (by kernel_rfl)).1.2.2 rfl
        have Z8 := (hRx 8 (by kernel_rfl)).2
        simp only [fillD, Act.put, List.setIfInBounds_toArray, List.set_cons_zero, List.set_cons_succ, h0, h1, h2, h3, h4, h5, h6]
        have hb := below_drew_left hbx
        have HBU10 := hid (heap_later2 hb HBU9.out)
        have HBV10 := hid (heap_later2 hb HBV9.out)
        have HBX10 := hid (heap_later2 hb HBX9.out)
        have HB10 := hid (below_next HB9.out hb)
        obtain ⟨qc, h7, _, _, hrow⟩ := Y7
        obtain ⟨gc, h8, hlo, _, hmc⟩ := Y8
        have HMC := hid hmc
        have HSC := hid (isl_of4 hrow)
        have HNE := hid (typ_neB hmc hrow (by decide))
        have HBS13 := hid (show w.heap.size ≤ gc from Nat.le_trans HB9.out.size (Nat.le_trans Z8.1 hlo))
        simp only [h7, h8]
        clear hbx hSx hRx hdx hb hmc hrow h7 h8 Z7 Z8 hlo HBU9 HBV9 HBX9 HB9 h0 h1 h2 h3 h4 h5 h6
        have f0 := (cells_ofS HMC.out).2 0
        have f1 := (cells_ofS HMC.out).2 1
        have f2 := (cells_ofS HMC.out).2 2
        have c0 := (cells_ofS HMC.out).1 0 _ rfl
        have c1 := (cells_ofS HMC.out).1 1 _ rfl
        have c2 := (cells_ofS HMC.out).1 2 _ rfl
        refine wpAny_one (i := 9) (by kernel_rfl) rfl (fun K hK => ?_)
        go_simp
        refine hK.out _ _ ?_
        clear hK f0 f1 f2 c0 c1 c2
        refine wpAny_done (by kernel_rfl) ?_ _
        have HBC := hid (show Below w.heap.size w (((wx.setCell ⟨gc, 0, none⟩ (.int .i64 2)).setCell ⟨gc, 1, none⟩ (.int .i64 2)).setCell ⟨gc, 2, none⟩ (.slice (some ⟨qc, 0, none⟩) 4 4)) from below_m3 HB10.out (by have := HBS13.out; omega))
        have HMD := hid (show (((wx.setCell ⟨gc, 0, none⟩ (.int .i64 2)).setCell ⟨gc, 1, none⟩ (.int .i64 2)).setCell ⟨gc, 2, none⟩ (.slice (some ⟨qc, 0, none⟩) 4 4)).heap[gc]? = some (.cells #[.int .i64 2, .int .i64 2, .slice (some ⟨qc, 0, none⟩) 4 4] 43 (0, 0)) from by have h := blk_set1 (blk_set1 (blk_set1 HMC.out (o := 0) (.int .i64 2)) (o := 1) (.int .i64 2)) (o := 2) (.slice (some ⟨qc, 0, none⟩) 4 4); simpa using h)
        have HSD := hid (HSC.out.grown (grown_m3 wx gc (.int .i64 2) (.int .i64 2) (.slice (some ⟨qc, 0, none⟩) 4 4)) (fun g e => by cases e; exact fun e2 => HNE.out (Option.some.inj e2)))
        clear HSC HNE HBS13 HBU10 HBV10 HBX10 HMC HB10
        generalize ((wx.setCell ⟨gc, 0, none⟩ (.int .i64 2)).setCell ⟨gc, 1, none⟩ (.int .i64 2)).setCell ⟨gc, 2, none⟩ (.slice (some ⟨qc, 0, none⟩) 4 4) = wc at *
        have hU := HUV.out
        obtain ⟨u0r, hu0r⟩ : ∃ n, u0.tmod 1048577 = n := ⟨_, rfl⟩
        obtain ⟨u1r, hu1r⟩ : ∃ n, u1.tmod 1048577 = n := ⟨_, rfl⟩
        obtain ⟨v0r, hv0r⟩ : ∃ n, v0.tmod 1048577 = n := ⟨_, rfl⟩
        obtain ⟨v1r, hv1r⟩ : ∃ n, v1.tmod 1048577 = n := ⟨_, rfl⟩
        obtain ⟨x0r, hx0r⟩ : ∃ n, x0.tmod 1048577 = n := ⟨_, rfl⟩
        obtain ⟨x1r, hx1r⟩ : ∃ n, x1.tmod 1048577 = n := ⟨_, rfl⟩
        have bu0 := rem_lt u0 (m := 1048577) (by decide)
        have bu1 := rem_lt u1 (m := 1048577) (by decide)
        have bv0 := rem_lt v0 (m := 1048577) (by decide)
        have bv1 := rem_lt v1 (m := 1048577) (by decide)
        have bx0 := rem_lt x0 (m := 1048577) (by decide)
        have bx1 := rem_lt x1 (m := 1048577) (by decide)
        skip
        rw [hu0r] at bu0 HSD
        rw [hu1r] at bu1 HSD
        rw [hv0r] at bv0 HSD
        rw [hv1r] at bv1 HSD
        rw [hx0r] at bx0 HSD
        rw [hx1r] at bx1 HSD
        clear hu0r hu1r hv0r hv1r hx0r hx1r
        obtain ⟨ku0, hku0⟩ : ∃ n, nr u0r = n := ⟨_, rfl⟩
        obtain ⟨ku1, hku1⟩ : ∃ n, nr u1r = n := ⟨_, rfl⟩
        obtain ⟨kv0, hkv0⟩ : ∃ n, nr v0r = n := ⟨_, rfl⟩
        obtain ⟨kv1, hkv1⟩ : ∃ n, nr v1r = n := ⟨_, rfl⟩
        obtain ⟨kx0, hkx0⟩ : ∃ n, nr x0r = n := ⟨_, rfl⟩
        obtain ⟨kx1, hkx1⟩ : ∃ n, nr x1r = n := ⟨_, rfl⟩
        have p20 : (2 : Nat) ^ 20 = 1048576 := by decide
        have p53 : (2 : Nat) ^ 53 = 9007199254740992 := by decide
        have tt : ((1048577 : Int)).natAbs = 1048577 := rfl
        rw [tt] at bu0 bu1 bv0 bv1 bx0 bx1
        have wU : isC U (ku0, ku1) u0r u1r := ⟨by rw [← hku0]; exact isW_near hU (by omega), by rw [← hku1]; exact isW_near hU (by omega)⟩
        have wV : isC U (kv0, kv1) v0r v1r := ⟨by rw [← hkv0]; exact isW_near hU (by omega), by rw [← hkv1]; exact isW_near hU (by omega)⟩
        have wX : isC U (kx0, kx1) x0r x1r := ⟨by rw [← hkx0]; exact isW_near hU (by omega), by rw [← hkx1]; exact isW_near hU (by omega)⟩
        rw [hku0] at HSD
        rw [hku1] at HSD
        rw [hkv0] at HSD
        rw [hkv1] at HSD
        rw [hkx0] at HSD
        rw [hkx1] at HSD
        clear hku0 hku1 hkv0 hkv1 hkx0 hkx1
        have HFC := hid (show Four U [(ku0, ku1), (kv0, kv1), (4607182418800017408, 0), (kx0, kx1)] u0r u1r v0r v1r 1 0 x0r x1r from ⟨_, _, _, _, rfl, wU, wV, HO.out, wX⟩)
        have HWC := hid (And.intro wU (And.intro wV wX))
        have HB20 := hid (show ((u0r.natAbs ≤ 2 ^ 20 ∧ u1r.natAbs ≤ 2 ^ 20) ∧ (v0r.natAbs ≤ 2 ^ 20 ∧ v1r.natAbs ≤ 2 ^ 20)) ∧ (x0r.natAbs ≤ 2 ^ 20 ∧ x1r.natAbs ≤ 2 ^ 20) from ⟨⟨⟨by omega, by omega⟩, ⟨by omega, by omega⟩⟩, ⟨by omega, by omega⟩⟩)
        have up1 : ∀ n : Nat, n ≤ 2 ^ 20 → n ≤ 2 ^ 21 := fun n h => Nat.le_trans h (by decide)
        have up2 : ∀ n : Nat, n ≤ 2 ^ 20 → n ≤ 2 ^ 45 := fun n h => Nat.le_trans h (by decide)
        obtain ⟨Y3, hy1, hy2⟩ := ch_four hU HFC.out ⟨up1 _ HB20.out.1.1.1, up1 _ HB20.out.1.1.2⟩ ⟨up2 _ HB20.out.1.2.1, up2 _ HB20.out.1.2.2⟩ ⟨up1 _ HB20.out.2.1, up1 _ HB20.out.2.2⟩ (by decide)
        have HY5 := hid hy1
        have HY6 := hid hy2
        have HUP := hid up2
        clear hy1 hy2 up1 up2 hU wU wV wX bu0 bu1 bv0 bv1 bx0 bx1 p20 p53 tt
        go_upto_region 14 with fail
        have hsc := block_cells HMD.out
        have s0 := hsc.1 0 _ rfl
        have s1 := hsc.1 1 _ rfl
        have s2 := hsc.1 2 _ rfl
        clear hsc
        go_upto_region 15 with (go_at_call 22; refine (chain_any 2 2 _ [(ku0, ku1), (kv0, kv1), (4607182418800017408, 0), (kx0, kx1)] _ HSD.out).mono ?_; rintro e wd ⟨vh, hs, rfl, hys, hown, hb⟩; have HMC11 := hid (heap_later2 hb HMD.out); have HSC11 := hid (HSD.out.below hb (Nat.le_refl _)); have HB11 := hid (below_next HBC.out hb); rw [HY5.out] at hys ⊢; dsimp only at hys ⊢; (try simp only [Nat.cast_ofNat]); have HHS := hid hys; obtain ⟨avh, cvh, rfl⟩ := (IsSl.of_own hown).form; have HSH := hid (IsSl.of_own hown); clear hys hown; clear hb )
        clear HMD HSD HBC
        clear s0 s1 s2
        have HFH := hid (HY6.out hs HHS.out)
        have HLH := hid (HFH.out.len)
        have HMC12 := hid (heap_later2 ((Below.refl wd.heap.size wd).alloc (Nat.le_refl _) (.cells #[.int .i64 2, .int .i64 2, .slice avh hs.length cvh] 43)) HMC11.out)
        have HSC12 := hid (HSC11.out.below ((Below.refl wd.heap.size wd).alloc (Nat.le_refl _) (.cells #[.int .i64 2, .int .i64 2, .slice avh hs.length cvh] 43)) (Nat.le_refl _))
        have HSH12 := hid (HSH.out.below ((Below.refl wd.heap.size wd).alloc (Nat.le_refl _) (.cells #[.int .i64 2, .int .i64 2, .slice avh hs.length cvh] 43)) (Nat.le_refl _))
        have HB12 := hid (below_next HB11.out ((Below.refl wd.heap.size wd).alloc (Nat.le_refl _) (.cells #[.int .i64 2, .int .i64 2, .slice avh hs.length cvh] 43)))
        have HMH := hid (heap_alloc_new wd (.cells #[.int .i64 2, .int .i64 2, .slice avh hs.length cvh] 43))
        clear HMC11 HSC11 HSH HB11
        generalize wd.alloc (.cells #[.int .i64 2, .int .i64 2, .slice avh hs.length cvh] 43) = we at *
        generalize wd.heap.size = gh at *
        obtain ⟨Y4, hy1, hy2⟩ := ch_four_back HUV.out HFH.out HB20.out.1.1 HB20.out.1.2 HB20.out.2 (by decide)
        have HY7 := hid hy1
        have HY8 := hid hy2
        clear hy1 hy2
        have hsc := block_cells HMH.out
        have s0 := hsc.1 0 _ rfl
        have s1 := hsc.1 1 _ rfl
        have s2 := hsc.1 2 _ rfl
        clear hsc
        go_upto_region 16 with (go_at_call 23; refine (fromchain_any 2 2 _ hs _ HSH12.out).mono ?_; rintro e wf ⟨va, zs, rfl, hys, hown, hb⟩; have HMC13 := hid (heap_later2 hb HMC12.out); have HSC13 := hid (HSC12.out.below hb (Nat.le_refl _)); have HSH13 := hid (HSH12.out.below hb (Nat.le_refl _)); have HMH13 := hid (heap_later2 hb HMH.out); have HB13 := hid (below_next HB12.out hb); rw [HY7.out] at hys ⊢; dsimp only at hys ⊢; (try simp only [Nat.cast_ofNat]); have HAS := hid hys; obtain ⟨ava, cva, rfl⟩ := (IsSl.of_own hown).form; have HSA := hid (IsSl.of_own hown); clear hys hown; clear hb )
        clear HMC12 HSC12 HSH12 HMH HB12
        clear s0 s1 s2
        have HEA := hid ((HY8.out zs HAS.out).eq HFC.out)
        have HLA := hid ((HY8.out zs HAS.out).len)
        have HMC14 := hid (heap_later2 ((Below.refl wf.heap.size wf).alloc (Nat.le_refl _) (.cells #[.int .i64 2, .int .i64 2, .slice ava zs.length cva] 43)) HMC13.out)
        have HSC14 := hid (HSC13.out.below ((Below.refl wf.heap.size wf).alloc (Nat.le_refl _) (.cells #[.int .i64 2, .int .i64 2, .slice ava zs.length cva] 43)) (Nat.le_refl _))
        have HSH14 := hid (HSH13.out.below ((Below.refl wf.heap.size wf).alloc (Nat.le_refl _) (.cells #[.int .i64 2, .int .i64 2, .slice ava zs.length cva] 43)) (Nat.le_refl _))
        have HMH14 := hid (heap_later2 ((Below.refl wf.heap.size wf).alloc (Nat.le_refl _) (.cells #[.int .i64 2, .int .i64 2, .slice ava zs.length cva] 43)) HMH13.out)
        have HSA14 := hid (HSA.out.below ((Below.refl wf.heap.size wf).alloc (Nat.le_refl _) (.cells #[.int .i64 2, .int .i64 2, .slice ava zs.length cva] 43)) (Nat.le_refl _))
        have HB14 := hid (below_next HB13.out ((Below.refl wf.heap.size wf).alloc (Nat.le_refl _) (.cells #[.int .i64 2, .int .i64 2, .slice ava zs.length cva] 43)))
        have HMA := hid (heap_alloc_new wf (.cells #[.int .i64 2, .int .i64 2, .slice ava zs.length cva] 43))
        clear HMC13 HSC13 HSH13 HMH13 HSA HB13
        generalize wf.alloc (.cells #[.int .i64 2, .int .i64 2, .slice ava zs.length cva] 43) = wg at *
        generalize wf.heap.size = gaa at *
        have hsc := block_cells HMA.out
        have s0 := hsc.1 0 _ rfl
        have s1 := hsc.1 1 _ rfl
        have s2 := hsc.1 2 _ rfl
        clear hsc
        have hsc := block_cells HMC14.out
        have r0 := hsc.1 0 _ rfl
        have r1 := hsc.1 1 _ rfl
        have r2 := hsc.1 2 _ rfl
        clear hsc
        go_upto_region 18 with (go_at_call 20; refine (equalmatrix_any 2 _ _ zs [(ku0, ku1), (kv0, kv1), (4607182418800017408, 0), (kx0, kx1)] _ HSA14.out HSC14.out (by have := HLA.out; omega) HEA.out).mono ?_; rintro e wh ⟨rfl, hb⟩; have HMC15 := hid (heap_later2 hb HMC14.out); have HSC15 := hid (HSC14.out.below hb (Nat.le_refl _)); have HB15 := hid (below_next HB14.out hb); clear hb )
        clear s0 s1 s2 r0 r1 r2
        clear HMC14 HSC14 HB14 HSA14 HSH14 HMA HMH14
        go_upto_region 19 with (go_at_call 17; refine (pair_any (4607182418800017408, 0) (0, 0) (0, 0) (4607182418800017408, 0) _).mono ?_; rintro e wi ⟨qi, rfl, hq, hrow, hb⟩; have HMC16 := hid (heap_later2 hb HMC15.out); have HSC16 := hid (HSC15.out.below hb (Nat.le_refl _)); have HB16 := hid (below_next HB15.out hb); have HSI := hid (isl_of4 hrow); clear hq hrow; clear hb )
        clear HMC15 HSC15 HB15
        have HMC17 := hid (heap_later2 ((Below.refl wi.heap.size wi).alloc (Nat.le_refl _) (.cells #[.int .i64 2, .int .i64 2, .slice (some ⟨qi, 0, none⟩) 4 4] 43)) HMC16.out)
        have HSC17 := hid (HSC16.out.below ((Below.refl wi.heap.size wi).alloc (Nat.le_refl _) (.cells #[.int .i64 2, .int .i64 2, .slice (some ⟨qi, 0, none⟩) 4 4] 43)) (Nat.le_refl _))
        have HSI17 := hid (HSI.out.below ((Below.refl wi.heap.size wi).alloc (Nat.le_refl _) (.cells #[.int .i64 2, .int .i64 2, .slice (some ⟨qi, 0, none⟩) 4 4] 43)) (Nat.le_refl _))
        have HB17 := hid (below_next HB16.out ((Below.refl wi.heap.size wi).alloc (Nat.le_refl _) (.cells #[.int .i64 2, .int .i64 2, .slice (some ⟨qi, 0, none⟩) 4 4] 43)))
        have HMI := hid (heap_alloc_new wi (.cells #[.int .i64 2, .int .i64 2, .slice (some ⟨qi, 0, none⟩) 4 4] 43))
        clear HMC16 HSC16 HSI HB16
        generalize wi.alloc (.cells #[.int .i64 2, .int .i64 2, .slice (some ⟨qi, 0, none⟩) 4 4] 43) = wj at *
        generalize wi.heap.size = gi at *
        have hU := HUV.out
        have HID := hid (show Four U [(4607182418800017408, 0), (0, 0), (0, 0), (4607182418800017408, 0)] 1 0 0 0 0 0 1 0 from ⟨_, _, _, _, rfl, ⟨isW1 hU, isW0 U⟩, ⟨isW0 U, isW0 U⟩, ⟨isW0 U, isW0 U⟩, ⟨isW1 hU, isW0 U⟩⟩)
        obtain ⟨i1, i2, i3, i4⟩ := idle_four hU (O := (4607182418800017408, 0)) (Z := (0, 0)) ⟨isW1 hU, isW0 U⟩ ⟨isW0 U, isW0 U⟩ HWC.out.1 HWC.out.2.1 HO.out HWC.out.2.2 ⟨HUP.out _ HB20.out.1.1.1, HUP.out _ HB20.out.1.1.2⟩ ⟨HUP.out _ HB20.out.1.2.1, HUP.out _ HB20.out.1.2.2⟩ ⟨by decide, by decide⟩ ⟨HUP.out _ HB20.out.2.1, HUP.out _ HB20.out.2.2⟩
        have HI1 := hid i1
        have HI2 := hid i2
        have HI3 := hid i3
        have HI4 := hid i4
        clear i1 i2 i3 i4 hU
        have hsc := block_cells HMC17.out
        have s0 := hsc.1 0 _ rfl
        have s1 := hsc.1 1 _ rfl
        have s2 := hsc.1 2 _ rfl
        clear hsc
        have hsc := block_cells HMI.out
        have r0 := hsc.1 0 _ rfl
        have r1 := hsc.1 1 _ rfl
        have r2 := hsc.1 2 _ rfl
        clear hsc
        go_upto_region 20 with (go_at_call 24; refine (cascade22_any qc 0 4 qi 0 4 (ku0, ku1) (kv0, kv1) (4607182418800017408, 0) (kx0, kx1) (4607182418800017408, 0) (0, 0) (0, 0) (4607182418800017408, 0) _ HSC17.out HSI17.out HFC.out.tak HID.out.tak HI3.out).mono ?_; rintro e wk ⟨vp, ps, rfl, hys, hown, hb⟩; have HMC18 := hid (heap_later2 hb HMC17.out); have HSC18 := hid (HSC17.out.below hb (Nat.le_refl _)); have HSI18 := hid (HSI17.out.below hb (Nat.le_refl _)); have HMI18 := hid (heap_later2 hb HMI.out); have HB18 := hid (below_next HB17.out hb); have HFP := hid (HI1.out ps hys); obtain ⟨avp, cvp, rfl⟩ := (IsSl.of_own hown).form; have HSP := hid (IsSl.of_own hown); clear hys hown; clear hb )
        clear s0 s1 s2 r0 r1 r2
        clear HMC17 HSC17 HSI17 HMI HB17
        have HMC19 := hid (heap_later2 ((Below.refl wk.heap.size wk).alloc (Nat.le_refl _) (.cells #[.int .i64 2, .int .i64 2, .slice avp ps.length cvp] 43)) HMC18.out)
        have HSC19 := hid (HSC18.out.below ((Below.refl wk.heap.size wk).alloc (Nat.le_refl _) (.cells #[.int .i64 2, .int .i64 2, .slice avp ps.length cvp] 43)) (Nat.le_refl _))
        have HSI19 := hid (HSI18.out.below ((Below.refl wk.heap.size wk).alloc (Nat.le_refl _) (.cells #[.int .i64 2, .int .i64 2, .slice avp ps.length cvp] 43)) (Nat.le_refl _))
        have HMI19 := hid (heap_later2 ((Below.refl wk.heap.size wk).alloc (Nat.le_refl _) (.cells #[.int .i64 2, .int .i64 2, .slice avp ps.length cvp] 43)) HMI18.out)
        have HSP19 := hid (HSP.out.below ((Below.refl wk.heap.size wk).alloc (Nat.le_refl _) (.cells #[.int .i64 2, .int .i64 2, .slice avp ps.length cvp] 43)) (Nat.le_refl _))
        have HB19 := hid (below_next HB18.out ((Below.refl wk.heap.size wk).alloc (Nat.le_refl _) (.cells #[.int .i64 2, .int .i64 2, .slice avp ps.length cvp] 43)))
        have HMP := hid (heap_alloc_new wk (.cells #[.int .i64 2, .int .i64 2, .slice avp ps.length cvp] 43))
        clear HMC18 HSC18 HSI18 HMI18 HSP HB18
        generalize wk.alloc (.cells #[.int .i64 2, .int .i64 2, .slice avp ps.length cvp] 43) = wl at *
        generalize wk.heap.size = gp at *
        have hsc := block_cells HMI19.out
        have s0 := hsc.1 0 _ rfl
        have s1 := hsc.1 1 _ rfl
        have s2 := hsc.1 2 _ rfl
        clear hsc
        have hsc := block_cells HMC19.out
        have r0 := hsc.1 0 _ rfl
        have r1 := hsc.1 1 _ rfl
        have r2 := hsc.1 2 _ rfl
        clear hsc
        go_upto_region 21 with (go_at_call 24; refine (cascade22_any qi 0 4 qc 0 4 (4607182418800017408, 0) (0, 0) (0, 0) (4607182418800017408, 0) (ku0, ku1) (kv0, kv1) (4607182418800017408, 0) (kx0, kx1) _ HSI19.out HSC19.out HID.out.tak HFC.out.tak HI4.out).mono ?_; rintro e wm ⟨vq, qs, rfl, hys, hown, hb⟩; have HMC20 := hid (heap_later2 hb HMC19.out); have HSC20 := hid (HSC19.out.below hb (Nat.le_refl _)); have HSI20 := hid (HSI19.out.below hb (Nat.le_refl _)); have HMI20 := hid (heap_later2 hb HMI19.out); have HSP20 := hid (HSP19.out.below hb (Nat.le_refl _)); have HMP20 := hid (heap_later2 hb HMP.out); have HB20 := hid (below_next HB19.out hb); have HFQ := hid (HI2.out qs hys); obtain ⟨avq, cvq, rfl⟩ := (IsSl.of_own hown).form; have HSQ := hid (IsSl.of_own hown); clear hys hown; clear hb )
        clear s0 s1 s2 r0 r1 r2
        clear HMC19 HSC19 HSI19 HMI19 HSP19 HMP HB19
        have HMC21 := hid (heap_later2 ((Below.refl wm.heap.size wm).alloc (Nat.le_refl _) (.cells #[.int .i64 2, .int .i64 2, .slice avq qs.length cvq] 43)) HMC20.out)
        have HSC21 := hid (HSC20.out.below ((Below.refl wm.heap.size wm).alloc (Nat.le_refl _) (.cells #[.int .i64 2, .int .i64 2, .slice avq qs.length cvq] 43)) (Nat.le_refl _))
        have HSI21 := hid (HSI20.out.below ((Below.refl wm.heap.size wm).alloc (Nat.le_refl _) (.cells #[.int .i64 2, .int .i64 2, .slice avq qs.length cvq] 43)) (Nat.le_refl _))
        have HMI21 := hid (heap_later2 ((Below.refl wm.heap.size wm).alloc (Nat.le_refl _) (.cells #[.int .i64 2, .int .i64 2, .slice avq qs.length cvq] 43)) HMI20.out)
        have HSP21 := hid (HSP20.out.below ((Below.refl wm.heap.size wm).alloc (Nat.le_refl _) (.cells #[.int .i64 2, .int .i64 2, .slice avq qs.length cvq] 43)) (Nat.le_refl _))
        have HMP21 := hid (heap_later2 ((Below.refl wm.heap.size wm).alloc (Nat.le_refl _) (.cells #[.int .i64 2, .int .i64 2, .slice avq qs.length cvq] 43)) HMP20.out)
        have HSQ21 := hid (HSQ.out.below ((Below.refl wm.heap.size wm).alloc (Nat.le_refl _) (.cells #[.int .i64 2, .int .i64 2, .slice avq qs.length cvq] 43)) (Nat.le_refl _))
        have HB21 := hid (below_next HB20.out ((Below.refl wm.heap.size wm).alloc (Nat.le_refl _) (.cells #[.int .i64 2, .int .i64 2, .slice avq qs.length cvq] 43)))
        have HMQ := hid (heap_alloc_new wm (.cells #[.int .i64 2, .int .i64 2, .slice avq qs.length cvq] 43))
        clear HMC20 HSC20 HSI20 HMI20 HSP20 HMP20 HSQ HB20
        generalize wm.alloc (.cells #[.int .i64 2, .int .i64 2, .slice avq qs.length cvq] 43) = wn at *
        generalize wm.heap.size = gq at *
        have HEP := hid (HFP.out.eq HFC.out)
        have HEW := hid (HFQ.out.eq HFC.out)
        have HLP := hid HFP.out.len
        have HLQ := hid HFQ.out.len
        have T1 : True := trivial
        have T2 : True := trivial
        have hsc := block_cells HMP21.out
        have s0 := hsc.1 0 _ rfl
        have s1 := hsc.1 1 _ rfl
        have s2 := hsc.1 2 _ rfl
        clear hsc
        have hsc := block_cells HMC21.out
        have r0 := hsc.1 0 _ rfl
        have r1 := hsc.1 1 _ rfl
        have r2 := hsc.1 2 _ rfl
        clear hsc
        have hsc := block_cells HMQ.out
        have t0 := hsc.1 0 _ rfl
        have t1 := hsc.1 1 _ rfl
        have t2 := hsc.1 2 _ rfl
        clear hsc
        go_wp2_with (first | (clear T1; go_at_call 20; refine (equalmatrix_any 2 _ _ ps [(ku0, ku1), (kv0, kv1), (4607182418800017408, 0), (kx0, kx1)] _ HSP21.out HSC21.out (by have := HLP.out; omega) HEP.out).mono ?_; rintro e wo ⟨rfl, hb⟩; have HMC22 := hid (heap_later2 hb HMC21.out); have HSC22 := hid (HSC21.out.below hb (Nat.le_refl _)); have HSI22 := hid (HSI21.out.below hb (Nat.le_refl _)); have HMI22 := hid (heap_later2 hb HMI21.out); have HSP22 := hid (HSP21.out.below hb (Nat.le_refl _)); have HMP22 := hid (heap_later2 hb HMP21.out); have HSQ22 := hid (HSQ21.out.below hb (Nat.le_refl _)); have HMQ22 := hid (heap_later2 hb HMQ.out); have HB22 := hid (below_next HB21.out hb); have hsc := block_cells HMC22.out; have r0 := hsc.1 0 _ rfl; have r1 := hsc.1 1 _ rfl; have r2 := hsc.1 2 _ rfl; clear hsc; have hsc := block_cells HMQ22.out; have t0 := hsc.1 0 _ rfl; have t1 := hsc.1 1 _ rfl; have t2 := hsc.1 2 _ rfl; clear hsc; clear hb ) | (clear T2; go_at_call 20; refine (equalmatrix_any 2 _ _ qs [(ku0, ku1), (kv0, kv1), (4607182418800017408, 0), (kx0, kx1)] _ HSQ22.out HSC22.out (by have := HLQ.out; omega) HEW.out).mono ?_; rintro e wq ⟨rfl, hb⟩; have HMC23 := hid (heap_later2 hb HMC22.out); have HSC23 := hid (HSC22.out.below hb (Nat.le_refl _)); have HSI23 := hid (HSI22.out.below hb (Nat.le_refl _)); have HMI23 := hid (heap_later2 hb HMI22.out); have HSP23 := hid (HSP22.out.below hb (Nat.le_refl _)); have HMP23 := hid (heap_later2 hb HMP22.out); have HSQ23 := hid (HSQ22.out.below hb (Nat.le_refl _)); have HMQ23 := hid (heap_later2 hb HMQ22.out); have HB23 := hid (below_next HB22.out hb); clear hb ))
        (try simp only [Exit.inBlock, Exit.then])
        (try rw [Exit.noGoto_ret])
        go_ret
        exact ⟨rfl, HB23.out⟩
  · go_enter Tryz.func5, Tryz.ntmps5
    go_upto_region 1 with fail
    generalize ((w.alloc (.cells #[.int .i32 u0, .int .i32 u1] 55)).alloc (.cells #[.int .i32 v0, .int .i32 v1] 55)).alloc (.cells #[.int .i32 x0, .int .i32 x1] 55) = w1 at *
    obtain ⟨pu, hpu⟩ : ∃ g, w.heap.size = g := ⟨_, rfl⟩
    obtain ⟨pv, hpv⟩ : ∃ g, pu + 1 = g := ⟨_, rfl⟩
    obtain ⟨px, hpx⟩ : ∃ g, pv + 1 = g := ⟨_, rfl⟩
    rw [hpu] at HBU HBV HBX ⊢
    rw [hpv] at HBV HBX ⊢
    rw [hpx] at HBX ⊢
    clear hpu hpv hpx
    go_upto_region 2 with (go_at_call 8; refine (HLV.out _ HB.out).mono ?_; rintro e w2 ⟨rfl, hb⟩; have HBU1 := hid (heap_later2 hb HBU.out); have HBV1 := hid (heap_later2 hb HBV.out); have HBX1 := hid (heap_later2 hb HBX.out); have HB1 := hid (below_next HB.out hb); clear hb )
    clear HBU HBV HBX HB
    go_upto_region 7 with fail
    refine wp_region_any (by kernel_rfl) ?_
    change wpAny _ _ _ _ _ _ _ (World.drew _)
    refine wpAny_makersD [⟨some 27, 0, []⟩, ⟨some 28, 1, []⟩, ⟨some 29, 2, []⟩, ⟨some 30, 3, []⟩, ⟨some 31, 4, []⟩, ⟨some 32, 5, []⟩]
      (fun w' => w'.heap[pu]? = some (.cells #[.int .i32 u0, .int .i32 u1] 55 (0, 0)) ∧ w'.heap[pv]? = some (.cells #[.int .i32 v0, .int .i32 v1] 55 (0, 0)))
      (fun oq v _ _ _ _ => match oq with | 0 => v = .func (.func 16) #[] #[] | 1 => v = .agg #[.int .i32 u0, .int .i32 u1] | 2 => v = .complex .f64 (nr (u0.tmod 1000)) (nr (u1.tmod 1000)) | 3 => v = .func (.func 16) #[] #[] | 4 => v = .agg #[.int .i32 v0, .int .i32 v1] | 5 => v = .complex .f64 (nr (v0.tmod 1000)) (nr (v1.tmod 1000)) | _ => True) (by kernel_rfl) ?hSan (fun _ _ hb h => ⟨heap_next hb h.1, heap_next hb h.2⟩) (fun _ _ _ _ _ _ _ _ _ h => h) ?hopan ?hendan
    case hSan => exact ⟨heap_next (Below.refl _ _).drew HBU1.out, heap_next (Below.refl _ _).drew HBV1.out⟩
    case hopan =>
      delta Owed
      simp only [fillD, Act.put, List.setIfInBounds_toArray, List.set_cons_zero, List.set_cons_succ]
      refine Each.cons rfl ?_ (Each.cons rfl ?_ (Each.cons rfl ?_ (Each.cons rfl ?_ (Each.cons rfl ?_ (Each.cons rfl ?_ Each.nil)))))
      · intro vs w2 hb2 hS2 hR2 K hK
        simp only [List.set_cons_zero, List.set_cons_succ] at hK ⊢
        go_simp
        exact hK.out _ _ (Below.refl _ _) rfl
      · intro vs w2 hb2 hS2 hR2 K hK
        simp only [List.set_cons_zero, List.set_cons_succ] at hK ⊢
        obtain ⟨k0, k1⟩ : w2.cell? ⟨pu, 0, none⟩ = some (.int .i32 u0) ∧ w2.cell? ⟨pu, 1, none⟩ = some (.int .i32 u1) := ⟨(cells_ofS hS2.1).1 0 _ rfl, (cells_ofS hS2.1).1 1 _ rfl⟩
        obtain ⟨j0, j1⟩ : w2.cell? ⟨pv, 0, none⟩ = some (.int .i32 v0) ∧ w2.cell? ⟨pv, 1, none⟩ = some (.int .i32 v1) := ⟨(cells_ofS hS2.2).1 0 _ rfl, (cells_ofS hS2.2).1 1 _ rfl⟩
        go_simp
        exact hK.out _ _ (Below.refl _ _) rfl
      · intro vs w2 hb2 hS2 hR2 K hK
        have h0 : vs 0 = .func (.func 16) #[] #[] := by obtain ⟨_, _, _, h⟩ := hR2 0 (by kernel_rfl); exact h
        have h1 : vs 1 = .agg #[.int .i32 u0, .int .i32 u1] := by obtain ⟨_, _, _, h⟩ := hR2 1 (by kernel_rfl); exact h
        simp only [List.set_cons_zero, List.set_cons_succ] at hK ⊢
        simp only [h0, h1] at hK ⊢
        rw [if_pos (by rfl)]
        go_wp2_with (first | (refine (small_any u0 u1 _ HU.out.1 HU.out.2).mono ?_; rintro e w5 ⟨rfl, hb⟩) | (go_simp; refine (small_any u0 u1 _ HU.out.1 HU.out.2).mono ?_; rintro e w5 ⟨rfl, hb⟩))
        exact hK.out _ _ hb rfl
      · intro vs w2 hb2 hS2 hR2 K hK
        simp only [List.set_cons_zero, List.set_cons_succ] at hK ⊢
        go_simp
        exact hK.out _ _ (Below.refl _ _) rfl
      · intro vs w2 hb2 hS2 hR2 K hK
        simp only [List.set_cons_zero, List.set_cons_succ] at hK ⊢
        obtain ⟨k0, k1⟩ : w2.cell? ⟨pu, 0, none⟩ = some (.int .i32 u0) ∧ w2.cell? ⟨pu, 1, none⟩ = some (.int .i32 u1) := ⟨(cells_ofS hS2.1).1 0 _ rfl, (cells_ofS hS2.1).1 1 _ rfl⟩
        obtain ⟨j0, j1⟩ : w2.cell? ⟨pv, 0, none⟩ = some (.int .i32 v0) ∧ w2.cell? ⟨pv, 1, none⟩ = some (.int .i32 v1) := ⟨(cells_ofS hS2.2).1 0 _ rfl, (cells_ofS hS2.2).1 1 _ rfl⟩
        go_simp
        exact hK.out _ _ (Below.refl _ _) rfl
      · intro vs w2 hb2 hS2 hR2 K hK
        have h3 : vs 3 = .func (.func 16) #[] #[] := by obtain ⟨_, _, _, h⟩ := hR2 3 (by kernel_rfl); exact h
        have h4 : vs 4 = .agg #[.int .i32 v0, .int .i32 v1] := by obtain ⟨_, _, _, h⟩ := hR2 4 (by kernel_rfl); exact h
        simp only [List.set_cons_zero, List.set_cons_succ] at hK ⊢
        simp only [h3, h4] at hK ⊢
        rw [if_pos (by rfl)]
        go_wp2_with (first | (refine (small_any v0 v1 _ HV.out.1 HV.out.2).mono ?_; rintro e w5 ⟨rfl, hb⟩) | (go_simp; refine (small_any v0 v1 _ HV.out.1 HV.out.2).mono ?_; rintro e w5 ⟨rfl, hb⟩))
        exact hK.out _ _ hb rfl
    case hendan =>
      intro vs wx lo hiv hbx hSx hRx hdx
      have h0 : vs 0 = .func (.func 16) #[] #[] := (hRx 0 (by kernel_rfl)).1
      have h1 : vs 1 = .agg #[.int .i32 u0, .int .i32 u1] := (hRx 1 (by kernel_rfl)).1
      have H2 := (hRx 2 (by kernel_rfl)).1
      have h2 : vs 2 = .complex .f64 (nr (u0.tmod 1000)) (nr (u1.tmod 1000)) := H2
      have h3 : vs 3 = .func (.func 16) #[] #[] := (hRx 3 (by kernel_rfl)).1
      have h4 : vs 4 = .agg #[.int .i32 v0, .int .i32 v1] := (hRx 4 (by kernel_rfl)).1
      have H5 := (hRx 5 (by kernel_rfl)).1
      have h5 : vs 5 = .complex .f64 (nr (v0.tmod 1000)) (nr (v1.tmod 1000)) := H5
      simp only [fillD, Act.put, List.setIfInBounds_toArray, List.set_cons_zero, List.set_cons_succ, h0, h1, h2, h3, h4, h5]
      have hb := below_drew_left hbx
      have HBU2 := hid (heap_later2 hb HBU1.out)
      have HBV2 := hid (heap_later2 hb HBV1.out)
      have HBX2 := hid (heap_later2 hb HBX1.out)
      have HB2 := hid (below_next HB1.out hb)
      clear hbx hSx hRx hdx hb HBU1 HBV1 HBX1 HB1 h0 h1 h2 h3 h4 h5
      refine wpAny_one (i := 6) (by kernel_rfl) rfl (fun K hK => ?_)
      go_simp
      refine hK.out _ _ ?_
      clear hK
      refine wpAny_one (i := 7) (by kernel_rfl) rfl (fun K hK => ?_)
      go_simp
      refine hK.out _ _ ?_
      clear hK
      refine wpAny_done (by kernel_rfl) ?_ _
      have hU := HUV.out
      obtain ⟨u0s, hu0s⟩ : ∃ n, u0.tmod 1000 = n := ⟨_, rfl⟩
      obtain ⟨u1s, hu1s⟩ : ∃ n, u1.tmod 1000 = n := ⟨_, rfl⟩
      obtain ⟨v0s, hv0s⟩ : ∃ n, v0.tmod 1000 = n := ⟨_, rfl⟩
      obtain ⟨v1s, hv1s⟩ : ∃ n, v1.tmod 1000 = n := ⟨_, rfl⟩
      have bu0 := rem_lt u0 (m := 1000) (by decide)
      have bu1 := rem_lt u1 (m := 1000) (by decide)
      have bv0 := rem_lt v0 (m := 1000) (by decide)
      have bv1 := rem_lt v1 (m := 1000) (by decide)
      rw [hu0s] at bu0 ⊢
      rw [hu1s] at bu1 ⊢
      rw [hv0s] at bv0 ⊢
      rw [hv1s] at bv1 ⊢
      clear hu0s hu1s hv0s hv1s
      have p53 : (1000 : Nat) ≤ 2 ^ 25 := by decide
      have q53 : (2 : Nat) ^ 25 ≤ 2 ^ 53 := by decide
      have t1000 : ((1000 : Int)).natAbs = 1000 := rfl
      obtain ⟨n1, hn1⟩ : ∃ n, nr u0s = n := ⟨_, rfl⟩
      obtain ⟨n2, hn2⟩ : ∃ n, nr u1s = n := ⟨_, rfl⟩
      obtain ⟨n3, hn3⟩ : ∃ n, nr v0s = n := ⟨_, rfl⟩
      obtain ⟨n4, hn4⟩ : ∃ n, nr v1s = n := ⟨_, rfl⟩
      have wA : isC U (n1, n2) u0s u1s := ⟨by rw [← hn1]; exact isW_near hU (by omega), by rw [← hn2]; exact isW_near hU (by omega)⟩
      have wB : isC U (n3, n4) v0s v1s := ⟨by rw [← hn3]; exact isW_near hU (by omega), by rw [← hn4]; exact isW_near hU (by omega)⟩
      rw [hn1, hn2, hn3, hn4]
      clear hn1 hn2 hn3 hn4
      have m1 := abs_le_mul (m := 1000) (n := 1000) (a := u0s) (b := v0s) (by omega) (by omega)
      have m2 := abs_le_mul (m := 1000) (n := 1000) (a := u1s) (b := v1s) (by omega) (by omega)
      have m3 := abs_le_mul (m := 1000) (n := 1000) (a := u0s) (b := v1s) (by omega) (by omega)
      have m4 := abs_le_mul (m := 1000) (n := 1000) (a := u1s) (b := v0s) (by omega) (by omega)
      have p25 : (2 : Nat) ^ 25 = 33554432 := by decide
      have p52 : (2 : Nat) ^ 52 = 4503599627370496 := by decide
      have p532 : (2 : Nat) ^ 53 = 9007199254740992 := by decide
      have wM := isC_mul hU wA wB (by omega) (by omega) (by omega) (by omega)
      have wO : isC U (13830554455654793216, 0) (-1) 0 := ⟨isW_neg (isW1 hU), isW0 U⟩
      have wS := isC_add hU wO wM (by omega) (by omega)
      have f1 := isW_ffin (isW_mul hU wA.1 wB.1 (by omega))
      have f2 := isW_ffin (isW_mul hU wA.2 wB.2 (by omega))
      have f3 := isW_ffin (isW_mul hU wA.1 wB.2 (by omega))
      have f4 := isW_ffin (isW_mul hU wA.2 wB.1 (by omega))
      have hcm := run_cmul (P := Tryz.prog) 48 f1 f2 f3 f4 (isW_ffin wM.1) (isW_ffin wM.2)
      have hca := run_cadd (P := Tryz.prog) 48 (a := 13830554455654793216) (b := 0) (c := fsub (fmul n1 n3) (fmul n2 n4)) (d := fadd (fmul n1 n4) (fmul n2 n3)) (isW_ffin wS.1) (isW_ffin wS.2)
      obtain ⟨za, hza⟩ : ∃ n, fadd 13830554455654793216 (fsub (fmul n1 n3) (fmul n2 n4)) = n := ⟨_, rfl⟩
      obtain ⟨zb, hzb⟩ : ∃ n, fadd 0 (fadd (fmul n1 n4) (fmul n2 n3)) = n := ⟨_, rfl⟩
      rw [hza, hzb] at hca
      have HZ1 := hid (show isC U (za, zb) ((-1) + (u0s * v0s - u1s * v1s)) (0 + (u0s * v1s + u1s * v0s)) by rw [← hza, ← hzb]; exact wS)
      clear hza hzb
      have HA := hid wA
      have HBq := hid wB
      have HO := hid wO
      have HM := hid (And.intro m1 (And.intro m2 (And.intro m3 m4)))
      have HBD := hid (And.intro bu0 (And.intro bu1 (And.intro bv0 bv1)))
      clear f1 f2 f3 f4 wM wO wS wA wB m1 m2 m3 m4 bu0 bu1 bv0 bv1 p53 q53 t1000 p25 p52 p532 hU
      go_upto_region 9 with (go_at_call 17; refine (pair_any (za, zb) (n1, n2) (n3, n4) (4607182418800017408, 0) _).mono ?_; rintro e w4 ⟨qz, rfl, hq, hrow, hb⟩; have HBU3 := hid (heap_later2 hb HBU2.out); have HBV3 := hid (heap_later2 hb HBV2.out); have HBX3 := hid (heap_later2 hb HBX2.out); have HB3 := hid (below_next HB2.out hb); have HSZ := hid (isl_of4 hrow); clear hq hrow; clear hb )
      clear hcm hca HBU2 HBV2 HBX2 HB2
      have HBU4 := hid (heap_later2 ((Below.refl w4.heap.size w4).alloc (Nat.le_refl _) (.cells #[.int .i64 2, .int .i64 2, .slice (some ⟨qz, 0, none⟩) 4 4] 43)) HBU3.out)
      have HBV4 := hid (heap_later2 ((Below.refl w4.heap.size w4).alloc (Nat.le_refl _) (.cells #[.int .i64 2, .int .i64 2, .slice (some ⟨qz, 0, none⟩) 4 4] 43)) HBV3.out)
      have HBX4 := hid (heap_later2 ((Below.refl w4.heap.size w4).alloc (Nat.le_refl _) (.cells #[.int .i64 2, .int .i64 2, .slice (some ⟨qz, 0, none⟩) 4 4] 43)) HBX3.out)
      have HSZ4 := hid (HSZ.out.below ((Below.refl w4.heap.size w4).alloc (Nat.le_refl _) (.cells #[.int .i64 2, .int .i64 2, .slice (some ⟨qz, 0, none⟩) 4 4] 43)) (Nat.le_refl _))
      have HB4 := hid (below_next HB3.out ((Below.refl w4.heap.size w4).alloc (Nat.le_refl _) (.cells #[.int .i64 2, .int .i64 2, .slice (some ⟨qz, 0, none⟩) 4 4] 43)))
      have HMZ := hid (heap_alloc_new w4 (.cells #[.int .i64 2, .int .i64 2, .slice (some ⟨qz, 0, none⟩) 4 4] 43))
      clear HBU3 HBV3 HBX3 HSZ HB3
      generalize w4.alloc (.cells #[.int .i64 2, .int .i64 2, .slice (some ⟨qz, 0, none⟩) 4 4] 43) = w5 at *
      generalize w4.heap.size = gz at *
      have hU := HUV.out
      have p25 : (2 : Nat) ^ 25 = 33554432 := by decide
      obtain ⟨m1, m2, m3, m4⟩ := HM.out
      obtain ⟨d1, d2, d3, d4⟩ := HBD.out
      have t1000 : ((1000 : Int)).natAbs = 1000 := rfl
      rw [t1000] at d1 d2 d3 d4
      have HFZ := hid (show Four U [(za, zb), (n1, n2), (n3, n4), (4607182418800017408, 0)] ((-1) + (u0s * v0s - u1s * v1s)) (0 + (u0s * v1s + u1s * v0s)) u0s u1s v0s v1s 1 0 from ⟨_, _, _, _, rfl, HZ1.out, HA.out, HBq.out, isW1 hU, isW0 U⟩)
      have hl1 : ((-1) + (u0s * v0s - u1s * v1s)) * 1 - (0 + (u0s * v1s + u1s * v0s)) * 0 - (u0s * v0s - u1s * v1s) = (-1) := by grind
      have hl2 : ((-1) + (u0s * v0s - u1s * v1s)) * 0 + (0 + (u0s * v1s + u1s * v0s)) * 1 - (u0s * v1s + u1s * v0s) = 0 := by grind
      have HLW := hid (And.intro hl1 hl2)
      have HBO := hid (show ((((-1) + (u0s * v0s - u1s * v1s)).natAbs ≤ 2 ^ 25 ∧ (0 + (u0s * v1s + u1s * v0s)).natAbs ≤ 2 ^ 25) ∧ (u0s.natAbs ≤ 2 ^ 25 ∧ u1s.natAbs ≤ 2 ^ 25)) ∧ ((v0s.natAbs ≤ 2 ^ 25 ∧ v1s.natAbs ≤ 2 ^ 25) ∧ ((1 : Int).natAbs ≤ 2 ^ 25 ∧ (0 : Int).natAbs ≤ 2 ^ 25)) from ⟨⟨⟨by omega, by omega⟩, ⟨by omega, by omega⟩⟩, ⟨⟨by omega, by omega⟩, ⟨by decide, by decide⟩⟩⟩)
      clear hl1 hl2 p25 m1 m2 m3 m4 d1 d2 d3 d4 t1000
      obtain ⟨Y1, hy1, hy2⟩ := y_four hU HFZ.out HBO.out.1.1 HBO.out.1.2 HBO.out.2.1 HBO.out.2.2 HLW.out.1 HLW.out.2 (by decide)
      have HY1 := hid hy1
      have HY2 := hid hy2
      clear hy1 hy2 hU HM HBD HZ1 HA HBq
      have hsc := block_cells HMZ.out
      have s0 := hsc.1 0 _ rfl
      have s1 := hsc.1 1 _ rfl
      have s2 := hsc.1 2 _ rfl
      clear hsc
      go_upto_region 10 with (go_at_call 18; refine (y_any 2 2 _ [(za, zb), (n1, n2), (n3, n4), (4607182418800017408, 0)] _ HSZ4.out).mono ?_; rintro e w6 ⟨vy, ys, rfl, hys, hown, hb⟩; have HBU5 := hid (heap_later2 hb HBU4.out); have HBV5 := hid (heap_later2 hb HBV4.out); have HBX5 := hid (heap_later2 hb HBX4.out); have HSZ5 := hid (HSZ4.out.below hb (Nat.le_refl _)); have HMZ5 := hid (heap_later2 hb HMZ.out); have HB5 := hid (below_next HB4.out hb); rw [HY1.out] at hys ⊢; dsimp only at hys ⊢; (try simp only [Nat.cast_ofNat]); have HYS := hid hys; obtain ⟨avy, cvy, rfl⟩ := (IsSl.of_own hown).form; have HSY := hid (IsSl.of_own hown); clear hys hown; clear hb )
      clear HBU4 HBV4 HBX4 HSZ4 HMZ HB4
      clear s0 s1 s2
      have HFY := hid (HY2.out ys HYS.out)
      have HLY := hid (HFY.out.len)
      have HBU6 := hid (heap_later2 ((Below.refl w6.heap.size w6).alloc (Nat.le_refl _) (.cells #[.int .i64 2, .int .i64 2, .slice avy ys.length cvy] 43)) HBU5.out)
      have HBV6 := hid (heap_later2 ((Below.refl w6.heap.size w6).alloc (Nat.le_refl _) (.cells #[.int .i64 2, .int .i64 2, .slice avy ys.length cvy] 43)) HBV5.out)
      have HBX6 := hid (heap_later2 ((Below.refl w6.heap.size w6).alloc (Nat.le_refl _) (.cells #[.int .i64 2, .int .i64 2, .slice avy ys.length cvy] 43)) HBX5.out)
      have HSZ6 := hid (HSZ5.out.below ((Below.refl w6.heap.size w6).alloc (Nat.le_refl _) (.cells #[.int .i64 2, .int .i64 2, .slice avy ys.length cvy] 43)) (Nat.le_refl _))
      have HMZ6 := hid (heap_later2 ((Below.refl w6.heap.size w6).alloc (Nat.le_refl _) (.cells #[.int .i64 2, .int .i64 2, .slice avy ys.length cvy] 43)) HMZ5.out)
      have HSY6 := hid (HSY.out.below ((Below.refl w6.heap.size w6).alloc (Nat.le_refl _) (.cells #[.int .i64 2, .int .i64 2, .slice avy ys.length cvy] 43)) (Nat.le_refl _))
      have HB6 := hid (below_next HB5.out ((Below.refl w6.heap.size w6).alloc (Nat.le_refl _) (.cells #[.int .i64 2, .int .i64 2, .slice avy ys.length cvy] 43)))
      have HMY := hid (heap_alloc_new w6 (.cells #[.int .i64 2, .int .i64 2, .slice avy ys.length cvy] 43))
      clear HBU5 HBV5 HBX5 HSZ5 HMZ5 HSY HB5
      generalize w6.alloc (.cells #[.int .i64 2, .int .i64 2, .slice avy ys.length cvy] 43) = w7 at *
      generalize w6.heap.size = gy at *
      obtain ⟨Y2, hy1, hy2⟩ := y_four_back HUV.out HFY.out HBO.out.1.1 HBO.out.1.2 HBO.out.2.1 HBO.out.2.2 HLW.out.1 HLW.out.2 (by decide)
      have HY3 := hid hy1
      have HY4 := hid hy2
      clear hy1 hy2
      have hsc := block_cells HMY.out
      have s0 := hsc.1 0 _ rfl
      have s1 := hsc.1 1 _ rfl
      have s2 := hsc.1 2 _ rfl
      clear hsc
      go_upto_region 11 with (go_at_call 19; refine (z_any 2 2 _ ys _ HSY6.out).mono ?_; rintro e w8 ⟨vb, bs, rfl, hys, hown, hb⟩; have HBU7 := hid (heap_later2 hb HBU6.out); have HBV7 := hid (heap_later2 hb HBV6.out); have HBX7 := hid (heap_later2 hb HBX6.out); have HSZ7 := hid (HSZ6.out.below hb (Nat.le_refl _)); have HMZ7 := hid (heap_later2 hb HMZ6.out); have HSY7 := hid (HSY6.out.below hb (Nat.le_refl _)); have HMY7 := hid (heap_later2 hb HMY.out); have HB7 := hid (below_next HB6.out hb); rw [HY3.out] at hys ⊢; dsimp only at hys ⊢; (try simp only [Nat.cast_ofNat]); have HBS := hid hys; obtain ⟨avb, cvb, rfl⟩ := (IsSl.of_own hown).form; have HSB := hid (IsSl.of_own hown); clear hys hown; clear hb )
      clear HBU6 HBV6 HBX6 HSZ6 HMZ6 HSY6 HMY HB6
      clear s0 s1 s2
      have HEQ := hid ((HY4.out bs HBS.out).eq HFZ.out)
      have HLB := hid ((HY4.out bs HBS.out).len)
      have HBU8 := hid (heap_later2 ((Below.refl w8.heap.size w8).alloc (Nat.le_refl _) (.cells #[.int .i64 2, .int .i64 2, .slice avb bs.length cvb] 43)) HBU7.out)
      have HBV8 := hid (heap_later2 ((Below.refl w8.heap.size w8).alloc (Nat.le_refl _) (.cells #[.int .i64 2, .int .i64 2, .slice avb bs.length cvb] 43)) HBV7.out)
      have HBX8 := hid (heap_later2 ((Below.refl w8.heap.size w8).alloc (Nat.le_refl _) (.cells #[.int .i64 2, .int .i64 2, .slice avb bs.length cvb] 43)) HBX7.out)
      have HSZ8 := hid (HSZ7.out.below ((Below.refl w8.heap.size w8).alloc (Nat.le_refl _) (.cells #[.int .i64 2, .int .i64 2, .slice avb bs.length cvb] 43)) (Nat.le_refl _))
      have HMZ8 := hid (heap_later2 ((Below.refl w8.heap.size w8).alloc (Nat.le_refl _) (.cells #[.int .i64 2, .int .i64 2, .slice avb bs.length cvb] 43)) HMZ7.out)
      have HSY8 := hid (HSY7.out.below ((Below.refl w8.heap.size w8).alloc (Nat.le_refl _) (.cells #[.int .i64 2, .int .i64 2, .slice avb bs.length cvb] 43)) (Nat.le_refl _))
      have HMY8 := hid (heap_later2 ((Below.refl w8.heap.size w8).alloc (Nat.le_refl _) (.cells #[.int .i64 2, .int .i64 2, .slice avb bs.length cvb] 43)) HMY7.out)
      have HSB8 := hid (HSB.out.below ((Below.refl w8.heap.size w8).alloc (Nat.le_refl _) (.cells #[.int .i64 2, .int .i64 2, .slice avb bs.length cvb] 43)) (Nat.le_refl _))
      have HB8 := hid (below_next HB7.out ((Below.refl w8.heap.size w8).alloc (Nat.le_refl _) (.cells #[.int .i64 2, .int .i64 2, .slice avb bs.length cvb] 43)))
      have HMB := hid (heap_alloc_new w8 (.cells #[.int .i64 2, .int .i64 2, .slice avb bs.length cvb] 43))
      clear HBU7 HBV7 HBX7 HSZ7 HMZ7 HSY7 HMY7 HSB HB7
      generalize w8.alloc (.cells #[.int .i64 2, .int .i64 2, .slice avb bs.length cvb] 43) = w9 at *
      generalize w8.heap.size = gb at *
      have hsc := block_cells HMB.out
      have s0 := hsc.1 0 _ rfl
      have s1 := hsc.1 1 _ rfl
      have s2 := hsc.1 2 _ rfl
      clear hsc
      have hsc := block_cells HMZ8.out
      have r0 := hsc.1 0 _ rfl
      have r1 := hsc.1 1 _ rfl
      have r2 := hsc.1 2 _ rfl
      clear hsc
      go_upto_region 13 with (go_at_call 20; refine (equalmatrix_any 2 _ _ bs [(za, zb), (n1, n2), (n3, n4), (4607182418800017408, 0)] _ HSB8.out HSZ8.out (by have := HLB.out; omega) HEQ.out).mono ?_; rintro e wa ⟨rfl, hb⟩; have HBU9 := hid (heap_later2 hb HBU8.out); have HBV9 := hid (heap_later2 hb HBV8.out); have HBX9 := hid (heap_later2 hb HBX8.out); have HB9 := hid (below_next HB8.out hb); clear hb )
      clear s0 s1 s2 r0 r1 r2
      clear HBU8 HBV8 HBX8 HB8 HSB8 HSY8 HMB HMY8 HMZ8 HSZ8
      refine wp_region_any (by kernel_rfl) ?_
      change wpAny _ _ _ _ _ _ _ (World.drew _)
      refine wpAny_makersD [⟨some 63, 0, []⟩, ⟨some 64, 1, []⟩, ⟨some 65, 2, []⟩, ⟨some 66, 3, []⟩, ⟨some 67, 4, []⟩, ⟨some 68, 5, []⟩, ⟨some 69, 6, []⟩, ⟨some 70, 7, []⟩, ⟨some 18, 8, []⟩]
        (fun w' => w'.heap[pu]? = some (.cells #[.int .i32 u0, .int .i32 u1] 55 (0, 0)) ∧ w'.heap[pv]? = some (.cells #[.int .i32 v0, .int .i32 v1] 55 (0, 0)) ∧ w'.heap[px]? = some (.cells #[.int .i32 x0, .int .i32 x1] 55 (0, 0)))
        (fun oq v _ ww lo hi => (match oq with | 0 => v = .agg #[.int .i32 u0, .int .i32 u1] | 1 => v = .complex .f64 (nr (u0.tmod 1048577)) (nr (u1.tmod 1048577)) | 2 => v = .agg #[.int .i32 v0, .int .i32 v1] | 3 => v = .complex .f64 (nr (v0.tmod 1048577)) (nr (v1.tmod 1048577)) | 4 => v = .complex .f64 13830554455654793216 0 | 5 => v = .agg #[.int .i32 x0, .int .i32 x1] | 6 => v = .complex .f64 (nr (x0.tmod 1048577)) (nr (x1.tmod 1048577)) | 7 => True | 8 => True | _ => True) ∧ (oq = 7 → PairD (nr (u0.tmod 1048577), nr (u1.tmod 1048577)) (nr (v0.tmod 1048577), nr (v1.tmod 1048577)) (13830554455654793216, 0) (nr (x0.tmod 1048577), nr (x1.tmod 1048577)) v ww lo hi) ∧ (oq = 8 → BlkD (.cells #[.int .i64 0, .int .i64 0, .slice none 0 0] 43 (0, 0)) v ww lo hi)) (by kernel_rfl) ?hSbn (fun _ _ hb h => ⟨heap_next hb h.1, heap_next hb h.2.1, heap_next hb h.2.2⟩) (fun _ _ _ _ _ _ _ hb _ h => ⟨h.1, fun e => (h.2.1 e).later hb, fun e => (h.2.2 e).later hb⟩) ?hopbn ?hendbn
      case hSbn => exact ⟨heap_next (Below.refl _ _).drew HBU9.out, heap_next (Below.refl _ _).drew HBV9.out, heap_next (Below.refl _ _).drew HBX9.out⟩
      case hopbn =>
        delta Owed
        simp only [fillD, Act.put, List.setIfInBounds_toArray, List.set_cons_zero, List.set_cons_succ]
        refine Each.cons rfl ?_ (Each.cons rfl ?_ (Each.cons rfl ?_ (Each.cons rfl ?_ (Each.cons rfl ?_ (Each.cons rfl ?_ (Each.cons rfl ?_ (Each.cons rfl ?_ (Each.cons rfl ?_ Each.nil))))))))
        · intro vs w2 hb2 hS2 hR2 K hK
          simp only [List.set_cons_zero, List.set_cons_succ] at hK ⊢
          obtain ⟨ku0, ku1⟩ : w2.cell? ⟨pu, 0, none⟩ = some (.int .i32 u0) ∧ w2.cell? ⟨pu, 1, none⟩ = some (.int .i32 u1) := ⟨(cells_ofS hS2.1).1 0 _ rfl, (cells_ofS hS2.1).1 1 _ rfl⟩
          obtain ⟨kv0, kv1⟩ : w2.cell? ⟨pv, 0, none⟩ = some (.int .i32 v0) ∧ w2.cell? ⟨pv, 1, none⟩ = some (.int .i32 v1) := ⟨(cells_ofS hS2.2.1).1 0 _ rfl, (cells_ofS hS2.2.1).1 1 _ rfl⟩
          obtain ⟨kx0, kx1⟩ : w2.cell? ⟨px, 0, none⟩ = some (.int .i32 x0) ∧ w2.cell? ⟨px, 1, none⟩ = some (.int .i32 x1) := ⟨(cells_ofS hS2.2.2).1 0 _ rfl, (cells_ofS hS2.2.2).1 1 _ rfl⟩
          go_simp
          exact hK.out _ _ (Below.refl _ _) ⟨rfl, (fun e => (by cases e)), (fun e => (by cases e))⟩
        · intro vs w2 hb2 hS2 hR2 K hK
          have h0 : vs 0 = .agg #[.int .i32 u0, .int .i32 u1] := by obtain ⟨_, _, _, h⟩ := hR2 0 (by kernel_rfl); exact h.1
          simp only [List.set_cons_zero, List.set_cons_succ] at hK ⊢
          simp only [h0] at hK ⊢
          rw [if_pos (by rfl)]
          go_wp2_with (go_at_call 21; refine (wnum_any u0 u1 _ HU.out.1 HU.out.2).mono ?_; rintro e w5 ⟨rfl, hb⟩)
          exact hK.out _ _ hb ⟨rfl, (fun e => (by cases e)), (fun e => (by cases e))⟩
        · intro vs w2 hb2 hS2 hR2 K hK
          simp only [List.set_cons_zero, List.set_cons_succ] at hK ⊢
          obtain ⟨ku0, ku1⟩ : w2.cell? ⟨pu, 0, none⟩ = some (.int .i32 u0) ∧ w2.cell? ⟨pu, 1, none⟩ = some (.int .i32 u1) := ⟨(cells_ofS hS2.1).1 0 _ rfl, (cells_ofS hS2.1).1 1 _ rfl⟩
          obtain ⟨kv0, kv1⟩ : w2.cell? ⟨pv, 0, none⟩ = some (.int .i32 v0) ∧ w2.cell? ⟨pv, 1, none⟩ = some (.int .i32 v1) := ⟨(cells_ofS hS2.2.1).1 0 _ rfl, (cells_ofS hS2.2.1).1 1 _ rfl⟩
          obtain ⟨kx0, kx1⟩ : w2.cell? ⟨px, 0, none⟩ = some (.int .i32 x0) ∧ w2.cell? ⟨px, 1, none⟩ = some (.int .i32 x1) := ⟨(cells_ofS hS2.2.2).1 0 _ rfl, (cells_ofS hS2.2.2).1 1 _ rfl⟩
          go_simp
          exact hK.out _ _ (Below.refl _ _) ⟨rfl, (fun e => (by cases e)), (fun e => (by cases e))⟩
        · intro vs w2 hb2 hS2 hR2 K hK
          have h2 : vs 2 = .agg #[.int .i32 v0, .int .i32 v1] := by obtain ⟨_, _, _, h⟩ := hR2 2 (by kernel_rfl); exact h.1
          simp only [List.set_cons_zero, List.set_cons_succ] at hK ⊢
          simp only [h2] at hK ⊢
          rw [if_pos (by rfl)]
          go_wp2_with (go_at_call 21; refine (wnum_any v0 v1 _ HV.out.1 HV.out.2).mono ?_; rintro e w5 ⟨rfl, hb⟩)
          exact hK.out _ _ hb ⟨rfl, (fun e => (by cases e)), (fun e => (by cases e))⟩
        · intro vs w2 hb2 hS2 hR2 K hK
          simp only [List.set_cons_zero, List.set_cons_succ] at hK ⊢
          go_simp
          exact hK.out _ _ (Below.refl _ _) ⟨rfl, (fun e => (by cases e)), (fun e => (by cases e))⟩
        · intro vs w2 hb2 hS2 hR2 K hK
          simp only [List.set_cons_zero, List.set_cons_succ] at hK ⊢
          obtain ⟨ku0, ku1⟩ : w2.cell? ⟨pu, 0, none⟩ = some (.int .i32 u0) ∧ w2.cell? ⟨pu, 1, none⟩ = some (.int .i32 u1) := ⟨(cells_ofS hS2.1).1 0 _ rfl, (cells_ofS hS2.1).1 1 _ rfl⟩
          obtain ⟨kv0, kv1⟩ : w2.cell? ⟨pv, 0, none⟩ = some (.int .i32 v0) ∧ w2.cell? ⟨pv, 1, none⟩ = some (.int .i32 v1) := ⟨(cells_ofS hS2.2.1).1 0 _ rfl, (cells_ofS hS2.2.1).1 1 _ rfl⟩
          obtain ⟨kx0, kx1⟩ : w2.cell? ⟨px, 0, none⟩ = some (.int .i32 x0) ∧ w2.cell? ⟨px, 1, none⟩ = some (.int .i32 x1) := ⟨(cells_ofS hS2.2.2).1 0 _ rfl, (cells_ofS hS2.2.2).1 1 _ rfl⟩
          go_simp
          exact hK.out _ _ (Below.refl _ _) ⟨rfl, (fun e => (by cases e)), (fun e => (by cases e))⟩
        · intro vs w2 hb2 hS2 hR2 K hK
          have h5 : vs 5 = .agg #[.int .i32 x0, .int .i32 x1] := by obtain ⟨_, _, _, h⟩ := hR2 5 (by kernel_rfl); exact h.1
          simp only [List.set_cons_zero, List.set_cons_succ] at hK ⊢
          simp only [h5] at hK ⊢
          rw [if_pos (by rfl)]
          go_wp2_with (go_at_call 21; refine (wnum_any x0 x1 _ HX.out.1 HX.out.2).mono ?_; rintro e w5 ⟨rfl, hb⟩)
          exact hK.out _ _ hb ⟨rfl, (fun e => (by cases e)), (fun e => (by cases e))⟩
        · intro vs w2 hb2 hS2 hR2 K hK
          obtain ⟨_, _, _, H1⟩ := hR2 1 (by kernel_rfl)
          replace H1 := H1.1
          have h1 : vs 1 = .complex .f64 (nr (u0.tmod 1048577)) (nr (u1.tmod 1048577)) := H1
          obtain ⟨_, _, _, H3⟩ := hR2 3 (by kernel_rfl)
          replace H3 := H3.1
          have h3 : vs 3 = .complex .f64 (nr (v0.tmod 1048577)) (nr (v1.tmod 1048577)) := H3
          have h4 : vs 4 = .complex .f64 13830554455654793216 0 := by obtain ⟨_, _, _, h⟩ := hR2 4 (by kernel_rfl); exact h.1
          obtain ⟨_, _, _, H6⟩ := hR2 6 (by kernel_rfl)
          replace H6 := H6.1
          have h6 : vs 6 = .complex .f64 (nr (x0.tmod 1048577)) (nr (x1.tmod 1048577)) := H6
          simp only [List.set_cons_zero, List.set_cons_succ] at hK ⊢
          simp only [h4, h1, h3, h6] at hK ⊢
          rw [if_pos (by rfl)]
          go_wp2_with (go_at_call 17; refine (pair_any (nr (u0.tmod 1048577), nr (u1.tmod 1048577)) (nr (v0.tmod 1048577), nr (v1.tmod 1048577)) (13830554455654793216, 0) (nr (x0.tmod 1048577), nr (x1.tmod 1048577)) _).mono ?_; rintro e w5 ⟨qc, rfl, hq, hrow, hb⟩)
          exact hK.out _ _ hb ⟨trivial, (fun _ => ⟨qc, rfl, hq, (Array.getElem?_eq_some_iff.1 hrow).1, hrow⟩), (fun e => (by cases e))⟩
        · intro vs w2 hb2 hS2 hR2 K hK
          simp only [List.set_cons_zero, List.set_cons_succ] at hK ⊢
          go_simp
          exact hK.out _ _ ((Below.refl _ _).alloc (Nat.le_refl _) _) ⟨trivial, (fun e => (by cases e)), fun _ => BlkD.new _ _⟩
      case hendbn =>
        intro vs wx lo hiv hbx hSx hRx hdx
        have h0 : vs 0 = .agg #[.int .i32 u0, .int .i32 u1] := (hRx 0 (by kernel_rfl)).1.1
        have H1 := (hRx 1 (by kernel_rfl)).1.1
        have h1 : vs 1 = .complex .f64 (nr (u0.tmod 1048577)) (nr (u1.tmod 1048577)) := H1
        have h2 : vs 2 = .agg #[.int .i32 v0, .int .i32 v1] := (hRx 2 (by kernel_rfl)).1.1
        have H3 := (hRx 3 (by kernel_rfl)).1.1
        have h3 : vs 3 = .complex .f64 (nr (v0.tmod 1048577)) (nr (v1.tmod 1048577)) := H3
        have h4 : vs 4 = .complex .f64 13830554455654793216 0 := (hRx 4 (by kernel_rfl)).1.1
        have h5 : vs 5 = .agg #[.int .i32 x0, .int .i32 x1] := (hRx 5 (by kernel_rfl)).1.1
        have H6 := (hRx 6 (by kernel_rfl)).1.1
        have h6 : vs 6 = .complex .f64 (nr (x0.tmod 1048577)) (nr (x1.tmod 1048577)) := H6
        have Y7 := (hRx 7 (by kernel_rfl)).1.2.1 rfl
        have Z7 := (hRx 7 (by kernel_rfl)).2
        have Y8 := (hRx 8 (by kernel_rfl)).1.2.2 rfl
        have Z8 := (hRx 8 (by kernel_rfl)).2
        simp only [fillD, Act.put, List.setIfInBounds_toArray, List.set_cons_zero, List.set_cons_succ, h0, h1, h2, h3, h4, h5, h6]
        have hb := below_drew_left hbx
        have HBU10 := hid (heap_later2 hb HBU9.out)
        have HBV10 := hid (heap_later2 hb HBV9.out)
        have HBX10 := hid (heap_later2 hb HBX9.out)
        have HB10 := hid (below_next HB9.out hb)
        obtain ⟨qc, h7, _, _, hrow⟩ := Y7
        obtain ⟨gc, h8, hlo, _, hmc⟩ := Y8
        have HMC := hid hmc
        have HSC := hid (isl_of4 hrow)
        have HNE := hid (typ_neB hmc hrow (by decide))
        have HBS13 := hid (show w.heap.size ≤ gc from Nat.le_trans HB9.out.size (Nat.le_trans Z8.1 hlo))
        simp only [h7, h8]
        clear hbx hSx hRx hdx hb hmc hrow h7 h8 Z7 Z8 hlo HBU9 HBV9 HBX9 HB9 h0 h1 h2 h3 h4 h5 h6
        have f0 := (cells_ofS HMC.out).2 0
        have f1 := (cells_ofS HMC.out).2 1
        have f2 := (cells_ofS HMC.out).2 2
        have c0 := (cells_ofS HMC.out).1 0 _ rfl
        have c1 := (cells_ofS HMC.out).1 1 _ rfl
        have c2 := (cells_ofS HMC.out).1 2 _ rfl
        refine wpAny_one (i := 9) (by kernel_rfl) rfl (fun K hK => ?_)
        go_simp
        refine hK.out _ _ ?_
        clear hK f0 f1 f2 c0 c1 c2
        refine wpAny_done (by kernel_rfl) ?_ _
        have HBC := hid (show Below w.heap.size w (((wx.setCell ⟨gc, 0, none⟩ (.int .i64 2)).setCell ⟨gc, 1, none⟩ (.int .i64 2)).setCell ⟨gc, 2, none⟩ (.slice (some ⟨qc, 0, none⟩) 4 4)) from below_m3 HB10.out (by have := HBS13.out; omega))
        have HMD := hid (show (((wx.setCell ⟨gc, 0, none⟩ (.int .i64 2)).setCell ⟨gc, 1, none⟩ (.int .i64 2)).setCell ⟨gc, 2, none⟩ (.slice (some ⟨qc, 0, none⟩) 4 4)).heap[gc]? = some (.cells #[.int .i64 2, .int .i64 2, .slice (some ⟨qc, 0, none⟩) 4 4] 43 (0, 0)) from by have h := blk_set1 (blk_set1 (blk_set1 HMC.out (o := 0) (.int .i64 2)) (o := 1) (.int .i64 2)) (o := 2) (.slice (some ⟨qc, 0, none⟩) 4 4); simpa using h)
        have HSD := hid (HSC.out.grown (grown_m3 wx gc (.int .i64 2) (.int .i64 2) (.slice (some ⟨qc, 0, none⟩) 4 4)) (fun g e => by cases e; exact fun e2 => HNE.out (Option.some.inj e2)))
        clear HSC HNE HBS13 HBU10 HBV10 HBX10 HMC HB10
        generalize ((wx.setCell ⟨gc, 0, none⟩ (.int .i64 2)).setCell ⟨gc, 1, none⟩ (.int .i64 2)).setCell ⟨gc, 2, none⟩ (.slice (some ⟨qc, 0, none⟩) 4 4) = wc at *
        have hU := HUV.out
        obtain ⟨u0r, hu0r⟩ : ∃ n, u0.tmod 1048577 = n := ⟨_, rfl⟩
        obtain ⟨u1r, hu1r⟩ : ∃ n, u1.tmod 1048577 = n := ⟨_, rfl⟩
        obtain ⟨v0r, hv0r⟩ : ∃ n, v0.tmod 1048577 = n := ⟨_, rfl⟩
        obtain ⟨v1r, hv1r⟩ : ∃ n, v1.tmod 1048577 = n := ⟨_, rfl⟩
        obtain ⟨x0r, hx0r⟩ : ∃ n, x0.tmod 1048577 = n := ⟨_, rfl⟩
        obtain ⟨x1r, hx1r⟩ : ∃ n, x1.tmod 1048577 = n := ⟨_, rfl⟩
        have bu0 := rem_lt u0 (m := 1048577) (by decide)
        have bu1 := rem_lt u1 (m := 1048577) (by decide)
        have bv0 := rem_lt v0 (m := 1048577) (by decide)
        have bv1 := rem_lt v1 (m := 1048577) (by decide)
        have bx0 := rem_lt x0 (m := 1048577) (by decide)
        have bx1 := rem_lt x1 (m := 1048577) (by decide)
        skip
        rw [hu0r] at bu0 HSD
        rw [hu1r] at bu1 HSD
        rw [hv0r] at bv0 HSD
        rw [hv1r] at bv1 HSD
        rw [hx0r] at bx0 HSD
        rw [hx1r] at bx1 HSD
        clear hu0r hu1r hv0r hv1r hx0r hx1r
        obtain ⟨ku0, hku0⟩ : ∃ n, nr u0r = n := ⟨_, rfl⟩
        obtain ⟨ku1, hku1⟩ : ∃ n, nr u1r = n := ⟨_, rfl⟩
        obtain ⟨kv0, hkv0⟩ : ∃ n, nr v0r = n := ⟨_, rfl⟩
        obtain ⟨kv1, hkv1⟩ : ∃ n, nr v1r = n := ⟨_, rfl⟩
        obtain ⟨kx0, hkx0⟩ : ∃ n, nr x0r = n := ⟨_, rfl⟩
        obtain ⟨kx1, hkx1⟩ : ∃ n, nr x1r = n := ⟨_, rfl⟩
        have p20 : (2 : Nat) ^ 20 = 1048576 := by decide
        have p53 : (2 : Nat) ^ 53 = 9007199254740992 := by decide
        have tt : ((1048577 : Int)).natAbs = 1048577 := rfl
        rw [tt] at bu0 bu1 bv0 bv1 bx0 bx1
        have wU : isC U (ku0, ku1) u0r u1r := ⟨by rw [← hku0]; exact isW_near hU (by omega), by rw [← hku1]; exact isW_near hU (by omega)⟩
        have wV : isC U (kv0, kv1) v0r v1r := ⟨by rw [← hkv0]; exact isW_near hU (by omega), by rw [← hkv1]; exact isW_near hU (by omega)⟩
        have wX : isC U (kx0, kx1) x0r x1r := ⟨by rw [← hkx0]; exact isW_near hU (by omega), by rw [← hkx1]; exact isW_near hU (by omega)⟩
        rw [hku0] at HSD
        rw [hku1] at HSD
        rw [hkv0] at HSD
        rw [hkv1] at HSD
        rw [hkx0] at HSD
        rw [hkx1] at HSD
        clear hku0 hku1 hkv0 hkv1 hkx0 hkx1
        have HFC := hid (show Four U [(ku0, ku1), (kv0, kv1), (13830554455654793216, 0), (kx0, kx1)] u0r u1r v0r v1r (-1) 0 x0r x1r from ⟨_, _, _, _, rfl, wU, wV, HO.out, wX⟩)
        have HWC := hid (And.intro wU (And.intro wV wX))
        have HB20 := hid (show ((u0r.natAbs ≤ 2 ^ 20 ∧ u1r.natAbs ≤ 2 ^ 20) ∧ (v0r.natAbs ≤ 2 ^ 20 ∧ v1r.natAbs ≤ 2 ^ 20)) ∧ (x0r.natAbs ≤ 2 ^ 20 ∧ x1r.natAbs ≤ 2 ^ 20) from ⟨⟨⟨by omega, by omega⟩, ⟨by omega, by omega⟩⟩, ⟨by omega, by omega⟩⟩)
        have up1 : ∀ n : Nat, n ≤ 2 ^ 20 → n ≤ 2 ^ 21 := fun n h => Nat.le_trans h (by decide)
        have up2 : ∀ n : Nat, n ≤ 2 ^ 20 → n ≤ 2 ^ 45 := fun n h => Nat.le_trans h (by decide)
        obtain ⟨Y3, hy1, hy2⟩ := ch_four hU HFC.out ⟨up1 _ HB20.out.1.1.1, up1 _ HB20.out.1.1.2⟩ ⟨up2 _ HB20.out.1.2.1, up2 _ HB20.out.1.2.2⟩ ⟨up1 _ HB20.out.2.1, up1 _ HB20.out.2.2⟩ (by decide)
        have HY5 := hid hy1
        have HY6 := hid hy2
        have HUP := hid up2
        clear hy1 hy2 up1 up2 hU wU wV wX bu0 bu1 bv0 bv1 bx0 bx1 p20 p53 tt
        go_upto_region 14 with fail
        have hsc := block_cells HMD.out
        have s0 := hsc.1 0 _ rfl
        have s1 := hsc.1 1 _ rfl
        have s2 := hsc.1 2 _ rfl
        clear hsc
        go_upto_region 15 with (go_at_call 22; refine (chain_any 2 2 _ [(ku0, ku1), (kv0, kv1), (13830554455654793216, 0), (kx0, kx1)] _ HSD.out).mono ?_; rintro e wd ⟨vh, hs, rfl, hys, hown, hb⟩; have HMC11 := hid (heap_later2 hb HMD.out); have HSC11 := hid (HSD.out.below hb (Nat.le_refl _)); have HB11 := hid (below_next HBC.out hb); rw [HY5.out] at hys ⊢; dsimp only at hys ⊢; (try simp only [Nat.cast_ofNat]); have HHS := hid hys; obtain ⟨avh, cvh, rfl⟩ := (IsSl.of_own hown).form; have HSH := hid (IsSl.of_own hown); clear hys hown; clear hb )
        clear HMD HSD HBC
        clear s0 s1 s2
        have HFH := hid (HY6.out hs HHS.out)
        have HLH := hid (HFH.out.len)
        have HMC12 := hid (heap_later2 ((Below.refl wd.heap.size wd).alloc (Nat.le_refl _) (.cells #[.int .i64 2, .int .i64 2, .slice avh hs.length cvh] 43)) HMC11.out)
        have HSC12 := hid (HSC11.out.below ((Below.refl wd.heap.size wd).alloc (Nat.le_refl _) (.cells #[.int .i64 2, .int .i64 2, .slice avh hs.length cvh] 43)) (Nat.le_refl _))
        have HSH12 := hid (HSH.out.below ((Below.refl wd.heap.size wd).alloc (Nat.le_refl _) (.cells #[.int .i64 2, .int .i64 2, .slice avh hs.length cvh] 43)) (Nat.le_refl _))
        have HB12 := hid (below_next HB11.out ((Below.refl wd.heap.size wd).alloc (Nat.le_refl _) (.cells #[.int .i64 2, .int .i64 2, .slice avh hs.length cvh] 43)))
        have HMH := hid (heap_alloc_new wd (.cells #[.int .i64 2, .int .i64 2, .slice avh hs.length cvh] 43))
        clear HMC11 HSC11 HSH HB11
        generalize wd.alloc (.cells #[.int .i64 2, .int .i64 2, .slice avh hs.length cvh] 43) = we at *
        generalize wd.heap.size = gh at *
        obtain ⟨Y4, hy1, hy2⟩ := ch_four_back HUV.out HFH.out HB20.out.1.1 HB20.out.1.2 HB20.out.2 (by decide)
        have HY7 := hid hy1
        have HY8 := hid hy2
        clear hy1 hy2
        have hsc := block_cells HMH.out
        have s0 := hsc.1 0 _ rfl
        have s1 := hsc.1 1 _ rfl
        have s2 := hsc.1 2 _ rfl
        clear hsc
        go_upto_region 16 with (go_at_call 23; refine (fromchain_any 2 2 _ hs _ HSH12.out).mono ?_; rintro e wf ⟨va, zs, rfl, hys, hown, hb⟩; have HMC13 := hid (heap_later2 hb HMC12.out); have HSC13 := hid (HSC12.out.below hb (Nat.le_refl _)); have HSH13 := hid (HSH12.out.below hb (Nat.le_refl _)); have HMH13 := hid (heap_later2 hb HMH.out); have HB13 := hid (below_next HB12.out hb); rw [HY7.out] at hys ⊢; dsimp only at hys ⊢; (try simp only [Nat.cast_ofNat]); have HAS := hid hys; obtain ⟨ava, cva, rfl⟩ := (IsSl.of_own hown).form; have HSA := hid (IsSl.of_own hown); clear hys hown; clear hb )
        clear HMC12 HSC12 HSH12 HMH HB12
        clear s0 s1 s2
        have HEA := hid ((HY8.out zs HAS.out).eq HFC.out)
        have HLA := hid ((HY8.out zs HAS.out).len)
        have HMC14 := hid (heap_later2 ((Below.refl wf.heap.size wf).alloc (Nat.le_refl _) (.cells #[.int .i64 2, .int .i64 2, .slice ava zs.length cva] 43)) HMC13.out)
        have HSC14 := hid (HSC13.out.below ((Below.refl wf.heap.size wf).alloc (Nat.le_refl _) (.cells #[.int .i64 2, .int .i64 2, .slice ava zs.length cva] 43)) (Nat.le_refl _))
        have HSH14 := hid (HSH13.out.below ((Below.refl wf.heap.size wf).alloc (Nat.le_refl _) (.cells #[.int .i64 2, .int .i64 2, .slice ava zs.length cva] 43)) (Nat.le_refl _))
        have HMH14 := hid (heap_later2 ((Below.refl wf.heap.size wf).alloc (Nat.le_refl _) (.cells #[.int .i64 2, .int .i64 2, .slice ava zs.length cva] 43)) HMH13.out)
        have HSA14 := hid (HSA.out.below ((Below.refl wf.heap.size wf).alloc (Nat.le_refl _) (.cells #[.int .i64 2, .int .i64 2, .slice ava zs.length cva] 43)) (Nat.le_refl _))
        have HB14 := hid (below_next HB13.out ((Below.refl wf.heap.size wf).alloc (Nat.le_refl _) (.cells #[.int .i64 2, .int .i64 2, .slice ava zs.length cva] 43)))
        have HMA := hid (heap_alloc_new wf (.cells #[.int .i64 2, .int .i64 2, .slice ava zs.length cva] 43))
        clear HMC13 HSC13 HSH13 HMH13 HSA HB13
        generalize wf.alloc (.cells #[.int .i64 2, .int .i64 2, .slice ava zs.length cva] 43) = wg at *
        generalize wf.heap.size = gaa at *
        have hsc := block_cells HMA.out
        have s0 := hsc.1 0 _ rfl
        have s1 := hsc.1 1 _ rfl
        have s2 := hsc.1 2 _ rfl
        clear hsc
        have hsc := block_cells HMC14.out
        have r0 := hsc.1 0 _ rfl
        have r1 := hsc.1 1 _ rfl
        have r2 := hsc.1 2 _ rfl
        clear hsc
        go_upto_region 18 with (go_at_call 20; refine (equalmatrix_any 2 _ _ zs [(ku0, ku1), (kv0, kv1), (13830554455654793216, 0), (kx0, kx1)] _ HSA14.out HSC14.out (by have := HLA.out; omega) HEA.out).mono ?_; rintro e wh ⟨rfl, hb⟩; have HMC15 := hid (heap_later2 hb HMC14.out); have HSC15 := hid (HSC14.out.below hb (Nat.le_refl _)); have HB15 := hid (below_next HB14.out hb); clear hb )
        clear s0 s1 s2 r0 r1 r2
        clear HMC14 HSC14 HB14 HSA14 HSH14 HMA HMH14
        go_upto_region 19 with (go_at_call 17; refine (pair_any (4607182418800017408, 0) (0, 0) (0, 0) (4607182418800017408, 0) _).mono ?_; rintro e wi ⟨qi, rfl, hq, hrow, hb⟩; have HMC16 := hid (heap_later2 hb HMC15.out); have HSC16 := hid (HSC15.out.below hb (Nat.le_refl _)); have HB16 := hid (below_next HB15.out hb); have HSI := hid (isl_of4 hrow); clear hq hrow; clear hb )
        clear HMC15 HSC15 HB15
        have HMC17 := hid (heap_later2 ((Below.refl wi.heap.size wi).alloc (Nat.le_refl _) (.cells #[.int .i64 2, .int .i64 2, .slice (some ⟨qi, 0, none⟩) 4 4] 43)) HMC16.out)
        have HSC17 := hid (HSC16.out.below ((Below.refl wi.heap.size wi).alloc (Nat.le_refl _) (.cells #[.int .i64 2, .int .i64 2, .slice (some ⟨qi, 0, none⟩) 4 4] 43)) (Nat.le_refl _))
        have HSI17 := hid (HSI.out.below ((Below.refl wi.heap.size wi).alloc (Nat.le_refl _) (.cells #[.int .i64 2, .int .i64 2, .slice (some ⟨qi, 0, none⟩) 4 4] 43)) (Nat.le_refl _))
        have HB17 := hid (below_next HB16.out ((Below.refl wi.heap.size wi).alloc (Nat.le_refl _) (.cells #[.int .i64 2, .int .i64 2, .slice (some ⟨qi, 0, none⟩) 4 4] 43)))
        have HMI := hid (heap_alloc_new wi (.cells #[.int .i64 2, .int .i64 2, .slice (some ⟨qi, 0, none⟩) 4 4] 43))
        clear HMC16 HSC16 HSI HB16
        generalize wi.alloc (.cells #[.int .i64 2, .int .i64 2, .slice (some ⟨qi, 0, none⟩) 4 4] 43) = wj at *
        generalize wi.heap.size = gi at *
        have hU := HUV.out
        have HID := hid (show Four U [(4607182418800017408, 0), (0, 0), (0, 0), (4607182418800017408, 0)] 1 0 0 0 0 0 1 0 from ⟨_, _, _, _, rfl, ⟨isW1 hU, isW0 U⟩, ⟨isW0 U, isW0 U⟩, ⟨isW0 U, isW0 U⟩, ⟨isW1 hU, isW0 U⟩⟩)
        obtain ⟨i1, i2, i3, i4⟩ := idle_four hU (O := (4607182418800017408, 0)) (Z := (0, 0)) ⟨isW1 hU, isW0 U⟩ ⟨isW0 U, isW0 U⟩ HWC.out.1 HWC.out.2.1 HO.out HWC.out.2.2 ⟨HUP.out _ HB20.out.1.1.1, HUP.out _ HB20.out.1.1.2⟩ ⟨HUP.out _ HB20.out.1.2.1, HUP.out _ HB20.out.1.2.2⟩ ⟨by decide, by decide⟩ ⟨HUP.out _ HB20.out.2.1, HUP.out _ HB20.out.2.2⟩
        have HI1 := hid i1
        have HI2 := hid i2
        have HI3 := hid i3
        have HI4 := hid i4
        clear i1 i2 i3 i4 hU
        have hsc := block_cells HMC17.out
        have s0 := hsc.1 0 _ rfl
        have s1 := hsc.1 1 _ rfl
        have s2 := hsc.1 2 _ rfl
        clear hsc
        have hsc := block_cells HMI.out
        have r0 := hsc.1 0 _ rfl
        have r1 := hsc.1 1 _ rfl
        have r2 := hsc.1 2 _ rfl
        clear hsc
        go_upto_region 20 with (go_at_call 24; refine (cascade22_any qc 0 4 qi 0 4 (ku0, ku1) (kv0, kv1) (13830554455654793216, 0) (kx0, kx1) (4607182418800017408, 0) (0, 0) (0, 0) (4607182418800017408, 0) _ HSC17.out HSI17.out HFC.out.tak HID.out.tak HI3.out).mono ?_; rintro e wk ⟨vp, ps, rfl, hys, hown, hb⟩; have HMC18 := hid (heap_later2 hb HMC17.out); have HSC18 := hid (HSC17.out.below hb (Nat.le_refl _)); have HSI18 := hid (HSI17.out.below hb (Nat.le_refl _)); have HMI18 := hid (heap_later2 hb HMI.out); have HB18 := hid (below_next HB17.out hb); have HFP := hid (HI1.out ps hys); obtain ⟨avp, cvp, rfl⟩ := (IsSl.of_own hown).form; have HSP := hid (IsSl.of_own hown); clear hys hown; clear hb )
        clear s0 s1 s2 r0 r1 r2
        clear HMC17 HSC17 HSI17 HMI HB17
        have HMC19 := hid (heap_later2 ((Below.refl wk.heap.size wk).alloc (Nat.le_refl _) (.cells #[.int .i64 2, .int .i64 2, .slice avp ps.length cvp] 43)) HMC18.out)
        have HSC19 := hid (HSC18.out.below ((Below.refl wk.heap.size wk).alloc (Nat.le_refl _) (.cells #[.int .i64 2, .int .i64 2, .slice avp ps.length cvp] 43)) (Nat.le_refl _))
        have HSI19 := hid (HSI18.out.below ((Below.refl wk.heap.size wk).alloc (Nat.le_refl _) (.cells #[.int .i64 2, .int .i64 2, .slice avp ps.length cvp] 43)) (Nat.le_refl _))
        have HMI19 := hid (heap_later2 ((Below.refl wk.heap.size wk).alloc (Nat.le_refl _) (.cells #[.int .i64 2, .int .i64 2, .slice avp ps.length cvp] 43)) HMI18.out)
        have HSP19 := hid (HSP.out.below ((Below.refl wk.heap.size wk).alloc (Nat.le_refl _) (.cells #[.int .i64 2, .int .i64 2, .slice avp ps.length cvp] 43)) (Nat.le_refl _))
        have HB19 := hid (below_next HB18.out ((Below.refl wk.heap.size wk).alloc (Nat.le_refl _) (.cells #[.int .i64 2, .int .i64 2, .slice avp ps.length cvp] 43)))
        have HMP := hid (heap_alloc_new wk (.cells #[.int .i64 2, .int .i64 2, .slice avp ps.length cvp] 43))
        clear HMC18 HSC18 HSI18 HMI18 HSP HB18
        generalize wk.alloc (.cells #[.int .i64 2, .int .i64 2, .slice avp ps.length cvp] 43) = wl at *
        generalize wk.heap.size = gp at *
        have hsc := block_cells HMI19.out
        have s0 := hsc.1 0 _ rfl
        have s1 := hsc.1 1 _ rfl
        have s2 := hsc.1 2 _ rfl
        clear hsc
        have hsc := block_cells HMC19.out
        have r0 := hsc.1 0 _ rfl
        have r1 := hsc.1 1 _ rfl
        have r2 := hsc.1 2 _ rfl
        clear hsc
        go_upto_region 21 with (go_at_call 24; refine (cascade22_any qi 0 4 qc 0 4 (4607182418800017408, 0) (0, 0) (0, 0) (4607182418800017408, 0) (ku0, ku1) (kv0, kv1) (13830554455654793216, 0) (kx0, kx1) _ HSI19.out HSC19.out HID.out.tak HFC.out.tak HI4.out).mono ?_; rintro e wm ⟨vq, qs, rfl, hys, hown, hb⟩; have HMC20 := hid (heap_later2 hb HMC19.out); have HSC20 := hid (HSC19.out.below hb (Nat.le_refl _)); have HSI20 := hid (HSI19.out.below hb (Nat.le_refl _)); have HMI20 := hid (heap_later2 hb HMI19.out); have HSP20 := hid (HSP19.out.below hb (Nat.le_refl _)); have HMP20 := hid (heap_later2 hb HMP.out); have HB20 := hid (below_next HB19.out hb); have HFQ := hid (HI2.out qs hys); obtain ⟨avq, cvq, rfl⟩ := (IsSl.of_own hown).form; have HSQ := hid (IsSl.of_own hown); clear hys hown; clear hb )
        clear s0 s1 s2 r0 r1 r2
        clear HMC19 HSC19 HSI19 HMI19 HSP19 HMP HB19
        have HMC21 := hid (heap_later2 ((Below.refl wm.heap.size wm).alloc (Nat.le_refl _) (.cells #[.int .i64 2, .int .i64 2, .slice avq qs.length cvq] 43)) HMC20.out)
        have HSC21 := hid (HSC20.out.below ((Below.refl wm.heap.size wm).alloc (Nat.le_refl _) (.cells #[.int .i64 2, .int .i64 2, .slice avq qs.length cvq] 43)) (Nat.le_refl _))
        have HSI21 := hid (HSI20.out.below ((Below.refl wm.heap.size wm).alloc (Nat.le_refl _) (.cells #[.int .i64 2, .int .i64 2, .slice avq qs.length cvq] 43)) (Nat.le_refl _))
        have HMI21 := hid (heap_later2 ((Below.refl wm.heap.size wm).alloc (Nat.le_refl _) (.cells #[.int .i64 2, .int .i64 2, .slice avq qs.length cvq] 43)) HMI20.out)
        have HSP21 := hid (HSP20.out.below ((Below.refl wm.heap.size wm).alloc (Nat.le_refl _) (.cells #[.int .i64 2, .int .i64 2, .slice avq qs.length cvq] 43)) (Nat.le_refl _))
        have HMP21 := hid (heap_later2 ((Below.refl wm.heap.size wm).alloc (Nat.le_refl _) (.cells #[.int .i64 2, .int .i64 2, .slice avq qs.length cvq] 43)) HMP20.out)
        have HSQ21 := hid (HSQ.out.below ((Below.refl wm.heap.size wm).alloc (Nat.le_refl _) (.cells #[.int .i64 2, .int .i64 2, .slice avq qs.length cvq] 43)) (Nat.le_refl _))
        have HB21 := hid (below_next HB20.out ((Below.refl wm.heap.size wm).alloc (Nat.le_refl _) (.cells #[.int .i64 2, .int .i64 2, .slice avq qs.length cvq] 43)))
        have HMQ := hid (heap_alloc_new wm (.cells #[.int .i64 2, .int .i64 2, .slice avq qs.length cvq] 43))
        clear HMC20 HSC20 HSI20 HMI20 HSP20 HMP20 HSQ HB20
        generalize wm.alloc (.cells #[.int .i64 2, .int .i64 2, .slice avq qs.length cvq] 43) = wn at *
        generalize wm.heap.size = gq at *
        have HEP := hid (HFP.out.eq HFC.out)
        have HEW := hid (HFQ.out.eq HFC.out)
        have HLP := hid HFP.out.len
        have HLQ := hid HFQ.out.len
        have T1 : True := trivial
        have T2 : True := trivial
        have hsc := block_cells HMP21.out
        have s0 := hsc.1 0 _ rfl
        have s1 := hsc.1 1 _ rfl
        have s2 := hsc.1 2 _ rfl
        clear hsc
        have hsc := block_cells HMC21.out
        have r0 := hsc.1 0 _ rfl
        have r1 := hsc.1 1 _ rfl
        have r2 := hsc.1 2 _ rfl
        clear hsc
        have hsc := block_cells HMQ.out
        have t0 := hsc.1 0 _ rfl
        have t1 := hsc.1 1 _ rfl
        have t2 := hsc.1 2 _ rfl
        clear hsc
        go_wp2_with (first | (clear T1; go_at_call 20; refine (equalmatrix_any 2 _ _ ps [(ku0, ku1), (kv0, kv1), (13830554455654793216, 0), (kx0, kx1)] _ HSP21.out HSC21.out (by have := HLP.out; omega) HEP.out).mono ?_; rintro e wo ⟨rfl, hb⟩; have HMC22 := hid (heap_later2 hb HMC21.out); have HSC22 := hid (HSC21.out.below hb (Nat.le_refl _)); have HSI22 := hid (HSI21.out.below hb (Nat.le_refl _)); have HMI22 := hid (heap_later2 hb HMI21.out); have HSP22 := hid (HSP21.out.below hb (Nat.le_refl _)); have HMP22 := hid (heap_later2 hb HMP21.out); have HSQ22 := hid (HSQ21.out.below hb (Nat.le_refl _)); have HMQ22 := hid (heap_later2 hb HMQ.out); have HB22 := hid (below_next HB21.out hb); have hsc := block_cells HMC22.out; have r0 := hsc.1 0 _ rfl; have r1 := hsc.1 1 _ rfl; have r2 := hsc.1 2 _ rfl; clear hsc; have hsc := block_cells HMQ22.out; have t0 := hsc.1 0 _ rfl; have t1 := hsc.1 1 _ rfl; have t2 := hsc.1 2 _ rfl; clear hsc; clear hb ) | (clear T2; go_at_call 20; refine (equalmatrix_any 2 _ _ qs [(ku0, ku1), (kv0, kv1), (13830554455654793216, 0), (kx0, kx1)] _ HSQ22.out HSC22.out (by have := HLQ.out; omega) HEW.out).mono ?_; rintro e wq ⟨rfl, hb⟩; have HMC23 := hid (heap_later2 hb HMC22.out); have HSC23 := hid (HSC22.out.below hb (Nat.le_refl _)); have HSI23 := hid (HSI22.out.below hb (Nat.le_refl _)); have HMI23 := hid (heap_later2 hb HMI22.out); have HSP23 := hid (HSP22.out.below hb (Nat.le_refl _)); have HMP23 := hid (heap_later2 hb HMP22.out); have HSQ23 := hid (HSQ22.out.below hb (Nat.le_refl _)); have HMQ23 := hid (heap_later2 hb HMQ22.out); have HB23 := hid (below_next HB22.out hb); clear hb ))
        (try simp only [Exit.inBlock, Exit.then])
        (try rw [Exit.noGoto_ret])
        go_ret
        exact ⟨rfl, HB23.out⟩
end Go.Proofs.YtdepiggjneoopaaGreatDoor
