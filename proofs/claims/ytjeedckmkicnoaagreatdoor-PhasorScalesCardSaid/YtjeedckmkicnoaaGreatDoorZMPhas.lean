/- a part of the proof of the last text -/
import Derived.Test.YtjeedckmkicnoaaGreatDoorZMRoots
namespace Go.Proofs.YtjeedckmkicnoaaGreatDoor
set_option linter.all false
set_option maxHeartbeats 4000000
set_option maxRecDepth 100000
section
open Go.RowKit
/-- What is wrong with an omega. -/
def angE (o : Nat) : Int := if ffin (fc o) = true then (if (FloatKind.f64.format.order o 0 == some .gt) = true then 0 else 2) else 5
theorem ang_5 {o : Nat} (h : ffin (fc o) = false) : angE o = 5 := by unfold angE; rw [if_neg (by rw [h]; decide)]
theorem ang_2 {o : Nat} (h : ffin (fc o) = true) (h2 : (FloatKind.f64.format.order o 0 == some .gt) = false) : angE o = 2 := by unfold angE; rw [if_pos h, if_neg (by rw [h2]; decide)]
theorem ang_0 {o : Nat} (h : ffin (fc o) = true) (h2 : (FloatKind.f64.format.order o 0 == some .gt) = true) : angE o = 0 := by unfold angE; rw [if_pos h, if_pos h2]
theorem neq_fin {r x : Nat} {b : Bool} (hr : fc r = fop .sub (fc x) (fc x)) (h : ffin (fc x) = b) : (FloatKind.f64.format.order r 0 != some .eq) = !b := by unfold bne; rw [ffin_of hr, h]
set_option maxHeartbeats 400000 in
theorem pscale_any (x a b : Nat) (w : World) :
    Calls Tryz.prog 132 #[.float .f64 x, .complex .f64 a b] w (Ret (IsC (cscale (fc x) (fc a, fc b))) w) := by
  go_enter Tryz.func132, Tryz.ntmps132
  go_wp2_with (refine wpList_float rfl _ _ _ _ _ rfl rfl _ _ rfl rfl ?_; intro _ _ _)
  go_ret
  exact ⟨_, _, rfl, rfl, _, _, rfl, Prod.ext (by assumption) (by assumption)⟩
end
section
/- Walks of phasors: parts.Scale, turns.Phasor, gridworkref04.Phasor, source.Phasor, gridworkref19.Phasor. -/
open Go.RowKit
/-- A size at an angle. -/
def phs (x : Nat) (k : Int) : Cx := cscale (fc x) (fc (root k).1, fc (root k).2)
set_option maxHeartbeats 400000 in
theorem tphasor_any (x : Nat) (k : Int) (w : World) :
    Calls Tryz.prog 119 #[.float .f64 x, .int .i64 k] w (RetB (IsC (phs x k)) w) := by
  go_enter Tryz.func119, Tryz.ntmps119
  go_wp2_with (first | (go_at_call 133; refine (troot_any _ _).mono ?_; rintro e w' ⟨rfl, rfl⟩) | (go_at_call 132; refine (pscale_any _ _ _ _).mono ?_; rintro e w' ⟨v, n, rfl, rfl, r, i, rfl, hz⟩))
  go_ret
  exact ⟨_, rfl, below_n (Below.refl _ _) _, _, _, rfl, hz⟩
/-- What a source's phasor is, or what is wrong. -/
def srcS (e : El) : Cx × Int :=
  if checkE e = 0 then (if (e.kind == 4 || e.kind == 5) = true then (phs e.val e.ph, 0) else ((fc 0, fc 0), 2)) else ((fc 0, fc 0), checkE e)
theorem src_ways (e : El) : ((e.kind == 4) = true ∧ (e.kind != 4) = false) ∨ ((e.kind == 4) = false ∧ (e.kind != 4) = true ∧ (e.kind == 5) = true ∧ (e.kind != 5) = false) ∨ ((e.kind == 4) = false ∧ (e.kind != 4) = true ∧ (e.kind == 5) = false ∧ (e.kind != 5) = true) := by
  unfold bne
  cases (e.kind == 4) <;> cases (e.kind == 5) <;> simp
theorem src_bad {e : El} (h : ¬ checkE e = 0) : srcS e = ((fc 0, fc 0), checkE e) := by unfold srcS; rw [if_neg h]
theorem src_yes {e : El} (h : checkE e = 0) (h2 : (e.kind == 4 || e.kind == 5) = true) : srcS e = (phs e.val e.ph, 0) := by unfold srcS; rw [if_pos h, if_pos h2]
theorem src_no {e : El} (h : checkE e = 0) (h2 : (e.kind == 4 || e.kind == 5) = false) : srcS e = ((fc 0, fc 0), 2) := by unfold srcS; rw [if_pos h, if_neg (by rw [h2]; decide)]
set_option maxRecDepth 100000 in
set_option maxHeartbeats 800000 in
theorem sphasor_any (x : El) (w : World) (hx : x.Ok) :
    Calls Tryz.prog 95 #[.agg #[.int .u8 x.kind, .string x.name, .string x.a, .string x.b, .string x.c, .string x.d, .float .f64 x.val, .int .i64 x.ph]] w (RetB (IsCE (srcS x)) w) := by
  have HX := hid hx
  have hbx := heap_alloc_new w (.cells #[.int .u8 x.kind, .string x.name, .string x.a, .string x.b, .string x.c, .string x.d, .float .f64 x.val, .int .i64 x.ph] 81)
  have hbw := (Below.refl w.heap.size w).alloc (Nat.le_refl _) (.cells #[.int .u8 x.kind, .string x.name, .string x.a, .string x.b, .string x.c, .string x.d, .float .f64 x.val, .int .i64 x.ph] 81)
  obtain ⟨hbc, fb⟩ := block_cells hbx
  have b0 := hbc 0 _ rfl
  have b1 := hbc 1 _ rfl
  have b2 := hbc 2 _ rfl
  have b3 := hbc 3 _ rfl
  have b4 := hbc 4 _ rfl
  have b5 := hbc 5 _ rfl
  have b6 := hbc 6 _ rfl
  have b7 := hbc 7 _ rfl
  have HBX := hid hbx
  have HBW := hid hbw
  clear hbc fb hbx hbw hx
  go_enter Tryz.func95, Tryz.ntmps95
  go_upto_region 1 with fail
  generalize w.alloc (.cells #[.int .u8 x.kind, .string x.name, .string x.a, .string x.b, .string x.c, .string x.d, .float .f64 x.val, .int .i64 x.ph] 81) = w1 at *
  by_cases hc : checkE x = 0
  · have HC := hid hc
    go_upto_region 2 with (go_at_call 60; refine (vcheck_any x _ HX.out).mono ?_; rintro en w2 ⟨rfl, hb2⟩; rw [HC.out]; have HBX2 := hid (heap_later2 hb2 HBX.out); have HB2 := hid (below_next HBW.out hb2); clear hb2)
    obtain ⟨hbc, fb⟩ := block_cells HBX2.out
    clear b0 b1 b2 b3 b4 b5 b6 b7
    have b0 := hbc 0 _ rfl
    have b6 := hbc 6 _ rfl
    have b7 := hbc 7 _ rfl
    clear hbc fb
    rcases src_ways x with ⟨h4, h4'⟩ | ⟨h4, h4', h5, h5'⟩ | ⟨h4, h4', h5, h5'⟩
    · go_wp2_with (go_at_call 119; refine (tphasor_any _ _ _).mono ?_; rintro en w3 ⟨v3, rfl, hb3, r, i, rfl, hz⟩)
      refine bodyPost_ret (v := .tuple #[.complex .f64 r i, .int .i64 0]) ?_ rfl ⟨_, rfl, below_next HB2.out hb3, _, _, _, rfl, by rw [src_yes HC.out (by rw [h4]; rfl), hz]⟩
      rw [results_tmp2 rfl]; rfl
    · go_wp2_with (go_at_call 119; refine (tphasor_any _ _ _).mono ?_; rintro en w3 ⟨v3, rfl, hb3, r, i, rfl, hz⟩)
      refine bodyPost_ret (v := .tuple #[.complex .f64 r i, .int .i64 0]) ?_ rfl ⟨_, rfl, below_next HB2.out hb3, _, _, _, rfl, by rw [src_yes HC.out (by rw [h4, h5]; rfl), hz]⟩
      rw [results_tmp2 rfl]; rfl
    · go_wp2_with fail
      (try rw [Exit.noGoto_ret])
      refine bodyPost_ret (v := .tuple #[.complex .f64 0 0, .int .i64 2]) ?_ rfl ⟨_, rfl, HB2.out, _, _, _, rfl, by rw [src_no HC.out (by rw [h4, h5]; rfl)]⟩
      rw [results_tmp2 rfl]; rfl
  · have HC := hid hc
    have hcq : (checkE x == 0) = false := by simpa using hc
    have hcn : (checkE x != 0) = true := by simpa using hc
    go_wp2_with (go_at_call 60; refine (vcheck_any x _ HX.out).mono ?_; rintro en w2 ⟨rfl, hb2⟩; have HB2 := hid (below_next HBW.out hb2); clear hb2)
    (try rw [Exit.noGoto_ret])
    refine bodyPost_ret (v := .tuple #[.complex .f64 0 0, .int .i64 (checkE x)]) ?_ rfl ⟨_, rfl, HB2.out, _, _, _, rfl, by rw [src_bad HC.out]⟩
    rw [results_tmp2 rfl]; rfl
end
end Go.Proofs.YtjeedckmkicnoaaGreatDoor
