/- Walks of gridworkkit over lists of reals. -/
import Derived.Test.YtlgfpfjfoajjbaaParts2
import Derived.Test.YtlgfpfjfoajjbaaRow
namespace Go.Proofs.Ytlgfpfjfoajjbaa
open Go.RowKit

theorem infoF : (Try.prog.info? 63).map (fun i => (i.zero, i.size, i.bytes)) = some (some (.float .f64 0), 1, 8) := by kernel_rfl
theorem infoU : (Try.prog.info? 36).map (fun i => (i.zero, i.size, i.bytes)) = some (some (.int .u64 0), 1, 8) := by kernel_rfl

set_option maxHeartbeats 400000 in
theorem floats_any (v : Value) (l : List Nat) (w : World) (hv : InSl w 1 v l.length (l.map fun b : Nat => Value.int .u64 b)) (hl : l.length * 8 ≤ 140737488351232) :
    Calls Try.prog 8 #[v] w (RetRow 63 1 l.length (fun xs => xs = l.map (.float .f64)) w) := by
  obtain ⟨a, c, rfl⟩ := hv.form
  obtain ⟨i0, hi, hz0, hz1, hz2⟩ := info_parts infoF
  obtain ⟨iu, hiu, hu0, hu1, hu2⟩ := info_parts infoU
  have b2 := frombits_law
  go_enter Try.func8, Try.ntmps8
  go_wp2
  go_loopw [3, 4] (fun out i wr => ∃ k : Nat, k ≤ l.length ∧ i = .int .i64 k ∧ wr.ownsRow w.heap.size 63 1 out k ((l.take k).map (.float .f64)) ∧ Below w.heap.size w wr) (fun _ i _ => l.length - (intOf i).toNat)
  case atStart => exact ⟨0, Nat.zero_le _, rfl, World.ownsRow_nil _ _ _ _, Below.refl _ _⟩
  case round =>
    obtain ⟨k, hk, rfl, hown, hb⟩ := hrel
    by_cases hlt : k < l.length
    · obtain ⟨g, o, x, hidx, hg, hcell, hx⟩ := InSl.at1 Try.underlying26 hiu hu1 (hv.below hb (Nat.le_refl _)) hlt
      obtain ⟨b, hb0, rfl⟩ := map_getElem? hx
      clear hx
      have HB := hid hb0
      clear hb0
      have hsz := hb.size
      go_wp2_with (refine wpList_push rfl rfl _ rfl _ _ _ rfl rfl w.heap.size 63 1 8 i0 (.float .f64 0) Try.underlying24 hi hz0 hz1 hz2 rfl (by decide) (by decide) _ k _ hown hsz _ rfl rfl (by simp [go_sem, Value.oneCell']) rfl rfl (by simp [maxLen]; omega) (by omega) ?_; intro g1 cap1 w1 hown1 hgr1 hat1 hlt1)
      go_roundw
      case rel =>
        refine ⟨k + 1, by omega, by go_num, ?_, below_grown hb hgr1 fun _ e => (hown.lt _ e).1⟩
        rw [List.take_succ_eq_append_getElem hlt, List.map_append]
        have : l[k] = b := by have := HB.out; simpa [hlt] using this
        rw [this]; exact hown1
      case measure => simp [intOf]; omega
    · go_wp2
      go_ret
      obtain rfl : k = l.length := by omega
      exact ⟨_, _, rfl, hown, by simp, hb⟩
/-- The constant 7.5 of the marks. -/
def c75 : Nat := 4620130267728707584
theorem c75_number : FloatKind.f64.format.read c75 = .number false 8444249301319680 (-50) := by decide +kernel
/-- What is not a NaN less 7.5 is not one. -/
theorem sub_75 {x : Nat} (h : fnan x = false) : ∃ r, floatBits .sub .f64 x c75 = some r := by
  unfold floatBits
  simp only [Ieee.Format.sub, c75_number]
  unfold fnan at h
  cases hx : FloatKind.f64.format.read x with
  | nan s t => rw [hx] at h; cases h
  | infinity s => exact ⟨_, rfl⟩
  | number s m e => exact ⟨_, rfl⟩
theorem fnan_ofInt (n : Int) : fnan (floatOfInt .f64 n) = false := write_not_nan (.number (n < 0) n.natAbs 0) rfl
/-- The mark of a place of a list of reals. -/
def markReals (k i : Nat) : Nat := (floatBits .sub .f64 (floatOfInt .f64 (-1000 * (k : Int) - (i : Int))) c75).getD 0
theorem markReals_some (k i : Nat) : floatBits .sub .f64 (floatOfInt .f64 (-1000 * (k : Int) - (i : Int))) c75 = some (markReals k i) := by
  obtain ⟨r, h⟩ := sub_75 (fnan_ofInt (-1000 * (k : Int) - (i : Int)))
  rw [markReals, h]; rfl
set_option maxRecDepth 100000 in
set_option maxHeartbeats 400000 in
theorem markreals_any (k i : Nat) (w : World) (hk : k ≤ 1000) (hi : i ≤ 140737488355335) :
    Calls Try.prog 43 #[.int .i64 k, .int .i64 i] w fun e w' => e = .returned (.float .f64 (markReals k i)) ∧ w = w' := by
  have hk1 : (k : Int) ≤ 1000 := by omega
  have hi1 : (i : Int) ≤ 140737488355335 := by omega
  have hm : ∀ w, (binOp .sub 63 (.float .f64 (floatOfInt .f64 (-1000 * (k : Int) - (i : Int)))) (.float .f64 4620130267728707584)).run Try.prog w = .ok (.float .f64 (markReals k i)) w := fun w => run_float_arith w .sub _ .f64 _ _ _ (markReals_some k i)
  go_enter Try.func43, Try.ntmps43
  go_wp2
  go_ret
  exact ⟨rfl, rfl⟩

/-- The marks of a list. -/
def marksReals (k n : Nat) : List Nat := (List.range n).map (markReals k)
theorem marksReals_len (k n : Nat) : (marksReals k n).length = n := by simp [marksReals]
theorem marksReals_succ (k n : Nat) : marksReals k (n + 1) = marksReals k n ++ [markReals k n] := range_succ_map _ _
theorem marksReals_get (k n i : Nat) (h : i < n) : (marksReals k n)[i]? = some (markReals k i) := by simp [marksReals, h]

set_option maxRecDepth 100000 in
set_option maxHeartbeats 400000 in
theorem copyreals_any (v : Value) (l : List Nat) (w : World) (hv : IsSl w 1 v l.length (l.map (Value.float .f64))) (hl : l.length * 8 ≤ 140737488355328) :
    Calls Try.prog 42 #[v] w (RetRow 63 1 l.length (fun xs => xs = l.map (Value.float .f64)) w) := by
  obtain ⟨a, c, rfl⟩ := hv.form
  obtain ⟨i0, hi, hz0, hz1, hz2⟩ := info_parts infoF
  go_enter Try.func42, Try.ntmps42
  go_wp2_with (refine wpList_appendAll rfl _ _ _ rfl w.heap.size 63 1 8 i0 (.float .f64 0) Try.underlying24 hi hz0 hz1 hz2 rfl (by decide) _ 0 [] (World.ownsRow_nil _ _ _ _) (Nat.le_refl _) _ _ _ hv rfl rfl (by intro u hu; obtain ⟨z, _, rfl⟩ := List.mem_map.1 hu; rfl) (by simp [maxLen]; omega) (by omega) ?_; intro v1 w1 hown1 hgr1 hat1)
  go_ret
  refine ⟨_, _, rfl, ?_, rfl, (Below.refl _ _).grown hgr1 (Nat.le_refl _) (by intro k e; cases e)⟩
  simpa using hown1

set_option maxRecDepth 100000 in
set_option maxHeartbeats 400000 in
theorem lentreals_any (v : Value) (l : List Nat) (w : World) (hv : IsSl w 1 v l.length (l.map (Value.float .f64))) (hl : l.length * 8 ≤ 140737488351232) :
    Calls Try.prog 9 #[v] w (RetRow 63 1 (l.length + 6) (fun xs => xs = (l ++ marksReals 7 6).map (Value.float .f64)) w) := by
  obtain ⟨a, c, rfl⟩ := hv.form
  obtain ⟨i0, hi, hz0, hz1, hz2⟩ := info_parts infoF
  go_enter Try.func9, Try.ntmps9
  go_wp2_with (go_at_call 42; refine (copyreals_any _ l _ hv (by omega)).mono ?_; rintro e w1 ⟨v1, xs, rfl, hown1, rfl, hb1⟩)
  go_loopw [3, 4] (fun out i wr => ∃ k : Nat, k ≤ 6 ∧ i = .int .i64 k ∧ wr.ownsRow w.heap.size 63 1 out (l.length + k) ((l ++ marksReals 7 k).map (Value.float .f64)) ∧ Below w.heap.size w wr) (fun _ i _ => 6 - (intOf i).toNat)
  case atStart => exact ⟨0, by omega, rfl, by simpa [marksReals] using hown1, hb1⟩
  case round =>
    obtain ⟨k, hk, rfl, hown, hb⟩ := hrel
    by_cases hlt : k < 6
    · have hsz := hb.size
      go_wp2_with (first | (go_at_call 43; refine (markreals_any (7) (k) _ (by omega) (by omega)).mono ?_; rintro e w' ⟨rfl, rfl⟩) | (refine wpList_push rfl rfl _ rfl _ _ _ rfl rfl w.heap.size 63 1 8 i0 (.float .f64 0) Try.underlying24 hi hz0 hz1 hz2 rfl (by decide) (by decide) _ (l.length + k) _ hown hsz _ rfl rfl (by simp [go_sem, Value.oneCell']) rfl rfl (by simp [maxLen]; omega) (by omega) ?_; intro g1 cap1 w1 hown1 hgr1 hat1 hlt1))
      go_roundw
      case rel =>
        refine ⟨k + 1, by omega, by go_num, ?_, below_grown hb hgr1 fun _ e => (hown.lt _ e).1⟩
        rw [marksReals_succ, ← List.append_assoc, List.map_append]
        exact hown1
      case measure => simp [intOf]; omega
    · go_wp2
      go_ret
      obtain rfl : k = 6 := by omega
      exact ⟨_, _, rfl, hown, rfl, hb⟩

set_option maxRecDepth 100000 in
set_option maxHeartbeats 400000 in
theorem samereals_any (v u : Value) (l m : List Nat) (w : World) (hv : IsSl w 1 v l.length (l.map (Value.float .f64))) (hu : IsSl w 1 u m.length (m.map (Value.float .f64)))
    (hl : l.length ≤ 140737488355328) (hm : m.length ≤ 140737488355328) :
    Calls Try.prog 13 #[v, u] w (Ret (fun r => r = .bool (l.map fc == m.map fc)) w) := by
  obtain ⟨a, c, rfl⟩ := hv.form
  obtain ⟨a2, c2, rfl⟩ := hu.form
  obtain ⟨i0, hi, hz0, hz1, hz2⟩ := info_parts infoF
  by_cases hlen : l.length = m.length
  · have hlB : ((l.length : Int) != (m.length : Int)) = false := by simp [hlen]
    have HL := hid hlen
    clear hlen
    go_enter Try.func13, Try.ntmps13
    go_wp2
    go_loopw [5] (fun i wr => ∃ (k n : Nat), k ≤ l.length ∧ i = .int .i64 k ∧ wr = w.drewN n ∧ (l.take k).map fc = (m.take k).map fc) (fun i _ => l.length - (intOf i).toNat)
    case atStart => exact ⟨0, 0, by omega, rfl, rfl, rfl⟩
    case round =>
      obtain ⟨k, n, hk, rfl, hw, heq⟩ := hrel
      have hv1 : IsSl wr 1 (.slice a l.length c) l.length (l.map (Value.float .f64)) := by rw [hw]; exact hv
      have hu1 : IsSl wr 1 (.slice a2 m.length c2) m.length (m.map (Value.float .f64)) := by rw [hw]; exact hu
      have HW := hid hw
      have HEQ := hid heq
      clear heq hw
      by_cases hlt : k < l.length
      · obtain ⟨g, o, x, hidx, hg, hcell, hx⟩ := IsSl.at1 Try.underlying24 hi hz1 hv1 hlt
        obtain ⟨g2, o2, x2, hidx2, hg2, hcell2, hx2⟩ := IsSl.at1 Try.underlying24 hi hz1 hu1 (show k < m.length by have := HL.out; omega)
        obtain ⟨b, hb0, rfl⟩ := map_getElem? hx
        obtain ⟨b2, hb2, rfl⟩ := map_getElem? hx2
        clear hx hx2
        have HB1 := hid hb0
        have HB2 := hid hb2
        clear hb0 hb2
        go_wp2_with fail
        go_quiet ((go_at_call 29; exact Calls.quiet_same (samereal_any _ _ _)))
        go_wp2
        · go_ret
          rename_i t
          exact ⟨_, nq + n, rfl, by rw [HW.out]; simp [World.drewN_drewN, Nat.add_comm], congrArg Value.bool (sameL_no (key := fc) HB1.out HB2.out t).symm⟩
        · rename_i t
          go_roundw
          case rel => exact ⟨k + 1, nq + n, by omega, by go_num, by rw [HW.out]; simp [World.drewN_drewN, Nat.add_comm], sameL_step HEQ.out HB1.out HB2.out t⟩
          case measure => simp [intOf]; omega
      · go_wp2
        go_ret
        exact ⟨_, n, rfl, HW.out, congrArg Value.bool (sameL_yes HEQ.out (by omega) HL.out).symm⟩
  · have hlB : ((l.length : Int) != (m.length : Int)) = true := by rw [bne_iff_ne]; omega
    have HL := hid hlen
    clear hlen
    go_enter Try.func13, Try.ntmps13
    go_wp2
    go_ret
    exact ⟨_, 0, rfl, rfl, congrArg Value.bool (sameL_len HL.out).symm⟩

set_option maxRecDepth 100000 in
set_option maxHeartbeats 400000 in
theorem keptreals_any (v u : Value) (l m : List Nat) (w : World) (hv : IsSl w 1 v l.length (l.map (Value.float .f64))) (hu : IsSl w 1 u m.length (m.map (Value.float .f64)))
    (hl : l.length ≤ 140737488355328) (hm : m.length * 8 ≤ 140737488351232) (hlm : l.map fc = (m ++ marksReals 7 6).map fc) :
    Calls Try.prog 12 #[v, u] w (RetB (fun r => r = .bool true) w) := by
  go_enter Try.func12, Try.ntmps12
  go_wp2_with (go_at_call 9; refine (lentreals_any _ m _ hu (by omega)).mono ?_; rintro e w1 ⟨v1, xs, rfl, hown1, rfl, hb1⟩)
  have hsl := IsSl.of_own hown1
  have hl6 : (m ++ marksReals 7 6).length = m.length + 6 := by rw [List.length_append, marksReals_len]
  rw [← hl6] at hsl
  have HL6 := hid hl6
  have HL := hid hlm
  clear hlm hl6
  go_wp2_with (go_at_call 13; refine (samereals_any _ _ l (m ++ marksReals 7 6) _ (hv.below hb1 (Nat.le_refl _)) hsl (by omega) (by rw [HL6.out]; omega)).mono ?_; rintro e w2 ⟨v2, n2, rfl, rfl, rfl⟩)
  go_ret
  refine ⟨_, rfl, below_n hb1 _, ?_⟩
  refine congrArg Value.bool ?_
  rw [HL.out]; simp

/-- What was handed in is written over. -/
def OverReals (B n : Nat) (v : Value) (w : World) (en : Ending) (w' : World) : Prop := en = .returned (.tuple #[]) ∧ w'.ownsRow B 63 1 v n ((marksReals 9 n).map (Value.float .f64)) ∧ w.grownBy w' v.ownBlock
set_option maxRecDepth 100000 in
set_option maxHeartbeats 400000 in
theorem overreals_any (B : Nat) (v : Value) (n : Nat) (l : List Nat) (w : World) (hv : w.ownsRow B 63 1 v n (l.map (Value.float .f64))) (hl : n ≤ 140737488355328) :
    Calls Try.prog 14 #[v] w (OverReals B n v w) := by
  obtain ⟨a, c, rfl⟩ := (IsSl.of_own hv).form
  obtain ⟨i0, hi, hz0, hz1, hz2⟩ := info_parts infoF
  have hll : l.length = n := by have := hv.1; simpa using this
  have HLL := hid hll
  clear hll
  go_enter Try.func14, Try.ntmps14
  go_wp2
  go_loopw [2] (fun i wr => ∃ k : Nat, k ≤ n ∧ i = .int .i64 k ∧ wr.ownsRow B 63 1 (.slice a n c) n ((marksReals 9 k).map (Value.float .f64) ++ (l.drop k).map (Value.float .f64)) ∧ w.grownBy wr (Value.slice a n c).ownBlock) (fun i _ => n - (intOf i).toNat)
  case atStart => exact ⟨0, by omega, rfl, by simpa [marksReals] using hv, World.grownBy.refl _ _⟩
  case round =>
    obtain ⟨k, hk, rfl, hown, hgr⟩ := hrel
    by_cases hlt : k < n
    · obtain ⟨g, x, hidx, hB, hg, hcell, hx, hfr, hob, hst⟩ := own_at1 Try.underlying24 hi hz1 hown hlt
      have HX := hid hx
      have HO := hid hob
      have HS := hid hst
      clear hx hob hst
      go_wp2_with (first | (go_at_call 43; refine (markreals_any (9) (k) _ (by omega) (by omega)).mono ?_; rintro e w' ⟨rfl, rfl⟩))
      go_roundw
      case rel =>
        have hs := HS.out wr hown (Value.float .f64 (markReals 9 k))
        refine ⟨k + 1, by omega, by go_num, ?_, ?_⟩
        · rw [marksReals_succ, ← set_at (Value.float .f64) (marksReals 9 k) l k _ (marksReals_len _ _) (by have := HLL.out; omega)]; exact hs.1
        · have h2 := hs.2
          rw [← HO.out] at h2
          exact grown_trans hgr h2
      case measure => simp [intOf]; omega
    · go_wp2
      go_end0
      obtain rfl : k = n := by omega
      refine ⟨rfl, ?_, hgr⟩
      rw [List.drop_of_length_le (by have := HLL.out; omega)] at hown
      simpa using hown

end Go.Proofs.Ytlgfpfjfoajjbaa

