/- a part of the proof of the last text -/
import Derived.Test.YtjeedckmkicnoaaGreatDoorZReals2
namespace Go.Proofs.YtjeedckmkicnoaaGreatDoor
set_option linter.all false
set_option maxHeartbeats 4000000
set_option maxRecDepth 100000
open Go.RowKit
/-- A complex number's value; its bits up to those of a NaN. -/
abbrev mkC (z : Cx) : Value := .complex .f64 z.1 z.2
def ck (z : Cx) : Cx := (fc z.1, fc z.2)
theorem mkC_cells (z : Cx) : (mkC z).cells = #[mkC z] := rfl
theorem mkC_mem {z : Cx} {u : Value} (h : u ∈ (mkC z).cells.toList) : u.oneCell' = true := by rw [mkC_cells] at h; simp at h; subst h; rfl
theorem infoC : (Tryz.prog.info? 54).map (fun i => (i.zero, i.size, i.bytes)) = some (some (.complex .f64 0 0), 1, 16) := by kernel_rfl
theorem beq_pair (x y : Cx) : (ck x == ck y) = (fc x.1 == fc y.1 && fc x.2 == fc y.2) := rfl
theorem samenumber_any (x y : Cx) (w : World) :
    Calls Tryz.prog 25 #[mkC x, mkC y] w fun e w' => e = .returned (.bool (ck x == ck y)) ∧ w = w' := by
  rw [beq_pair]
  exact samenum_any x.1 x.2 y.1 y.2 w
/-- A list of numbers by their bits: where each lies. -/
theorem infoZ : (Tryz.prog.info? 94).map (fun i => (i.zero, i.size, i.bytes)) = some (some (.agg #[.int .u64 0, .int .u64 0]), 2, 16) := by kernel_rfl
/-- The mark of a place of a list of numbers. -/
def markNumbers (k i : Nat) : Cx := (markReals k i, floatOfInt .f64 (k : Int))
set_option maxRecDepth 100000 in
set_option maxHeartbeats 400000 in
theorem marknumbers_any (k i : Nat) (w : World) (hk : k ≤ 1000) (hi : i ≤ 140737488355335) :
    Calls Tryz.prog 73 #[.int .i64 k, .int .i64 i] w fun e w' => e = .returned (mkC (markNumbers k i)) ∧ w = w' := by
  have hk1 : (k : Int) ≤ 1000 := by omega
  have hi1 : (i : Int) ≤ 140737488355335 := by omega
  have hm : ∀ w, (binOp .sub 29 (.float .f64 (floatOfInt .f64 (-1000 * (k : Int) - (i : Int)))) (.float .f64 4620130267728707584)).run Tryz.prog w = .ok (.float .f64 (markReals k i)) w := fun w => run_float_arith w .sub _ .f64 _ _ _ (markReals_some k i)
  go_enter Tryz.func73, Tryz.ntmps73
  go_wp2
  go_ret
  exact ⟨rfl, rfl⟩
/-- The marks of a list. -/
def marksNumbers (k n : Nat) : List Cx := (List.range n).map (markNumbers k)
theorem marksNumbers_len (k n : Nat) : (marksNumbers k n).length = n := by simp [marksNumbers]
theorem marksNumbers_succ (k n : Nat) : marksNumbers k (n + 1) = marksNumbers k n ++ [markNumbers k n] := range_succ_map _ _
theorem marksNumbers_get (k n i : Nat) (h : i < n) : (marksNumbers k n)[i]? = some (markNumbers k i) := by simp [marksNumbers, h]
set_option maxRecDepth 100000 in
set_option maxHeartbeats 400000 in
theorem copynumbers_any (v : Value) (l : List Cx) (w : World) (hv : IsSl w 1 v l.length (l.map (mkC))) (hl : l.length * 16 ≤ 140737488355328) :
    Calls Tryz.prog 72 #[v] w (RetRow 54 1 l.length (fun xs => xs = l.map (mkC)) w) := by
  obtain ⟨a, c, rfl⟩ := hv.form
  obtain ⟨i0, hi, hz0, hz1, hz2⟩ := info_parts infoC
  go_enter Tryz.func72, Tryz.ntmps72
  go_wp2_with (refine wpList_appendAll rfl _ _ _ rfl w.heap.size 54 1 16 i0 (.complex .f64 0 0) Tryz.underlying47 hi hz0 hz1 hz2 rfl (by decide) _ 0 [] (World.ownsRow_nil _ _ _ _) (Nat.le_refl _) _ _ _ hv rfl rfl (by intro u hu; obtain ⟨z, _, rfl⟩ := List.mem_map.1 hu; rfl) (by simp [maxLen]; omega) (by omega) ?_; intro v1 w1 hown1 hgr1 hat1)
  go_ret
  refine ⟨_, _, rfl, ?_, rfl, (Below.refl _ _).grown hgr1 (Nat.le_refl _) (by intro k e; cases e)⟩
  simpa using hown1
set_option maxRecDepth 100000 in
set_option maxHeartbeats 400000 in
theorem lentnumbers_any (v : Value) (l : List Cx) (w : World) (hv : IsSl w 1 v l.length (l.map (mkC))) (hl : l.length * 16 ≤ 140737488351232) :
    Calls Tryz.prog 46 #[v] w (RetRow 54 1 (l.length + 6) (fun xs => xs = (l ++ marksNumbers 7 6).map (mkC)) w) := by
  obtain ⟨a, c, rfl⟩ := hv.form
  obtain ⟨i0, hi, hz0, hz1, hz2⟩ := info_parts infoC
  go_enter Tryz.func46, Tryz.ntmps46
  go_wp2_with (go_at_call 72; refine (copynumbers_any _ l _ hv (by omega)).mono ?_; rintro e w1 ⟨v1, xs, rfl, hown1, rfl, hb1⟩)
  go_loopw [3, 4] (fun out i wr => ∃ k : Nat, k ≤ 6 ∧ i = .int .i64 k ∧ wr.ownsRow w.heap.size 54 1 out (l.length + k) ((l ++ marksNumbers 7 k).map (mkC)) ∧ Below w.heap.size w wr) (fun _ i _ => 6 - (intOf i).toNat)
  case atStart => exact ⟨0, by omega, rfl, by simpa [marksNumbers] using hown1, hb1⟩
  case round =>
    obtain ⟨k, hk, rfl, hown, hb⟩ := hrel
    by_cases hlt : k < 6
    · have hsz := hb.size
      go_wp2_with (first | (go_at_call 73; refine (marknumbers_any (7) (k) _ (by omega) (by omega)).mono ?_; rintro e w' ⟨rfl, rfl⟩) | (refine wpList_push rfl rfl _ rfl _ _ _ rfl rfl w.heap.size 54 1 16 i0 (.complex .f64 0 0) Tryz.underlying47 hi hz0 hz1 hz2 rfl (by decide) (by decide) _ (l.length + k) _ hown hsz _ rfl rfl (by intro u hu; exact mkC_mem hu) rfl rfl (by simp [maxLen]; omega) (by omega) ?_; intro g1 cap1 w1 hown1 hgr1 hat1 hlt1))
      go_roundw
      case rel =>
        refine ⟨k + 1, by omega, by go_num, ?_, below_grown hb hgr1 fun _ e => (hown.lt _ e).1⟩
        rw [marksNumbers_succ, ← List.append_assoc, List.map_append]
        exact hown1
      case measure => simp [intOf]; omega
    · go_wp2
      go_ret
      obtain rfl : k = 6 := by omega
      exact ⟨_, _, rfl, hown, rfl, hb⟩
set_option maxRecDepth 100000 in
set_option maxHeartbeats 400000 in
theorem samenumbers_any (v u : Value) (l m : List Cx) (w : World) (hv : IsSl w 1 v l.length (l.map (mkC))) (hu : IsSl w 1 u m.length (m.map (mkC)))
    (hl : l.length ≤ 140737488355328) (_ : m.length ≤ 140737488355328) :
    Calls Tryz.prog 78 #[v, u] w (Ret (fun r => r = .bool (l.map ck == m.map ck)) w) := by
  obtain ⟨a, c, rfl⟩ := hv.form
  obtain ⟨a2, c2, rfl⟩ := hu.form
  obtain ⟨i0, hi, hz0, hz1, hz2⟩ := info_parts infoC
  by_cases hlen : l.length = m.length
  · have hlB : ((l.length : Int) != (m.length : Int)) = false := by simp [hlen]
    have HL := hid hlen
    clear hlen
    go_enter Tryz.func78, Tryz.ntmps78
    go_wp2
    go_loopw [5] (fun i wr => ∃ (k n : Nat), k ≤ l.length ∧ i = .int .i64 k ∧ wr = w.drewN n ∧ (l.take k).map ck = (m.take k).map ck) (fun i _ => l.length - (intOf i).toNat)
    case atStart => exact ⟨0, 0, by omega, rfl, rfl, rfl⟩
    case round =>
      obtain ⟨k, n, hk, rfl, hw, heq⟩ := hrel
      have hv1 : IsSl wr 1 (.slice a l.length c) l.length (l.map (mkC)) := by rw [hw]; exact hv
      have hu1 : IsSl wr 1 (.slice a2 m.length c2) m.length (m.map (mkC)) := by rw [hw]; exact hu
      have HW := hid hw
      have HEQ := hid heq
      clear heq hw
      by_cases hlt : k < l.length
      · obtain ⟨g, o, x, hidx, hg, hcell, hx⟩ := IsSl.at1 Tryz.underlying47 hi hz1 hv1 hlt
        obtain ⟨g2, o2, x2, hidx2, hg2, hcell2, hx2⟩ := IsSl.at1 Tryz.underlying47 hi hz1 hu1 (show k < m.length by have := HL.out; omega)
        obtain ⟨b, hb0, rfl⟩ := map_getElem? hx
        obtain ⟨b2, hb2, rfl⟩ := map_getElem? hx2
        clear hx hx2
        have HB1 := hid hb0
        have HB2 := hid hb2
        clear hb0 hb2
        go_wp2_with fail
        go_quiet ((go_at_call 25; exact Calls.quiet_same (samenumber_any _ _ _)))
        go_wp2
        · go_ret
          rename_i t
          exact ⟨_, nq + n, rfl, by rw [HW.out]; simp [World.drewN_drewN, Nat.add_comm], congrArg Value.bool (sameL_no (key := ck) HB1.out HB2.out t).symm⟩
        · rename_i t
          go_roundw
          case rel => exact ⟨k + 1, nq + n, by omega, by go_num, by rw [HW.out]; simp [World.drewN_drewN, Nat.add_comm], sameL_step HEQ.out HB1.out HB2.out t⟩
          case measure => simp [intOf]; omega
      · go_wp2
        go_ret
        exact ⟨_, n, rfl, HW.out, congrArg Value.bool (sameL_yes HEQ.out (by omega) HL.out).symm⟩
  · have hlB : ((l.length : Int) != (m.length : Int)) = true := by rw [bne_iff_ne]; omega
    have HL := hid hlen
    clear hlen
    go_enter Tryz.func78, Tryz.ntmps78
    go_wp2
    go_ret
    exact ⟨_, 0, rfl, rfl, congrArg Value.bool (sameL_len HL.out).symm⟩
set_option maxRecDepth 100000 in
set_option maxHeartbeats 400000 in
theorem keptnumbers_any (v u : Value) (l m : List Cx) (w : World) (hv : IsSl w 1 v l.length (l.map (mkC))) (hu : IsSl w 1 u m.length (m.map (mkC)))
    (hl : l.length ≤ 140737488355328) (hm : m.length * 16 ≤ 140737488351232) (hlm : l.map ck = (m ++ marksNumbers 7 6).map ck) :
    Calls Tryz.prog 59 #[v, u] w (RetB (fun r => r = .bool true) w) := by
  go_enter Tryz.func59, Tryz.ntmps59
  go_wp2_with (go_at_call 46; refine (lentnumbers_any _ m _ hu (by omega)).mono ?_; rintro e w1 ⟨v1, xs, rfl, hown1, rfl, hb1⟩)
  have hsl := IsSl.of_own hown1
  have hl6 : (m ++ marksNumbers 7 6).length = m.length + 6 := by rw [List.length_append, marksNumbers_len]
  rw [← hl6] at hsl
  have HL6 := hid hl6
  have HL := hid hlm
  clear hlm hl6
  go_wp2_with (go_at_call 78; refine (samenumbers_any _ _ l (m ++ marksNumbers 7 6) _ (hv.below hb1 (Nat.le_refl _)) hsl (by omega) (by rw [HL6.out]; omega)).mono ?_; rintro e w2 ⟨v2, n2, rfl, rfl, rfl⟩)
  go_ret
  refine ⟨_, rfl, below_n hb1 _, ?_⟩
  refine congrArg Value.bool ?_
  rw [HL.out]; simp
/-- What was handed in is written over. -/
def OverNumbers (B n : Nat) (v : Value) (w : World) (en : Ending) (w' : World) : Prop := en = .returned (.tuple #[]) ∧ w'.ownsRow B 54 1 v n ((marksNumbers 9 n).map (mkC)) ∧ w.grownBy w' v.ownBlock
end Go.Proofs.YtjeedckmkicnoaaGreatDoor
