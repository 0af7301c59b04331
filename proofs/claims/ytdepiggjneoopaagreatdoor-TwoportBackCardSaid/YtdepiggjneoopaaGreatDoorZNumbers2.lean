/- a part of the proof of the last text -/
import Derived.Test.YtdepiggjneoopaaGreatDoorZReals2
namespace Go.Proofs.YtdepiggjneoopaaGreatDoor
set_option linter.all false
set_option maxHeartbeats 4000000
set_option maxRecDepth 100000
open Go.RowKit
/-- A complex number's value; its bits up to those of a NaN. -/
abbrev mkC (z : Cx) : Value := .complex .f64 z.1 z.2
def ck (z : Cx) : Cx := (fc z.1, fc z.2)
theorem mkC_cells (z : Cx) : (mkC z).cells = #[mkC z] := rfl
theorem mkC_mem {z : Cx} {u : Value} (h : u ∈ (mkC z).cells.toList) : u.oneCell' = true := by rw [mkC_cells] at h; simp at h; subst h; rfl
theorem infoC : (Tryz.prog.info? 48).map (fun i => (i.zero, i.size, i.bytes)) = some (some (.complex .f64 0 0), 1, 16) := by kernel_rfl
theorem beq_pair (x y : Cx) : (ck x == ck y) = (fc x.1 == fc y.1 && fc x.2 == fc y.2) := rfl
theorem samenumber_any (x y : Cx) (w : World) :
    Calls Tryz.prog 43 #[mkC x, mkC y] w fun e w' => e = .returned (.bool (ck x == ck y)) ∧ w = w' := by
  rw [beq_pair]
  exact samenum_any x.1 x.2 y.1 y.2 w
/-- The mark of a place of a list of numbers. -/
def markNumbers (k i : Nat) : Cx := (markReals k i, floatOfInt .f64 (k : Int))
/-- The marks of a list. -/
def marksNumbers (k n : Nat) : List Cx := (List.range n).map (markNumbers k)
theorem marksNumbers_len (k n : Nat) : (marksNumbers k n).length = n := by simp [marksNumbers]
theorem marksNumbers_succ (k n : Nat) : marksNumbers k (n + 1) = marksNumbers k n ++ [markNumbers k n] := range_succ_map _ _
theorem marksNumbers_get (k n i : Nat) (h : i < n) : (marksNumbers k n)[i]? = some (markNumbers k i) := by simp [marksNumbers, h]
set_option maxRecDepth 100000 in
set_option maxHeartbeats 400000 in
theorem samenumbers_any (v u : Value) (l m : List Cx) (w : World) (hv : IsSl w 1 v l.length (l.map (mkC))) (hu : IsSl w 1 u m.length (m.map (mkC)))
    (hl : l.length ≤ 140737488355328) (_ : m.length ≤ 140737488355328) :
    Calls Tryz.prog 13 #[v, u] w (Ret (fun r => r = .bool (l.map ck == m.map ck)) w) := by
  obtain ⟨a, c, rfl⟩ := hv.form
  obtain ⟨a2, c2, rfl⟩ := hu.form
  obtain ⟨i0, hi, hz0, hz1, hz2⟩ := info_parts infoC
  by_cases hlen : l.length = m.length
  · have hlB : ((l.length : Int) != (m.length : Int)) = false := by simp [hlen]
    have HL := hid hlen
    clear hlen
    go_enter Tryz.func13, Tryz.ntmps13
    go_wp2
    go_loopw [5] (fun i wr => ∃ (k n : Nat), k ≤ l.length ∧ i = .int .i64 k ∧ wr = w.drewN n ∧ (l.take k).map ck = (m.take k).map ck) (fun i _ => l.length - (intOf i).toNat)
    case atStart => exact ⟨0, 0, by omega, rfl, rfl, rfl⟩
    case round =>
      obtain ⟨k, n, hk, rfl, hw, heq⟩ := hrel
      have hv1 : IsSl wr 1 (.slice a l.length c) l.length (l.map (mkC)) := by rw [hw]; exact hv
      have hu1 : IsSl wr 1 (.slice a2 m.length c2) m.length (m.map (mkC)) := by rw [hw]; exact hu
      have HW := hid hw
      have HEQ := hid heq
      clear heq hw
      by_cases hlt : k < l.length
      · obtain ⟨g, o, x, hidx, hg, hcell, hx⟩ := IsSl.at1 Tryz.underlying41 hi hz1 hv1 hlt
        obtain ⟨g2, o2, x2, hidx2, hg2, hcell2, hx2⟩ := IsSl.at1 Tryz.underlying41 hi hz1 hu1 (show k < m.length by have := HL.out; omega)
        obtain ⟨b, hb0, rfl⟩ := map_getElem? hx
        obtain ⟨b2, hb2, rfl⟩ := map_getElem? hx2
        clear hx hx2
        have HB1 := hid hb0
        have HB2 := hid hb2
        clear hb0 hb2
        go_wp2_with fail
        go_quiet ((go_at_call 43; exact Calls.quiet_same (samenumber_any _ _ _)))
        go_wp2
        · go_ret
          rename_i t
          exact ⟨_, nq + n, rfl, by rw [HW.out]; simp [World.drewN_drewN, Nat.add_comm], congrArg Value.bool (sameL_no (key := ck) HB1.out HB2.out t).symm⟩
        · rename_i t
          go_roundw
          case rel => exact ⟨k + 1, nq + n, by omega, by go_num, by rw [HW.out]; simp [World.drewN_drewN, Nat.add_comm], sameL_step HEQ.out HB1.out HB2.out t⟩
          case measure => simp [intOf]; omega
      · go_wp2
        go_ret
        exact ⟨_, n, rfl, HW.out, congrArg Value.bool (sameL_yes HEQ.out (by omega) HL.out).symm⟩
  · have hlB : ((l.length : Int) != (m.length : Int)) = true := by rw [bne_iff_ne]; omega
    have HL := hid hlen
    clear hlen
    go_enter Tryz.func13, Tryz.ntmps13
    go_wp2
    go_ret
    exact ⟨_, 0, rfl, rfl, congrArg Value.bool (sameL_len HL.out).symm⟩
/-- What was handed in is written over. -/
def OverNumbers (B n : Nat) (v : Value) (w : World) (en : Ending) (w' : World) : Prop := en = .returned (.tuple #[]) ∧ w'.ownsRow B 48 1 v n ((marksNumbers 9 n).map (mkC)) ∧ w.grownBy w' v.ownBlock
end Go.Proofs.YtdepiggjneoopaaGreatDoor
