/- a part of the proof of the last text -/
import Derived.Test.YtdepiggjneoopaaGreatDoorZParts2
import Derived.Test.YtdepiggjneoopaaGreatDoorZRow
namespace Go.Proofs.YtdepiggjneoopaaGreatDoor
set_option linter.all false
set_option maxHeartbeats 4000000
set_option maxRecDepth 100000
open Go.RowKit
theorem infoF : (Tryz.prog.info? 28).map (fun i => (i.zero, i.size, i.bytes)) = some (some (.float .f64 0), 1, 8) := by kernel_rfl
theorem infoU : (Tryz.prog.info? 23).map (fun i => (i.zero, i.size, i.bytes)) = some (some (.int .u64 0), 1, 8) := by kernel_rfl
/-- The constant 7.5 of the marks. -/
def c75 : Nat := 4620130267728707584
theorem c75_number : FloatKind.f64.format.read c75 = .number false 8444249301319680 (-50) := by decide +kernel
/-- What is not a NaN less 7.5 is not one. -/
theorem sub_75 {x : Nat} (h : fnan x = false) : ∃ r, floatBits .sub .f64 x c75 = some r := by
  unfold floatBits
  simp only [Ieee.Format.sub, c75_number]
  unfold fnan at h
  cases hx : FloatKind.f64.format.read x with
  | nan s t => rw [hx] at h; cases h
  | infinity s => exact ⟨_, rfl⟩
  | number s m e => exact ⟨_, rfl⟩
theorem fnan_ofInt (n : Int) : fnan (floatOfInt .f64 n) = false := write_not_nan (.number (n < 0) n.natAbs 0) rfl
/-- The mark of a place of a list of reals. -/
def markReals (k i : Nat) : Nat := (floatBits .sub .f64 (floatOfInt .f64 (-1000 * (k : Int) - (i : Int))) c75).getD 0
theorem markReals_some (k i : Nat) : floatBits .sub .f64 (floatOfInt .f64 (-1000 * (k : Int) - (i : Int))) c75 = some (markReals k i) := by
  obtain ⟨r, h⟩ := sub_75 (fnan_ofInt (-1000 * (k : Int) - (i : Int)))
  rw [markReals, h]; rfl
/-- The marks of a list. -/
def marksReals (k n : Nat) : List Nat := (List.range n).map (markReals k)
theorem marksReals_len (k n : Nat) : (marksReals k n).length = n := by simp [marksReals]
theorem marksReals_succ (k n : Nat) : marksReals k (n + 1) = marksReals k n ++ [markReals k n] := range_succ_map _ _
theorem marksReals_get (k n i : Nat) (h : i < n) : (marksReals k n)[i]? = some (markReals k i) := by simp [marksReals, h]
/-- What was handed in is written over. -/
def OverReals (B n : Nat) (v : Value) (w : World) (en : Ending) (w' : World) : Prop := en = .returned (.tuple #[]) ∧ w'.ownsRow B 28 1 v n ((marksReals 9 n).map (Value.float .f64)) ∧ w.grownBy w' v.ownBlock
end Go.Proofs.YtdepiggjneoopaaGreatDoor
