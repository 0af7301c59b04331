/- WaveNames: a part of its run. By program (mkcl.py). -/
import Derived.Test.YtammbcohbfhfjaaGreatDoorWaveNamesRunF
import Derived.Test.YtammbcohbfhfjaaGreatDoorWaveNamesSetG
namespace Go.Proofs.YtammbcohbfhfjaaGreatDoor
open Go.Ev
set_option maxRecDepth 1000000
set_option maxHeartbeats 4000000
/-- 14282 operations. -/
theorem waveNamesC10G6 : MGoes Tryz.prog waveNamesE Tryz.f10 (mkH waveNamesC10R6 clH) 4186 (mkT waveNamesC10M6) waveNamesC10T6 waveNamesC10X (mkH waveNamesC10F clH) 15214 :=
  mgoes_seg clMixed waveNamesOk waveNamesCfOk waveNamesB (N := 68) (n1 := 4610) (tl := waveNamesC10M7) (rl := waveNamesC10R7) (by kernel_rfl) (by kernel_rfl) (by kernel_rfl) waveNamesC10S6 waveNamesC10G7
/-- 14282 operations. -/
theorem waveNamesC10G5 : MGoes Tryz.prog waveNamesE Tryz.f10 (mkH waveNamesC10R5 clH) 3762 (mkT waveNamesC10M5) waveNamesC10T5 waveNamesC10X (mkH waveNamesC10F clH) 15214 :=
  mgoes_seg clMixed waveNamesOk waveNamesCfOk waveNamesB (N := 68) (n1 := 4186) (tl := waveNamesC10M6) (rl := waveNamesC10R6) (by kernel_rfl) (by kernel_rfl) (by kernel_rfl) waveNamesC10S5 waveNamesC10G6
/-- 14282 operations. -/
theorem waveNamesC10G4 : MGoes Tryz.prog waveNamesE Tryz.f10 (mkH waveNamesC10R4 clH) 3338 (mkT waveNamesC10M4) waveNamesC10T4 waveNamesC10X (mkH waveNamesC10F clH) 15214 :=
  mgoes_seg clMixed waveNamesOk waveNamesCfOk waveNamesB (N := 68) (n1 := 3762) (tl := waveNamesC10M5) (rl := waveNamesC10R5) (by kernel_rfl) (by kernel_rfl) (by kernel_rfl) waveNamesC10S4 waveNamesC10G5
/-- 14282 operations. -/
theorem waveNamesC10G3 : MGoes Tryz.prog waveNamesE Tryz.f10 (mkH waveNamesC10R3 clH) 2914 (mkT waveNamesC10M3) waveNamesC10T3 waveNamesC10X (mkH waveNamesC10F clH) 15214 :=
  mgoes_seg clMixed waveNamesOk waveNamesCfOk waveNamesB (N := 68) (n1 := 3338) (tl := waveNamesC10M4) (rl := waveNamesC10R4) (by kernel_rfl) (by kernel_rfl) (by kernel_rfl) waveNamesC10S3 waveNamesC10G4
/-- 14282 operations. -/
theorem waveNamesC10G2 : MGoes Tryz.prog waveNamesE Tryz.f10 (mkH waveNamesC10R2 clH) 2490 (mkT waveNamesC10M2) waveNamesC10T2 waveNamesC10X (mkH waveNamesC10F clH) 15214 :=
  mgoes_seg clMixed waveNamesOk waveNamesCfOk waveNamesB (N := 68) (n1 := 2914) (tl := waveNamesC10M3) (rl := waveNamesC10R3) (by kernel_rfl) (by kernel_rfl) (by kernel_rfl) waveNamesC10S2 waveNamesC10G3
/-- 14282 operations. -/
theorem waveNamesC10G1 : MGoes Tryz.prog waveNamesE Tryz.f10 (mkH waveNamesC10R1 clH) 2066 (mkT waveNamesC10M1) waveNamesC10T1 waveNamesC10X (mkH waveNamesC10F clH) 15214 :=
  mgoes_seg clMixed waveNamesOk waveNamesCfOk waveNamesB (N := 68) (n1 := 2490) (tl := waveNamesC10M2) (rl := waveNamesC10R2) (by kernel_rfl) (by kernel_rfl) (by kernel_rfl) waveNamesC10S1 waveNamesC10G2
end Go.Proofs.YtammbcohbfhfjaaGreatDoor
