/- WaveNames: a part of its run. By program. -/
import Derived.Test.YtammbcohbfhfjaaGreatDoorWaveNamesRunB
namespace Go.Proofs.YtammbcohbfhfjaaGreatDoor
open Go.Ev
set_option maxRecDepth 1000000
set_option maxHeartbeats 4000000
theorem waveNamesC10S6 : mSeg (Ev.runN Tryz.prog waveNamesE waveNamesCf Tryz.f10.ntmps 68 (.go waveNamesC10T6 (mkT waveNamesC10M6) (.mk (mkH waveNamesC10R6 clH) 4186 .leaf))) waveNamesC10M7 waveNamesC10R7 (mkH waveNamesC10R6 clH) 4186 4610 = some waveNamesC10T7 := by kernel_rfl
theorem waveNamesC10S5 : mSeg (Ev.runN Tryz.prog waveNamesE waveNamesCf Tryz.f10.ntmps 68 (.go waveNamesC10T5 (mkT waveNamesC10M5) (.mk (mkH waveNamesC10R5 clH) 3762 .leaf))) waveNamesC10M6 waveNamesC10R6 (mkH waveNamesC10R5 clH) 3762 4186 = some waveNamesC10T6 := by kernel_rfl
theorem waveNamesC10S4 : mSeg (Ev.runN Tryz.prog waveNamesE waveNamesCf Tryz.f10.ntmps 68 (.go waveNamesC10T4 (mkT waveNamesC10M4) (.mk (mkH waveNamesC10R4 clH) 3338 .leaf))) waveNamesC10M5 waveNamesC10R5 (mkH waveNamesC10R4 clH) 3338 3762 = some waveNamesC10T5 := by kernel_rfl
theorem waveNamesC10S3 : mSeg (Ev.runN Tryz.prog waveNamesE waveNamesCf Tryz.f10.ntmps 68 (.go waveNamesC10T3 (mkT waveNamesC10M3) (.mk (mkH waveNamesC10R3 clH) 2914 .leaf))) waveNamesC10M4 waveNamesC10R4 (mkH waveNamesC10R3 clH) 2914 3338 = some waveNamesC10T4 := by kernel_rfl
theorem waveNamesC10S2 : mSeg (Ev.runN Tryz.prog waveNamesE waveNamesCf Tryz.f10.ntmps 68 (.go waveNamesC10T2 (mkT waveNamesC10M2) (.mk (mkH waveNamesC10R2 clH) 2490 .leaf))) waveNamesC10M3 waveNamesC10R3 (mkH waveNamesC10R2 clH) 2490 2914 = some waveNamesC10T3 := by kernel_rfl
theorem waveNamesC10S1 : mSeg (Ev.runN Tryz.prog waveNamesE waveNamesCf Tryz.f10.ntmps 68 (.go waveNamesC10T1 (mkT waveNamesC10M1) (.mk (mkH waveNamesC10R1 clH) 2066 .leaf))) waveNamesC10M2 waveNamesC10R2 (mkH waveNamesC10R1 clH) 2066 2490 = some waveNamesC10T2 := by kernel_rfl
end Go.Proofs.YtammbcohbfhfjaaGreatDoor
