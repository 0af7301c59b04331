/- WaveNames: a part of its run. By program. -/
import Derived.Test.YtammbcohbfhfjaaGreatDoorWaveNamesRunB
namespace Go.Proofs.YtammbcohbfhfjaaGreatDoor
open Go.Ev
set_option maxRecDepth 1000000
set_option maxHeartbeats 4000000
theorem waveNamesC10S12 : mSeg (Ev.runN Tryz.prog waveNamesE waveNamesCf Tryz.f10.ntmps 68 (.go waveNamesC10T12 (mkT waveNamesC10M12) (.mk (mkH waveNamesC10R12 clH) 6730 .leaf))) waveNamesC10M13 waveNamesC10R13 (mkH waveNamesC10R12 clH) 6730 7154 = some waveNamesC10T13 := by kernel_rfl
theorem waveNamesC10S11 : mSeg (Ev.runN Tryz.prog waveNamesE waveNamesCf Tryz.f10.ntmps 68 (.go waveNamesC10T11 (mkT waveNamesC10M11) (.mk (mkH waveNamesC10R11 clH) 6306 .leaf))) waveNamesC10M12 waveNamesC10R12 (mkH waveNamesC10R11 clH) 6306 6730 = some waveNamesC10T12 := by kernel_rfl
theorem waveNamesC10S10 : mSeg (Ev.runN Tryz.prog waveNamesE waveNamesCf Tryz.f10.ntmps 68 (.go waveNamesC10T10 (mkT waveNamesC10M10) (.mk (mkH waveNamesC10R10 clH) 5882 .leaf))) waveNamesC10M11 waveNamesC10R11 (mkH waveNamesC10R10 clH) 5882 6306 = some waveNamesC10T11 := by kernel_rfl
theorem waveNamesC10S9 : mSeg (Ev.runN Tryz.prog waveNamesE waveNamesCf Tryz.f10.ntmps 68 (.go waveNamesC10T9 (mkT waveNamesC10M9) (.mk (mkH waveNamesC10R9 clH) 5458 .leaf))) waveNamesC10M10 waveNamesC10R10 (mkH waveNamesC10R9 clH) 5458 5882 = some waveNamesC10T10 := by kernel_rfl
theorem waveNamesC10S8 : mSeg (Ev.runN Tryz.prog waveNamesE waveNamesCf Tryz.f10.ntmps 68 (.go waveNamesC10T8 (mkT waveNamesC10M8) (.mk (mkH waveNamesC10R8 clH) 5034 .leaf))) waveNamesC10M9 waveNamesC10R9 (mkH waveNamesC10R8 clH) 5034 5458 = some waveNamesC10T9 := by kernel_rfl
theorem waveNamesC10S7 : mSeg (Ev.runN Tryz.prog waveNamesE waveNamesCf Tryz.f10.ntmps 68 (.go waveNamesC10T7 (mkT waveNamesC10M7) (.mk (mkH waveNamesC10R7 clH) 4610 .leaf))) waveNamesC10M8 waveNamesC10R8 (mkH waveNamesC10R7 clH) 4610 5034 = some waveNamesC10T8 := by kernel_rfl
end Go.Proofs.YtammbcohbfhfjaaGreatDoor
