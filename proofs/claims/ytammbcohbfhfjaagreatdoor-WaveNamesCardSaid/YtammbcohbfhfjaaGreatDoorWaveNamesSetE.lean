/- WaveNames: a part of its run. By program. -/
import Derived.Test.YtammbcohbfhfjaaGreatDoorWaveNamesRunB
namespace Go.Proofs.YtammbcohbfhfjaaGreatDoor
open Go.Ev
set_option maxRecDepth 1000000
set_option maxHeartbeats 4000000
theorem waveNamesC10S18 : mSeg (Ev.runN Tryz.prog waveNamesE waveNamesCf Tryz.f10.ntmps 68 (.go waveNamesC10T18 (mkT waveNamesC10M18) (.mk (mkH waveNamesC10R18 clH) 9274 .leaf))) waveNamesC10M19 waveNamesC10R19 (mkH waveNamesC10R18 clH) 9274 9698 = some waveNamesC10T19 := by kernel_rfl
theorem waveNamesC10S17 : mSeg (Ev.runN Tryz.prog waveNamesE waveNamesCf Tryz.f10.ntmps 68 (.go waveNamesC10T17 (mkT waveNamesC10M17) (.mk (mkH waveNamesC10R17 clH) 8850 .leaf))) waveNamesC10M18 waveNamesC10R18 (mkH waveNamesC10R17 clH) 8850 9274 = some waveNamesC10T18 := by kernel_rfl
theorem waveNamesC10S16 : mSeg (Ev.runN Tryz.prog waveNamesE waveNamesCf Tryz.f10.ntmps 68 (.go waveNamesC10T16 (mkT waveNamesC10M16) (.mk (mkH waveNamesC10R16 clH) 8426 .leaf))) waveNamesC10M17 waveNamesC10R17 (mkH waveNamesC10R16 clH) 8426 8850 = some waveNamesC10T17 := by kernel_rfl
theorem waveNamesC10S15 : mSeg (Ev.runN Tryz.prog waveNamesE waveNamesCf Tryz.f10.ntmps 68 (.go waveNamesC10T15 (mkT waveNamesC10M15) (.mk (mkH waveNamesC10R15 clH) 8002 .leaf))) waveNamesC10M16 waveNamesC10R16 (mkH waveNamesC10R15 clH) 8002 8426 = some waveNamesC10T16 := by kernel_rfl
theorem waveNamesC10S14 : mSeg (Ev.runN Tryz.prog waveNamesE waveNamesCf Tryz.f10.ntmps 68 (.go waveNamesC10T14 (mkT waveNamesC10M14) (.mk (mkH waveNamesC10R14 clH) 7578 .leaf))) waveNamesC10M15 waveNamesC10R15 (mkH waveNamesC10R14 clH) 7578 8002 = some waveNamesC10T15 := by kernel_rfl
theorem waveNamesC10S13 : mSeg (Ev.runN Tryz.prog waveNamesE waveNamesCf Tryz.f10.ntmps 68 (.go waveNamesC10T13 (mkT waveNamesC10M13) (.mk (mkH waveNamesC10R13 clH) 7154 .leaf))) waveNamesC10M14 waveNamesC10R14 (mkH waveNamesC10R13 clH) 7154 7578 = some waveNamesC10T14 := by kernel_rfl
end Go.Proofs.YtammbcohbfhfjaaGreatDoor
