/- WaveNames: a part of its run. By program (mkcl.py). -/
import Derived.Test.YtammbcohbfhfjaaGreatDoorWaveNamesRunD
import Derived.Test.YtammbcohbfhfjaaGreatDoorWaveNamesSetE
namespace Go.Proofs.YtammbcohbfhfjaaGreatDoor
open Go.Ev
set_option maxRecDepth 1000000
set_option maxHeartbeats 4000000
/-- 14282 operations. -/
theorem waveNamesC10G18 : MGoes Tryz.prog waveNamesE Tryz.f10 (mkH waveNamesC10R18 clH) 9274 (mkT waveNamesC10M18) waveNamesC10T18 waveNamesC10X (mkH waveNamesC10F clH) 15214 :=
  mgoes_seg clMixed waveNamesOk waveNamesCfOk waveNamesB (N := 68) (n1 := 9698) (tl := waveNamesC10M19) (rl := waveNamesC10R19) (by kernel_rfl) (by kernel_rfl) (by kernel_rfl) waveNamesC10S18 waveNamesC10G19
/-- 14282 operations. -/
theorem waveNamesC10G17 : MGoes Tryz.prog waveNamesE Tryz.f10 (mkH waveNamesC10R17 clH) 8850 (mkT waveNamesC10M17) waveNamesC10T17 waveNamesC10X (mkH waveNamesC10F clH) 15214 :=
  mgoes_seg clMixed waveNamesOk waveNamesCfOk waveNamesB (N := 68) (n1 := 9274) (tl := waveNamesC10M18) (rl := waveNamesC10R18) (by kernel_rfl) (by kernel_rfl) (by kernel_rfl) waveNamesC10S17 waveNamesC10G18
/-- 14282 operations. -/
theorem waveNamesC10G16 : MGoes Tryz.prog waveNamesE Tryz.f10 (mkH waveNamesC10R16 clH) 8426 (mkT waveNamesC10M16) waveNamesC10T16 waveNamesC10X (mkH waveNamesC10F clH) 15214 :=
  mgoes_seg clMixed waveNamesOk waveNamesCfOk waveNamesB (N := 68) (n1 := 8850) (tl := waveNamesC10M17) (rl := waveNamesC10R17) (by kernel_rfl) (by kernel_rfl) (by kernel_rfl) waveNamesC10S16 waveNamesC10G17
/-- 14282 operations. -/
theorem waveNamesC10G15 : MGoes Tryz.prog waveNamesE Tryz.f10 (mkH waveNamesC10R15 clH) 8002 (mkT waveNamesC10M15) waveNamesC10T15 waveNamesC10X (mkH waveNamesC10F clH) 15214 :=
  mgoes_seg clMixed waveNamesOk waveNamesCfOk waveNamesB (N := 68) (n1 := 8426) (tl := waveNamesC10M16) (rl := waveNamesC10R16) (by kernel_rfl) (by kernel_rfl) (by kernel_rfl) waveNamesC10S15 waveNamesC10G16
/-- 14282 operations. -/
theorem waveNamesC10G14 : MGoes Tryz.prog waveNamesE Tryz.f10 (mkH waveNamesC10R14 clH) 7578 (mkT waveNamesC10M14) waveNamesC10T14 waveNamesC10X (mkH waveNamesC10F clH) 15214 :=
  mgoes_seg clMixed waveNamesOk waveNamesCfOk waveNamesB (N := 68) (n1 := 8002) (tl := waveNamesC10M15) (rl := waveNamesC10R15) (by kernel_rfl) (by kernel_rfl) (by kernel_rfl) waveNamesC10S14 waveNamesC10G15
/-- 14282 operations. -/
theorem waveNamesC10G13 : MGoes Tryz.prog waveNamesE Tryz.f10 (mkH waveNamesC10R13 clH) 7154 (mkT waveNamesC10M13) waveNamesC10T13 waveNamesC10X (mkH waveNamesC10F clH) 15214 :=
  mgoes_seg clMixed waveNamesOk waveNamesCfOk waveNamesB (N := 68) (n1 := 7578) (tl := waveNamesC10M14) (rl := waveNamesC10R14) (by kernel_rfl) (by kernel_rfl) (by kernel_rfl) waveNamesC10S13 waveNamesC10G14
end Go.Proofs.YtammbcohbfhfjaaGreatDoor
