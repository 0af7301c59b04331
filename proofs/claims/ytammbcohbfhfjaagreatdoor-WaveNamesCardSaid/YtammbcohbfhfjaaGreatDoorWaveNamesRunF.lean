/- WaveNames: a part of its run. By program (mkcl.py). -/
import Derived.Test.YtammbcohbfhfjaaGreatDoorWaveNamesRunE
import Derived.Test.YtammbcohbfhfjaaGreatDoorWaveNamesSetF
namespace Go.Proofs.YtammbcohbfhfjaaGreatDoor
open Go.Ev
set_option maxRecDepth 1000000
set_option maxHeartbeats 4000000
/-- 14282 operations. -/
theorem waveNamesC10G12 : MGoes Tryz.prog waveNamesE Tryz.f10 (mkH waveNamesC10R12 clH) 6730 (mkT waveNamesC10M12) waveNamesC10T12 waveNamesC10X (mkH waveNamesC10F clH) 15214 :=
  mgoes_seg clMixed waveNamesOk waveNamesCfOk waveNamesB (N := 68) (n1 := 7154) (tl := waveNamesC10M13) (rl := waveNamesC10R13) (by kernel_rfl) (by kernel_rfl) (by kernel_rfl) waveNamesC10S12 waveNamesC10G13
/-- 14282 operations. -/
theorem waveNamesC10G11 : MGoes Tryz.prog waveNamesE Tryz.f10 (mkH waveNamesC10R11 clH) 6306 (mkT waveNamesC10M11) waveNamesC10T11 waveNamesC10X (mkH waveNamesC10F clH) 15214 :=
  mgoes_seg clMixed waveNamesOk waveNamesCfOk waveNamesB (N := 68) (n1 := 6730) (tl := waveNamesC10M12) (rl := waveNamesC10R12) (by kernel_rfl) (by kernel_rfl) (by kernel_rfl) waveNamesC10S11 waveNamesC10G12
/-- 14282 operations. -/
theorem waveNamesC10G10 : MGoes Tryz.prog waveNamesE Tryz.f10 (mkH waveNamesC10R10 clH) 5882 (mkT waveNamesC10M10) waveNamesC10T10 waveNamesC10X (mkH waveNamesC10F clH) 15214 :=
  mgoes_seg clMixed waveNamesOk waveNamesCfOk waveNamesB (N := 68) (n1 := 6306) (tl := waveNamesC10M11) (rl := waveNamesC10R11) (by kernel_rfl) (by kernel_rfl) (by kernel_rfl) waveNamesC10S10 waveNamesC10G11
/-- 14282 operations. -/
theorem waveNamesC10G9 : MGoes Tryz.prog waveNamesE Tryz.f10 (mkH waveNamesC10R9 clH) 5458 (mkT waveNamesC10M9) waveNamesC10T9 waveNamesC10X (mkH waveNamesC10F clH) 15214 :=
  mgoes_seg clMixed waveNamesOk waveNamesCfOk waveNamesB (N := 68) (n1 := 5882) (tl := waveNamesC10M10) (rl := waveNamesC10R10) (by kernel_rfl) (by kernel_rfl) (by kernel_rfl) waveNamesC10S9 waveNamesC10G10
/-- 14282 operations. -/
theorem waveNamesC10G8 : MGoes Tryz.prog waveNamesE Tryz.f10 (mkH waveNamesC10R8 clH) 5034 (mkT waveNamesC10M8) waveNamesC10T8 waveNamesC10X (mkH waveNamesC10F clH) 15214 :=
  mgoes_seg clMixed waveNamesOk waveNamesCfOk waveNamesB (N := 68) (n1 := 5458) (tl := waveNamesC10M9) (rl := waveNamesC10R9) (by kernel_rfl) (by kernel_rfl) (by kernel_rfl) waveNamesC10S8 waveNamesC10G9
/-- 14282 operations. -/
theorem waveNamesC10G7 : MGoes Tryz.prog waveNamesE Tryz.f10 (mkH waveNamesC10R7 clH) 4610 (mkT waveNamesC10M7) waveNamesC10T7 waveNamesC10X (mkH waveNamesC10F clH) 15214 :=
  mgoes_seg clMixed waveNamesOk waveNamesCfOk waveNamesB (N := 68) (n1 := 5034) (tl := waveNamesC10M8) (rl := waveNamesC10R8) (by kernel_rfl) (by kernel_rfl) (by kernel_rfl) waveNamesC10S7 waveNamesC10G8
end Go.Proofs.YtammbcohbfhfjaaGreatDoor
