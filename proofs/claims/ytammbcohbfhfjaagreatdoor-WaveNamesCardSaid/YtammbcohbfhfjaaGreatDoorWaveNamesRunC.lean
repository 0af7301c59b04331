/- WaveNames: a part of its run. By program (mkcl.py). -/
import Derived.Test.YtammbcohbfhfjaaGreatDoorWaveNamesRunB
namespace Go.Proofs.YtammbcohbfhfjaaGreatDoor
open Go.Ev
set_option maxRecDepth 1000000
set_option maxHeartbeats 4000000
/-- 14282 operations. -/
theorem waveNamesC10G30 : MGoes Tryz.prog waveNamesE Tryz.f10 (mkH waveNamesC10R30 clH) 14362 (mkT waveNamesC10M30) waveNamesC10T30 waveNamesC10X (mkH waveNamesC10F clH) 15214 :=
  mgoes_seg clMixed waveNamesOk waveNamesCfOk waveNamesB (N := 68) (n1 := 14786) (tl := waveNamesC10M31) (rl := waveNamesC10R31) (by kernel_rfl) (by kernel_rfl) (by kernel_rfl) (by kernel_rfl) waveNamesC10G31
/-- 14282 operations. -/
theorem waveNamesC10G29 : MGoes Tryz.prog waveNamesE Tryz.f10 (mkH waveNamesC10R29 clH) 13938 (mkT waveNamesC10M29) waveNamesC10T29 waveNamesC10X (mkH waveNamesC10F clH) 15214 :=
  mgoes_seg clMixed waveNamesOk waveNamesCfOk waveNamesB (N := 68) (n1 := 14362) (tl := waveNamesC10M30) (rl := waveNamesC10R30) (by kernel_rfl) (by kernel_rfl) (by kernel_rfl) (by kernel_rfl) waveNamesC10G30
/-- 14282 operations. -/
theorem waveNamesC10G28 : MGoes Tryz.prog waveNamesE Tryz.f10 (mkH waveNamesC10R28 clH) 13514 (mkT waveNamesC10M28) waveNamesC10T28 waveNamesC10X (mkH waveNamesC10F clH) 15214 :=
  mgoes_seg clMixed waveNamesOk waveNamesCfOk waveNamesB (N := 68) (n1 := 13938) (tl := waveNamesC10M29) (rl := waveNamesC10R29) (by kernel_rfl) (by kernel_rfl) (by kernel_rfl) (by kernel_rfl) waveNamesC10G29
/-- 14282 operations. -/
theorem waveNamesC10G27 : MGoes Tryz.prog waveNamesE Tryz.f10 (mkH waveNamesC10R27 clH) 13090 (mkT waveNamesC10M27) waveNamesC10T27 waveNamesC10X (mkH waveNamesC10F clH) 15214 :=
  mgoes_seg clMixed waveNamesOk waveNamesCfOk waveNamesB (N := 68) (n1 := 13514) (tl := waveNamesC10M28) (rl := waveNamesC10R28) (by kernel_rfl) (by kernel_rfl) (by kernel_rfl) (by kernel_rfl) waveNamesC10G28
/-- 14282 operations. -/
theorem waveNamesC10G26 : MGoes Tryz.prog waveNamesE Tryz.f10 (mkH waveNamesC10R26 clH) 12666 (mkT waveNamesC10M26) waveNamesC10T26 waveNamesC10X (mkH waveNamesC10F clH) 15214 :=
  mgoes_seg clMixed waveNamesOk waveNamesCfOk waveNamesB (N := 68) (n1 := 13090) (tl := waveNamesC10M27) (rl := waveNamesC10R27) (by kernel_rfl) (by kernel_rfl) (by kernel_rfl) (by kernel_rfl) waveNamesC10G27
/-- 14282 operations. -/
theorem waveNamesC10G25 : MGoes Tryz.prog waveNamesE Tryz.f10 (mkH waveNamesC10R25 clH) 12242 (mkT waveNamesC10M25) waveNamesC10T25 waveNamesC10X (mkH waveNamesC10F clH) 15214 :=
  mgoes_seg clMixed waveNamesOk waveNamesCfOk waveNamesB (N := 68) (n1 := 12666) (tl := waveNamesC10M26) (rl := waveNamesC10R26) (by kernel_rfl) (by kernel_rfl) (by kernel_rfl) (by kernel_rfl) waveNamesC10G26
end Go.Proofs.YtammbcohbfhfjaaGreatDoor
