/- WaveNames: a part of its run. By program (mkcl.py). -/
import Derived.Test.YtammbcohbfhfjaaGreatDoorWaveNamesRunC
namespace Go.Proofs.YtammbcohbfhfjaaGreatDoor
open Go.Ev
set_option maxRecDepth 1000000
set_option maxHeartbeats 4000000
/-- 14282 operations. -/
theorem waveNamesC10G24 : MGoes Tryz.prog waveNamesE Tryz.f10 (mkH waveNamesC10R24 clH) 11818 (mkT waveNamesC10M24) waveNamesC10T24 waveNamesC10X (mkH waveNamesC10F clH) 15214 :=
  mgoes_seg clMixed waveNamesOk waveNamesCfOk waveNamesB (N := 68) (n1 := 12242) (tl := waveNamesC10M25) (rl := waveNamesC10R25) (by kernel_rfl) (by kernel_rfl) (by kernel_rfl) (by kernel_rfl) waveNamesC10G25
/-- 14282 operations. -/
theorem waveNamesC10G23 : MGoes Tryz.prog waveNamesE Tryz.f10 (mkH waveNamesC10R23 clH) 11394 (mkT waveNamesC10M23) waveNamesC10T23 waveNamesC10X (mkH waveNamesC10F clH) 15214 :=
  mgoes_seg clMixed waveNamesOk waveNamesCfOk waveNamesB (N := 68) (n1 := 11818) (tl := waveNamesC10M24) (rl := waveNamesC10R24) (by kernel_rfl) (by kernel_rfl) (by kernel_rfl) (by kernel_rfl) waveNamesC10G24
/-- 14282 operations. -/
theorem waveNamesC10G22 : MGoes Tryz.prog waveNamesE Tryz.f10 (mkH waveNamesC10R22 clH) 10970 (mkT waveNamesC10M22) waveNamesC10T22 waveNamesC10X (mkH waveNamesC10F clH) 15214 :=
  mgoes_seg clMixed waveNamesOk waveNamesCfOk waveNamesB (N := 68) (n1 := 11394) (tl := waveNamesC10M23) (rl := waveNamesC10R23) (by kernel_rfl) (by kernel_rfl) (by kernel_rfl) (by kernel_rfl) waveNamesC10G23
/-- 14282 operations. -/
theorem waveNamesC10G21 : MGoes Tryz.prog waveNamesE Tryz.f10 (mkH waveNamesC10R21 clH) 10546 (mkT waveNamesC10M21) waveNamesC10T21 waveNamesC10X (mkH waveNamesC10F clH) 15214 :=
  mgoes_seg clMixed waveNamesOk waveNamesCfOk waveNamesB (N := 68) (n1 := 10970) (tl := waveNamesC10M22) (rl := waveNamesC10R22) (by kernel_rfl) (by kernel_rfl) (by kernel_rfl) (by kernel_rfl) waveNamesC10G22
/-- 14282 operations. -/
theorem waveNamesC10G20 : MGoes Tryz.prog waveNamesE Tryz.f10 (mkH waveNamesC10R20 clH) 10122 (mkT waveNamesC10M20) waveNamesC10T20 waveNamesC10X (mkH waveNamesC10F clH) 15214 :=
  mgoes_seg clMixed waveNamesOk waveNamesCfOk waveNamesB (N := 68) (n1 := 10546) (tl := waveNamesC10M21) (rl := waveNamesC10R21) (by kernel_rfl) (by kernel_rfl) (by kernel_rfl) (by kernel_rfl) waveNamesC10G21
/-- 14282 operations. -/
theorem waveNamesC10G19 : MGoes Tryz.prog waveNamesE Tryz.f10 (mkH waveNamesC10R19 clH) 9698 (mkT waveNamesC10M19) waveNamesC10T19 waveNamesC10X (mkH waveNamesC10F clH) 15214 :=
  mgoes_seg clMixed waveNamesOk waveNamesCfOk waveNamesB (N := 68) (n1 := 10122) (tl := waveNamesC10M20) (rl := waveNamesC10R20) (by kernel_rfl) (by kernel_rfl) (by kernel_rfl) (by kernel_rfl) waveNamesC10G20
end Go.Proofs.YtammbcohbfhfjaaGreatDoor
