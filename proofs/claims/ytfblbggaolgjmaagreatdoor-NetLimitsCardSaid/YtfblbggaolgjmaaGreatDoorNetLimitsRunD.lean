/- NetLimits: a part of its run. By program (mkcl.py). -/
import Derived.Test.YtfblbggaolgjmaaGreatDoorNetLimitsRunC
namespace Go.Proofs.YtfblbggaolgjmaaGreatDoor
open Go.Ev
set_option maxRecDepth 1000000
set_option maxHeartbeats 4000000
/-- 12116 operations. -/
theorem netLimitsC1G8 : MGoes Tryz.prog netLimitsE Tryz.f6 (mkH netLimitsC1R8 clH) 3457 (mkT netLimitsC1M8) netLimitsC1T8 netLimitsC1X (mkH netLimitsC1F clH) 4462 :=
  mgoes_seg clMixed netLimitsOk netLimitsCfOk netLimitsB (N := 606) (n1 := 3747) (tl := netLimitsC1M9) (rl := netLimitsC1R9) (by kernel_rfl) (by kernel_rfl) (by kernel_rfl) (by kernel_rfl) netLimitsC1G9
/-- 12319 operations. -/
theorem netLimitsC1G7 : MGoes Tryz.prog netLimitsE Tryz.f6 (mkH netLimitsC1R7 clH) 3162 (mkT netLimitsC1M7) netLimitsC1T7 netLimitsC1X (mkH netLimitsC1F clH) 4462 :=
  mgoes_seg clMixed netLimitsOk netLimitsCfOk netLimitsB (N := 609) (n1 := 3457) (tl := netLimitsC1M8) (rl := netLimitsC1R8) (by kernel_rfl) (by kernel_rfl) (by kernel_rfl) (by kernel_rfl) netLimitsC1G8
/-- 12116 operations. -/
theorem netLimitsC1G6 : MGoes Tryz.prog netLimitsE Tryz.f6 (mkH netLimitsC1R6 clH) 2872 (mkT netLimitsC1M6) netLimitsC1T6 netLimitsC1X (mkH netLimitsC1F clH) 4462 :=
  mgoes_seg clMixed netLimitsOk netLimitsCfOk netLimitsB (N := 606) (n1 := 3162) (tl := netLimitsC1M7) (rl := netLimitsC1R7) (by kernel_rfl) (by kernel_rfl) (by kernel_rfl) (by kernel_rfl) netLimitsC1G7
/-- 12319 operations. -/
theorem netLimitsC1G5 : MGoes Tryz.prog netLimitsE Tryz.f6 (mkH netLimitsC1R5 clH) 2577 (mkT netLimitsC1M5) netLimitsC1T5 netLimitsC1X (mkH netLimitsC1F clH) 4462 :=
  mgoes_seg clMixed netLimitsOk netLimitsCfOk netLimitsB (N := 609) (n1 := 2872) (tl := netLimitsC1M6) (rl := netLimitsC1R6) (by kernel_rfl) (by kernel_rfl) (by kernel_rfl) (by kernel_rfl) netLimitsC1G6
/-- 12116 operations. -/
theorem netLimitsC1G4 : MGoes Tryz.prog netLimitsE Tryz.f6 (mkH netLimitsC1R4 clH) 2287 (mkT netLimitsC1M4) netLimitsC1T4 netLimitsC1X (mkH netLimitsC1F clH) 4462 :=
  mgoes_seg clMixed netLimitsOk netLimitsCfOk netLimitsB (N := 606) (n1 := 2577) (tl := netLimitsC1M5) (rl := netLimitsC1R5) (by kernel_rfl) (by kernel_rfl) (by kernel_rfl) (by kernel_rfl) netLimitsC1G5
end Go.Proofs.YtfblbggaolgjmaaGreatDoor
