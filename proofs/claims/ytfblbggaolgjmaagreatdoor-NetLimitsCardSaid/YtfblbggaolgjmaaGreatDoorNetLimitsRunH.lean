/- NetLimits: a part of its run. By program (mkcl.py). -/
import Derived.Test.YtfblbggaolgjmaaGreatDoorNetLimitsRunG
namespace Go.Proofs.YtfblbggaolgjmaaGreatDoor
open Go.Ev
set_option maxRecDepth 1000000
set_option maxHeartbeats 4000000
theorem netLimitsLG1 : MGoes Tryz.prog netLimitsE Tryz.f3 (mkH netLimitsLR1 clH) 5050 (mkT netLimitsLM1) netLimitsLT1 (.u (.o (.c (.bool true)))) (mkH [] clH) 7571 :=
  mgoes_ret clMixed netLimitsOk netLimitsCf1Ok netLimitsB (N := 166) (by kernel_rfl)
/-- 12009 operations. -/
theorem netLimitsLG0 : MGoes Tryz.prog netLimitsE Tryz.f3 clH 37 (argsT netLimitsU 0 .leaf) [.code netLimitsBody] (.u (.o (.c (.bool true)))) (mkH [] clH) 7571 :=
  mgoes_seg clMixed netLimitsOk netLimitsCf1Ok netLimitsB (N := 3073) (n1 := 5050) (tl := netLimitsLM1) (rl := netLimitsLR1) (by kernel_rfl) (by kernel_rfl) (by kernel_rfl) (by kernel_rfl) netLimitsLG1
theorem netLimitsCall : MCall Tryz.prog netLimitsE 3 netLimitsU clH 37 (.u (.o (.c (.bool true)))) (mkH [] clH) 7571 := mcall_goes Tryz.func3 (c := netLimitsBody) (by kernel_rfl) (by kernel_rfl) netLimitsLG0
theorem netLimitsN9 : Knows Tryz.prog clE 3 [] (.bool true) :=
  fun B0 w0 ρ G w hR => knows_mcall netLimitsB (by kernel_rfl) (fun id h1 h2 => freeAll_ok (n := 37) (k := 7534) (by kernel_rfl) id h1 (by omega)) netLimitsCall (args := []) (fun _ => by unfold netLimitsU; trivial) B0 w0 ρ G w hR.kn'
end Go.Proofs.YtfblbggaolgjmaaGreatDoor
