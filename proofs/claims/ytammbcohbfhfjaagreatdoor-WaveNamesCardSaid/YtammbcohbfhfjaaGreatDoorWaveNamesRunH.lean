/- WaveNames: a part of its run. By program (mkcl.py). -/
import Derived.Test.YtammbcohbfhfjaaGreatDoorWaveNamesRunG
namespace Go.Proofs.YtammbcohbfhfjaaGreatDoor
open Go.Ev
set_option maxRecDepth 1000000
set_option maxHeartbeats 4000000
/-- 17342 operations. -/
theorem waveNamesC10G0 : MGoes Tryz.prog waveNamesE Tryz.f10 (mkH waveNamesC10R0 clH) 1643 (argsT waveNamesC10U 0 .leaf) [.code waveNamesC10Body] waveNamesC10X (mkH waveNamesC10F clH) 15214 :=
  mgoes_seg clMixed waveNamesOk waveNamesCfOk waveNamesB (N := 68) (n1 := 2066) (tl := waveNamesC10M1) (rl := waveNamesC10R1) (by kernel_rfl) (by kernel_rfl) (by kernel_rfl) (by kernel_rfl) waveNamesC10G1
theorem waveNamesC10Call : MCall Tryz.prog waveNamesE 10 waveNamesC10U (mkH waveNamesC10R0 clH) 1643 waveNamesC10X (mkH waveNamesC10F clH) 15214 := mcall_goes Tryz.func10 (c := waveNamesC10Body) (by kernel_rfl) (by kernel_rfl) waveNamesC10G0
noncomputable def waveNamesC10E : ME := ⟨10, waveNamesC10U, waveNamesC10R0, 1643, waveNamesC10X, waveNamesC10F, 15214⟩
theorem waveNamesC10EOk : MEOk Tryz.prog waveNamesE clH waveNamesC10E := ⟨by kernel_rfl, by kernel_rfl, by kernel_rfl, by kernel_rfl, waveNamesC10Call⟩
noncomputable def waveNamesBody : Code := bodyOf Tryz.prog 3
noncomputable def waveNamesMs : List ME := [waveNamesC1E, waveNamesC2E, waveNamesC3E, waveNamesC4E, waveNamesC5E, waveNamesC6E, waveNamesC7E, waveNamesC8E, waveNamesC9E, waveNamesC10E]
theorem waveNamesMsOk : MEsOk Tryz.prog waveNamesE clH waveNamesMs := ⟨waveNamesC1EOk, waveNamesC2EOk, waveNamesC3EOk, waveNamesC4EOk, waveNamesC5EOk, waveNamesC6EOk, waveNamesC7EOk, waveNamesC8EOk, waveNamesC9EOk, waveNamesC10EOk, trivial⟩
noncomputable def waveNamesCf1 : CallF := cfM waveNamesMs waveNamesCf
theorem waveNamesCf1Ok : CfOk Tryz.prog waveNamesE waveNamesCf1 := cfM_ok waveNamesCfOk waveNamesB waveNamesMsOk
theorem waveNamesLG0 : MGoes Tryz.prog waveNamesE Tryz.f3 clH 37 (argsT waveNamesU 0 .leaf) [.code waveNamesBody] (.u (.o (.c (.bool true)))) (mkH [] clH) 15215 :=
  mgoes_ret clMixed waveNamesOk waveNamesCf1Ok waveNamesB (N := 777) (by kernel_rfl)
theorem waveNamesCall : MCall Tryz.prog waveNamesE 3 waveNamesU clH 37 (.u (.o (.c (.bool true)))) (mkH [] clH) 15215 := mcall_goes Tryz.func3 (c := waveNamesBody) (by kernel_rfl) (by kernel_rfl) waveNamesLG0
theorem waveNamesN11 : Knows Tryz.prog clE 3 [] (.bool true) :=
  fun B0 w0 ρ G w hR => knows_mcall waveNamesB (by kernel_rfl) (fun id h1 _ => mkH_low (n := 37) (by kernel_rfl) h1) waveNamesCall (args := []) (fun _ => by unfold waveNamesU; trivial) B0 w0 ρ G w hR.kn'
end Go.Proofs.YtammbcohbfhfjaaGreatDoor
