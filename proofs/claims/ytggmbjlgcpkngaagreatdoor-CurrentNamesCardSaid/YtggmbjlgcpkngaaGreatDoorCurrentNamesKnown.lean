/- CurrentNames: the calls that are known, each by a run. By program (mkcl.py). -/
import Derived.Test.YtggmbjlgcpkngaaGreatDoorStart
namespace Go.Proofs.YtggmbjlgcpkngaaGreatDoor
open Go.Ev
set_option maxRecDepth 1000000
set_option maxHeartbeats 4000000
noncomputable def currentNamesK0 : KT := []
theorem currentNamesA0 : KnowsAll Tryz.prog clE currentNamesK0 := trivial
/-- gridwork/gridworklaw21.awake: 8976 operations. -/
theorem currentNamesN1 : Knows Tryz.prog clE 21 [] (.bool true) :=
  knows_more clMixed clOk clBase currentNamesA0 (K := 30) (d := 60) (n := 37) (by kernel_rfl)
noncomputable def currentNamesK1 : KT := (21, [], .bool true) :: currentNamesK0
theorem currentNamesA1 : KnowsAll Tryz.prog clE currentNamesK1 := ⟨currentNamesN1, currentNamesA0⟩
/-- gridwork/gridworklaw21.CurrentNames: 13928 operations. -/
theorem currentNamesN2 : Knows Tryz.prog clE 4 [] (.bool true) :=
  knows_more clMixed clOk clBase currentNamesA1 (K := 30) (d := 60) (n := 37) (by kernel_rfl)
end Go.Proofs.YtggmbjlgcpkngaaGreatDoor
