/- Aw21: the calls that are known, each by a run. By program (mkcl.py). -/
import Derived.Test.YtlaibmeokghdmaaGreatDoorStart
namespace Go.Proofs.YtlaibmeokghdmaaGreatDoor
open Go.Ev
set_option maxRecDepth 1000000
set_option maxHeartbeats 4000000
noncomputable def aw21K0 : KT := []
theorem aw21A0 : KnowsAll Tryz.prog clE aw21K0 := trivial
/-- gridwork/gridworklaw21.awake: 8976 operations. -/
theorem aw21N1 : Knows Tryz.prog clE 21 [] (.bool true) :=
  knows_more clMixed clOk clBase aw21A0 (K := 30) (d := 60) (n := 37) (by kernel_rfl)
end Go.Proofs.YtlaibmeokghdmaaGreatDoor
