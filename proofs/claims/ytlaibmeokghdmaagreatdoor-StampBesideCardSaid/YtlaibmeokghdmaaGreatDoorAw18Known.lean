/- Aw18: the calls that are known, each by a run. By program (mkcl.py). -/
import Derived.Test.YtlaibmeokghdmaaGreatDoorStart
namespace Go.Proofs.YtlaibmeokghdmaaGreatDoor
open Go.Ev
set_option maxRecDepth 1000000
set_option maxHeartbeats 4000000
noncomputable def aw18K0 : KT := []
theorem aw18A0 : KnowsAll Tryz.prog clE aw18K0 := trivial
/-- gridwork/quantity.Parse: 900 operations. -/
theorem aw18N1 : Knows Tryz.prog clE 101 [.string ⟨#[48, 46, 50, 53]⟩] (.tuple #[.float .f64 4598175219545276416, .agg #[.int .i64 0, .int .i64 0]]) :=
  knows_more clMixed clOk clBase aw18A0 (K := 30) (d := 60) (n := 37) (by kernel_rfl)
noncomputable def aw18K1 : KT := (101, [.string ⟨#[48, 46, 50, 53]⟩], .tuple #[.float .f64 4598175219545276416, .agg #[.int .i64 0, .int .i64 0]]) :: aw18K0
theorem aw18A1 : KnowsAll Tryz.prog clE aw18K1 := ⟨aw18N1, aw18A0⟩
/-- gridwork/gridworklaw18.awake: 11261 operations. -/
theorem aw18N2 : Knows Tryz.prog clE 8 [] (.bool true) :=
  knows_more clMixed clOk clBase aw18A1 (K := 30) (d := 60) (n := 37) (by kernel_rfl)
end Go.Proofs.YtlaibmeokghdmaaGreatDoor
