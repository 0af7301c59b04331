/- StampNames: the calls that are known, each by a run. By program (mkcl.py). -/
import Derived.Test.YtggmbjlgcpkngaaGreatDoorStart
namespace Go.Proofs.YtggmbjlgcpkngaaGreatDoor
open Go.Ev
set_option maxRecDepth 1000000
set_option maxHeartbeats 4000000
noncomputable def stampNamesK0 : KT := []
theorem stampNamesA0 : KnowsAll Tryz.prog clE stampNamesK0 := trivial
/-- gridwork/quantity.Parse: 900 operations. -/
theorem stampNamesN1 : Knows Tryz.prog clE 95 [.string ⟨#[48, 46, 50, 53]⟩] (.tuple #[.float .f64 4598175219545276416, .agg #[.int .i64 0, .int .i64 0]]) :=
  knows_more clMixed clOk clBase stampNamesA0 (K := 30) (d := 60) (n := 37) (by kernel_rfl)
noncomputable def stampNamesK1 : KT := (95, [.string ⟨#[48, 46, 50, 53]⟩], .tuple #[.float .f64 4598175219545276416, .agg #[.int .i64 0, .int .i64 0]]) :: stampNamesK0
theorem stampNamesA1 : KnowsAll Tryz.prog clE stampNamesK1 := ⟨stampNamesN1, stampNamesA0⟩
/-- gridwork/gridworklaw18.awake: 11261 operations. -/
theorem stampNamesN2 : Knows Tryz.prog clE 16 [] (.bool true) :=
  knows_more clMixed clOk clBase stampNamesA1 (K := 30) (d := 60) (n := 37) (by kernel_rfl)
noncomputable def stampNamesK2 : KT := (16, [], .bool true) :: stampNamesK1
theorem stampNamesA2 : KnowsAll Tryz.prog clE stampNamesK2 := ⟨stampNamesN2, stampNamesA1⟩
/-- gridwork/gridworklaw18.StampNames: 22664 operations. -/
theorem stampNamesN3 : Knows Tryz.prog clE 3 [] (.bool true) :=
  knows_more clMixed clOk clBase stampNamesA2 (K := 30) (d := 60) (n := 37) (by kernel_rfl)
end Go.Proofs.YtggmbjlgcpkngaaGreatDoor
