/- NetNames: the calls that are known, each by a run. By program (mkcl.py). -/
import Derived.Test.YtlfkfnmfpaggoaaGreatDoorStart
namespace Go.Proofs.YtlfkfnmfpaggoaaGreatDoor
open Go.Ev
set_option maxRecDepth 1000000
set_option maxHeartbeats 4000000
noncomputable def netNamesK0 : KT := []
theorem netNamesA0 : KnowsAll Tryz.prog clE netNamesK0 := trivial
/-- gridwork/quantity.Parse: 947 operations. -/
theorem netNamesN1 : Knows Tryz.prog clE 48 [.string ⟨#[49, 48, 48, 110]⟩] (.tuple #[.float .f64 4502148214488346440, .agg #[.int .i64 0, .int .i64 0]]) :=
  knows_more clMixed clOk clBase netNamesA0 (K := 30) (d := 60) (n := 37) (by kernel_rfl)
noncomputable def netNamesK1 : KT := (48, [.string ⟨#[49, 48, 48, 110]⟩], .tuple #[.float .f64 4502148214488346440, .agg #[.int .i64 0, .int .i64 0]]) :: netNamesK0
theorem netNamesA1 : KnowsAll Tryz.prog clE netNamesK1 := ⟨netNamesN1, netNamesA0⟩
/-- gridwork/netlist.Parse: 983 operations. -/
theorem netNamesN2 : Knows Tryz.prog clE 4 [.string ⟨#[88, 49, 32, 97, 32, 98, 32, 49]⟩] (.tuple #[.pointer none, .agg #[.int .i64 8, .int .i64 0]]) :=
  knows_more clMixed clOk clBase netNamesA1 (K := 30) (d := 60) (n := 37) (by kernel_rfl)
noncomputable def netNamesK2 : KT := (4, [.string ⟨#[88, 49, 32, 97, 32, 98, 32, 49]⟩], .tuple #[.pointer none, .agg #[.int .i64 8, .int .i64 0]]) :: netNamesK1
theorem netNamesA2 : KnowsAll Tryz.prog clE netNamesK2 := ⟨netNamesN2, netNamesA1⟩
/-- gridwork/gridworklaw15.refused: 904 operations. -/
theorem netNamesN3 : Knows Tryz.prog clE 11 [.string ⟨#[82, 49, 32, 97, 32, 98, 32, 49, 32, 50]⟩, .int .i64 4, .int .i64 0] (.bool true) :=
  knows_more clMixed clOk clBase netNamesA2 (K := 30) (d := 60) (n := 37) (by kernel_rfl)
noncomputable def netNamesK3 : KT := (11, [.string ⟨#[82, 49, 32, 97, 32, 98, 32, 49, 32, 50]⟩, .int .i64 4, .int .i64 0], .bool true) :: netNamesK2
theorem netNamesA3 : KnowsAll Tryz.prog clE netNamesK3 := ⟨netNamesN3, netNamesA2⟩
/-- gridwork/netlist.Parse: 1790 operations. -/
theorem netNamesN4 : Knows Tryz.prog clE 4 [.string ⟨#[73, 49, 32, 97, 32, 98, 32, 49, 32, 48, 51]⟩] (.tuple #[.pointer none, .agg #[.int .i64 2, .int .i64 0]]) :=
  knows_more clMixed clOk clBase netNamesA3 (K := 30) (d := 60) (n := 37) (by kernel_rfl)
noncomputable def netNamesK4 : KT := (4, [.string ⟨#[73, 49, 32, 97, 32, 98, 32, 49, 32, 48, 51]⟩], .tuple #[.pointer none, .agg #[.int .i64 2, .int .i64 0]]) :: netNamesK3
theorem netNamesA4 : KnowsAll Tryz.prog clE netNamesK4 := ⟨netNamesN4, netNamesA3⟩
/-- gridwork/netlist.Parse: 1793 operations. -/
theorem netNamesN5 : Knows Tryz.prog clE 4 [.string ⟨#[73, 49, 32, 97, 32, 98, 32, 49, 32, 45, 48]⟩] (.tuple #[.pointer none, .agg #[.int .i64 2, .int .i64 0]]) :=
  knows_more clMixed clOk clBase netNamesA4 (K := 30) (d := 60) (n := 37) (by kernel_rfl)
noncomputable def netNamesK5 : KT := (4, [.string ⟨#[73, 49, 32, 97, 32, 98, 32, 49, 32, 45, 48]⟩], .tuple #[.pointer none, .agg #[.int .i64 2, .int .i64 0]]) :: netNamesK4
theorem netNamesA5 : KnowsAll Tryz.prog clE netNamesK5 := ⟨netNamesN5, netNamesA4⟩
/-- internal/strconv.ParseUint: 1000 operations. -/
theorem netNamesN6 : Knows Tryz.prog clE 83 [.string ⟨#[57, 50, 50, 51, 51, 55, 50, 48, 51, 54, 56, 53, 52, 55, 55, 53, 56, 48, 56]⟩, .int .i64 10, .int .i64 64] (.tuple #[.int .u64 9223372036854775808, .nilIface]) :=
  knows_more clMixed clOk clBase netNamesA5 (K := 30) (d := 60) (n := 37) (by kernel_rfl)
noncomputable def netNamesK6 : KT := (83, [.string ⟨#[57, 50, 50, 51, 51, 55, 50, 48, 51, 54, 56, 53, 52, 55, 55, 53, 56, 48, 56]⟩, .int .i64 10, .int .i64 64], .tuple #[.int .u64 9223372036854775808, .nilIface]) :: netNamesK5
theorem netNamesA6 : KnowsAll Tryz.prog clE netNamesK6 := ⟨netNamesN6, netNamesA5⟩
/-- gridwork/netlist.Parse: 3001 operations. -/
theorem netNamesN7 : Knows Tryz.prog clE 4 [.string ⟨#[86, 49, 32, 97, 32, 98, 32, 49, 32, 57, 50, 50, 51, 51, 55, 50, 48, 51, 54, 56, 53, 52, 55, 55, 53, 56, 48, 56]⟩] (.tuple #[.pointer none, .agg #[.int .i64 2, .int .i64 0]]) :=
  knows_more clMixed clOk clBase netNamesA6 (K := 30) (d := 60) (n := 37) (by kernel_rfl)
noncomputable def netNamesK7 : KT := (4, [.string ⟨#[86, 49, 32, 97, 32, 98, 32, 49, 32, 57, 50, 50, 51, 51, 55, 50, 48, 51, 54, 56, 53, 52, 55, 55, 53, 56, 48, 56]⟩], .tuple #[.pointer none, .agg #[.int .i64 2, .int .i64 0]]) :: netNamesK6
theorem netNamesA7 : KnowsAll Tryz.prog clE netNamesK7 := ⟨netNamesN7, netNamesA6⟩
/-- gridwork/netlist.Parse: 1946 operations. -/
theorem netNamesN8 : Knows Tryz.prog clE 4 [.string ⟨#[10, 82, 49, 32, 97, 32, 97, 32, 49]⟩] (.tuple #[.pointer none, .agg #[.int .i64 2, .int .i64 1]]) :=
  knows_more clMixed clOk clBase netNamesA7 (K := 30) (d := 60) (n := 37) (by kernel_rfl)
noncomputable def netNamesK8 : KT := (4, [.string ⟨#[10, 82, 49, 32, 97, 32, 97, 32, 49]⟩], .tuple #[.pointer none, .agg #[.int .i64 2, .int .i64 1]]) :: netNamesK7
theorem netNamesA8 : KnowsAll Tryz.prog clE netNamesK8 := ⟨netNamesN8, netNamesA7⟩
/-- gridwork/netlist.Parse: 3784 operations. -/
theorem netNamesN9 : Knows Tryz.prog clE 4 [.string ⟨#[82, 49, 32, 97, 32, 98, 32, 49, 10, 82, 49, 32, 98, 32, 99, 32, 49]⟩] (.tuple #[.pointer none, .agg #[.int .i64 9, .int .i64 1]]) :=
  knows_more clMixed clOk clBase netNamesA8 (K := 30) (d := 60) (n := 37) (by kernel_rfl)
noncomputable def netNamesK9 : KT := (4, [.string ⟨#[82, 49, 32, 97, 32, 98, 32, 49, 10, 82, 49, 32, 98, 32, 99, 32, 49]⟩], .tuple #[.pointer none, .agg #[.int .i64 9, .int .i64 1]]) :: netNamesK8
theorem netNamesA9 : KnowsAll Tryz.prog clE netNamesK9 := ⟨netNamesN9, netNamesA8⟩
/-- gridwork/netlist.Parse: 924 operations. -/
theorem netNamesN10 : Knows Tryz.prog clE 4 [.string ⟨#[82, 49, 32, 97, 32, 98, 32, 120]⟩] (.tuple #[.pointer none, .agg #[.int .i64 150, .int .i64 0]]) :=
  knows_more clMixed clOk clBase netNamesA9 (K := 30) (d := 60) (n := 37) (by kernel_rfl)
noncomputable def netNamesK10 : KT := (4, [.string ⟨#[82, 49, 32, 97, 32, 98, 32, 120]⟩], .tuple #[.pointer none, .agg #[.int .i64 150, .int .i64 0]]) :: netNamesK9
theorem netNamesA10 : KnowsAll Tryz.prog clE netNamesK10 := ⟨netNamesN10, netNamesA9⟩
/-- gridwork/quantity.Short: 2678 operations. -/
theorem netNamesN11 : Knows Tryz.prog clE 60 [.float .f64 4661889719351640064] (.tuple #[.string ⟨#[52, 55]⟩, .int .i64 3, .int .i64 0]) :=
  knows_more clMixed clOk clBase netNamesA10 (K := 30) (d := 60) (n := 37) (by kernel_rfl)
noncomputable def netNamesK11 : KT := (60, [.float .f64 4661889719351640064], .tuple #[.string ⟨#[52, 55]⟩, .int .i64 3, .int .i64 0]) :: netNamesK10
theorem netNamesA11 : KnowsAll Tryz.prog clE netNamesK11 := ⟨netNamesN11, netNamesA10⟩
/-- gridwork/quantity.Short: 1352 operations. -/
theorem netNamesN12 : Knows Tryz.prog clE 60 [.float .f64 4621819117588971520] (.tuple #[.string ⟨#[49]⟩, .int .i64 1, .int .i64 0]) :=
  knows_more clMixed clOk clBase netNamesA11 (K := 30) (d := 60) (n := 37) (by kernel_rfl)
noncomputable def netNamesK12 : KT := (60, [.float .f64 4621819117588971520], .tuple #[.string ⟨#[49]⟩, .int .i64 1, .int .i64 0]) :: netNamesK11
theorem netNamesA12 : KnowsAll Tryz.prog clE netNamesK12 := ⟨netNamesN12, netNamesA11⟩
/-- gridwork/quantity.Short: 1282 operations. -/
theorem netNamesN13 : Knows Tryz.prog clE 60 [.float .f64 4502148214488346440] (.tuple #[.string ⟨#[49]⟩, .int .i64 (-7), .int .i64 0]) :=
  knows_more clMixed clOk clBase netNamesA12 (K := 30) (d := 60) (n := 37) (by kernel_rfl)
noncomputable def netNamesK13 : KT := (60, [.float .f64 4502148214488346440], .tuple #[.string ⟨#[49]⟩, .int .i64 (-7), .int .i64 0]) :: netNamesK12
theorem netNamesA13 : KnowsAll Tryz.prog clE netNamesK13 := ⟨netNamesN13, netNamesA12⟩
/-- gridwork/gridworklaw15.awake: 7398 operations. -/
theorem netNamesN14 : Knows Tryz.prog clE 18 [] (.bool true) :=
  knows_more clMixed clOk clBase netNamesA13 (K := 30) (d := 60) (n := 37) (by kernel_rfl)
noncomputable def netNamesK14 : KT := (18, [], .bool true) :: netNamesK13
theorem netNamesA14 : KnowsAll Tryz.prog clE netNamesK14 := ⟨netNamesN14, netNamesA13⟩
/-- gridwork/gridworklaw15.NetNames: 13851 operations. -/
theorem netNamesN15 : Knows Tryz.prog clE 3 [] (.bool true) :=
  knows_more clMixed clOk clBase netNamesA14 (K := 30) (d := 60) (n := 37) (by kernel_rfl)
end Go.Proofs.YtlfkfnmfpaggoaaGreatDoor
