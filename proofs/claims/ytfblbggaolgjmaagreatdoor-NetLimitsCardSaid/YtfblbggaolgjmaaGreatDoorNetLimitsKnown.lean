/- NetLimits: the calls that are known, each by a run. By program (mkcl.py). -/
import Derived.Test.YtfblbggaolgjmaaGreatDoorStart
namespace Go.Proofs.YtfblbggaolgjmaaGreatDoor
open Go.Ev
set_option maxRecDepth 1000000
set_option maxHeartbeats 4000000
noncomputable def netLimitsK0 : KT := []
theorem netLimitsA0 : KnowsAll Tryz.prog clE netLimitsK0 := trivial
/-- gridwork/quantity.Parse: 863 operations. -/
theorem netLimitsN1 : Knows Tryz.prog clE 78 [.string ⟨#[52, 46, 55, 107]⟩] (.tuple #[.float .f64 4661889719351640064, .agg #[.int .i64 0, .int .i64 0]]) :=
  knows_more clMixed clOk clBase netLimitsA0 (K := 30) (d := 60) (n := 37) (by kernel_rfl)
noncomputable def netLimitsK1 : KT := (78, [.string ⟨#[52, 46, 55, 107]⟩], .tuple #[.float .f64 4661889719351640064, .agg #[.int .i64 0, .int .i64 0]]) :: netLimitsK0
theorem netLimitsA1 : KnowsAll Tryz.prog clE netLimitsK1 := ⟨netLimitsN1, netLimitsA0⟩
/-- gridwork/quantity.Parse: 741 operations. -/
theorem netLimitsN2 : Knows Tryz.prog clE 78 [.string ⟨#[49, 48]⟩] (.tuple #[.float .f64 4621819117588971520, .agg #[.int .i64 0, .int .i64 0]]) :=
  knows_more clMixed clOk clBase netLimitsA1 (K := 30) (d := 60) (n := 37) (by kernel_rfl)
noncomputable def netLimitsK2 : KT := (78, [.string ⟨#[49, 48]⟩], .tuple #[.float .f64 4621819117588971520, .agg #[.int .i64 0, .int .i64 0]]) :: netLimitsK1
theorem netLimitsA2 : KnowsAll Tryz.prog clE netLimitsK2 := ⟨netLimitsN2, netLimitsA1⟩
/-- gridwork/quantity.Parse: 947 operations. -/
theorem netLimitsN3 : Knows Tryz.prog clE 78 [.string ⟨#[49, 48, 48, 110]⟩] (.tuple #[.float .f64 4502148214488346440, .agg #[.int .i64 0, .int .i64 0]]) :=
  knows_more clMixed clOk clBase netLimitsA2 (K := 30) (d := 60) (n := 37) (by kernel_rfl)
noncomputable def netLimitsK3 : KT := (78, [.string ⟨#[49, 48, 48, 110]⟩], .tuple #[.float .f64 4502148214488346440, .agg #[.int .i64 0, .int .i64 0]]) :: netLimitsK2
theorem netLimitsA3 : KnowsAll Tryz.prog clE netLimitsK3 := ⟨netLimitsN3, netLimitsA2⟩
/-- strconv.FormatFloat: 605 operations. -/
theorem netLimitsN4 : Knows Tryz.prog clE 141 [.float .f64 4661889719351640064, .int .u8 101, .int .i64 1, .int .i64 64] (.string ⟨#[52, 46, 55, 101, 43, 48, 51]⟩) :=
  knows_more clMixed clOk clBase netLimitsA3 (K := 30) (d := 60) (n := 37) (by kernel_rfl)
noncomputable def netLimitsK4 : KT := (141, [.float .f64 4661889719351640064, .int .u8 101, .int .i64 1, .int .i64 64], .string ⟨#[52, 46, 55, 101, 43, 48, 51]⟩) :: netLimitsK3
theorem netLimitsA4 : KnowsAll Tryz.prog clE netLimitsK4 := ⟨netLimitsN4, netLimitsA3⟩
/-- gridwork/quantity.Short: 2074 operations. -/
theorem netLimitsN5 : Knows Tryz.prog clE 106 [.float .f64 4661889719351640064] (.tuple #[.string ⟨#[52, 55]⟩, .int .i64 3, .int .i64 0]) :=
  knows_more clMixed clOk clBase netLimitsA4 (K := 30) (d := 60) (n := 37) (by kernel_rfl)
noncomputable def netLimitsK5 : KT := (106, [.float .f64 4661889719351640064], .tuple #[.string ⟨#[52, 55]⟩, .int .i64 3, .int .i64 0]) :: netLimitsK4
theorem netLimitsA5 : KnowsAll Tryz.prog clE netLimitsK5 := ⟨netLimitsN5, netLimitsA4⟩
/-- gridwork/quantity.Short: 1352 operations. -/
theorem netLimitsN6 : Knows Tryz.prog clE 106 [.float .f64 4621819117588971520] (.tuple #[.string ⟨#[49]⟩, .int .i64 1, .int .i64 0]) :=
  knows_more clMixed clOk clBase netLimitsA5 (K := 30) (d := 60) (n := 37) (by kernel_rfl)
noncomputable def netLimitsK6 : KT := (106, [.float .f64 4621819117588971520], .tuple #[.string ⟨#[49]⟩, .int .i64 1, .int .i64 0]) :: netLimitsK5
theorem netLimitsA6 : KnowsAll Tryz.prog clE netLimitsK6 := ⟨netLimitsN6, netLimitsA5⟩
/-- gridwork/quantity.Short: 1282 operations. -/
theorem netLimitsN7 : Knows Tryz.prog clE 106 [.float .f64 4502148214488346440] (.tuple #[.string ⟨#[49]⟩, .int .i64 (-7), .int .i64 0]) :=
  knows_more clMixed clOk clBase netLimitsA6 (K := 30) (d := 60) (n := 37) (by kernel_rfl)
noncomputable def netLimitsK7 : KT := (106, [.float .f64 4502148214488346440], .tuple #[.string ⟨#[49]⟩, .int .i64 (-7), .int .i64 0]) :: netLimitsK6
theorem netLimitsA7 : KnowsAll Tryz.prog clE netLimitsK7 := ⟨netLimitsN7, netLimitsA6⟩
/-- gridwork/gridworklaw15.awake: 5796 operations. -/
theorem netLimitsN8 : Knows Tryz.prog clE 9 [] (.bool true) :=
  knows_more clMixed clOk clBase netLimitsA7 (K := 30) (d := 60) (n := 37) (by kernel_rfl)
noncomputable def netLimitsK8 : KT := (9, [], .bool true) :: netLimitsK7
theorem netLimitsA8 : KnowsAll Tryz.prog clE netLimitsK8 := ⟨netLimitsN8, netLimitsA7⟩
def netLimitsU : List AU := []
/-- The law in pieces. -/
noncomputable def netLimitsE : Kn := clE.with netLimitsK8
theorem netLimitsOk : KnOk Tryz.prog netLimitsE := clOk.with netLimitsA8
theorem netLimitsB : Base netLimitsE clH := clBase.with _
noncomputable def netLimitsCf : CallF := callA Tryz.prog netLimitsE 30 60
theorem netLimitsCfOk : CfOk Tryz.prog netLimitsE netLimitsCf := callA_ok clMixed netLimitsOk 30 60
end Go.Proofs.YtfblbggaolgjmaaGreatDoor
