/- WaveNames: the calls that are known, each by a run. By program (mkcl.py). -/
import Derived.Test.YtammbcohbfhfjaaGreatDoorStart
namespace Go.Proofs.YtammbcohbfhfjaaGreatDoor
open Go.Ev
set_option maxRecDepth 1000000
set_option maxHeartbeats 4000000
noncomputable def waveNamesK0 : KT := []
theorem waveNamesA0 : KnowsAll Tryz.prog clE waveNamesK0 := trivial
/-- gridwork/value.Of: 148 operations. -/
theorem waveNamesN1 : Knows Tryz.prog clE 39 [.int .u8 86] (.tuple #[.int .u8 5, .bool true]) :=
  knows_more clMixed clOk clBase waveNamesA0 (K := 30) (d := 60) (n := 37) (by kernel_rfl)
noncomputable def waveNamesK1 : KT := (39, [.int .u8 86], .tuple #[.int .u8 5, .bool true]) :: waveNamesK0
theorem waveNamesA1 : KnowsAll Tryz.prog clE waveNamesK1 := ⟨waveNamesN1, waveNamesA0⟩
/-- gridwork/quantity.cut: 150 operations. -/
theorem waveNamesN2 : Knows Tryz.prog clE 91 [.string ⟨#[51]⟩] (.tuple #[.int .i64 1, .int .i64 0, .int .i64 (-1)]) :=
  knows_more clMixed clOk clBase waveNamesA1 (K := 30) (d := 60) (n := 37) (by kernel_rfl)
noncomputable def waveNamesK2 : KT := (91, [.string ⟨#[51]⟩], .tuple #[.int .i64 1, .int .i64 0, .int .i64 (-1)]) :: waveNamesK1
theorem waveNamesA2 : KnowsAll Tryz.prog clE waveNamesK2 := ⟨waveNamesN2, waveNamesA1⟩
/-- internal/strconv.readFloat: 276 operations. -/
theorem waveNamesN3 : Knows Tryz.prog clE 208 [.string ⟨#[51, 101, 48]⟩] (.tuple #[.int .u64 3, .int .i64 0, .bool false, .bool false, .bool false, .int .i64 3, .bool true]) :=
  knows_more clMixed clOk clBase waveNamesA2 (K := 30) (d := 60) (n := 37) (by kernel_rfl)
noncomputable def waveNamesK3 : KT := (208, [.string ⟨#[51, 101, 48]⟩], .tuple #[.int .u64 3, .int .i64 0, .bool false, .bool false, .bool false, .int .i64 3, .bool true]) :: waveNamesK2
theorem waveNamesA3 : KnowsAll Tryz.prog clE waveNamesK3 := ⟨waveNamesN3, waveNamesA2⟩
/-- internal/strconv.parseFloatPrefix: 120 operations. -/
theorem waveNamesN4 : Knows Tryz.prog clE 158 [.string ⟨#[51, 101, 48]⟩, .int .i64 64] (.tuple #[.float .f64 4613937818241073152, .int .i64 3, .nilIface]) :=
  knows_more clMixed clOk clBase waveNamesA3 (K := 30) (d := 60) (n := 37) (by kernel_rfl)
noncomputable def waveNamesK4 : KT := (158, [.string ⟨#[51, 101, 48]⟩, .int .i64 64], .tuple #[.float .f64 4613937818241073152, .int .i64 3, .nilIface]) :: waveNamesK3
theorem waveNamesA4 : KnowsAll Tryz.prog clE waveNamesK4 := ⟨waveNamesN4, waveNamesA3⟩
/-- gridwork/quantity.cut: 150 operations. -/
theorem waveNamesN5 : Knows Tryz.prog clE 91 [.string ⟨#[49]⟩] (.tuple #[.int .i64 1, .int .i64 0, .int .i64 (-1)]) :=
  knows_more clMixed clOk clBase waveNamesA4 (K := 30) (d := 60) (n := 37) (by kernel_rfl)
noncomputable def waveNamesK5 : KT := (91, [.string ⟨#[49]⟩], .tuple #[.int .i64 1, .int .i64 0, .int .i64 (-1)]) :: waveNamesK4
theorem waveNamesA5 : KnowsAll Tryz.prog clE waveNamesK5 := ⟨waveNamesN5, waveNamesA4⟩
/-- internal/strconv.readFloat: 276 operations. -/
theorem waveNamesN6 : Knows Tryz.prog clE 208 [.string ⟨#[49, 101, 48]⟩] (.tuple #[.int .u64 1, .int .i64 0, .bool false, .bool false, .bool false, .int .i64 3, .bool true]) :=
  knows_more clMixed clOk clBase waveNamesA5 (K := 30) (d := 60) (n := 37) (by kernel_rfl)
noncomputable def waveNamesK6 : KT := (208, [.string ⟨#[49, 101, 48]⟩], .tuple #[.int .u64 1, .int .i64 0, .bool false, .bool false, .bool false, .int .i64 3, .bool true]) :: waveNamesK5
theorem waveNamesA6 : KnowsAll Tryz.prog clE waveNamesK6 := ⟨waveNamesN6, waveNamesA5⟩
/-- internal/strconv.parseFloatPrefix: 120 operations. -/
theorem waveNamesN7 : Knows Tryz.prog clE 158 [.string ⟨#[49, 101, 48]⟩, .int .i64 64] (.tuple #[.float .f64 4607182418800017408, .int .i64 3, .nilIface]) :=
  knows_more clMixed clOk clBase waveNamesA6 (K := 30) (d := 60) (n := 37) (by kernel_rfl)
noncomputable def waveNamesK7 : KT := (158, [.string ⟨#[49, 101, 48]⟩, .int .i64 64], .tuple #[.float .f64 4607182418800017408, .int .i64 3, .nilIface]) :: waveNamesK6
theorem waveNamesA7 : KnowsAll Tryz.prog clE waveNamesK7 := ⟨waveNamesN7, waveNamesA6⟩
/-- gridwork/value.Check: 276 operations. -/
theorem waveNamesN8 : Knows Tryz.prog clE 40 [.agg #[.int .u8 5, .string ⟨#[86, 49]⟩, .string ⟨#[97]⟩, .string ⟨#[48]⟩, .string ⟨#[]⟩, .string ⟨#[]⟩, .float .f64 4613937818241073152, .int .i64 0]] (.int .i64 0) :=
  knows_more clMixed clOk clBase waveNamesA7 (K := 30) (d := 60) (n := 37) (by kernel_rfl)
noncomputable def waveNamesK8 : KT := (40, [.agg #[.int .u8 5, .string ⟨#[86, 49]⟩, .string ⟨#[97]⟩, .string ⟨#[48]⟩, .string ⟨#[]⟩, .string ⟨#[]⟩, .float .f64 4613937818241073152, .int .i64 0]], .int .i64 0) :: waveNamesK7
theorem waveNamesA8 : KnowsAll Tryz.prog clE waveNamesK8 := ⟨waveNamesN8, waveNamesA7⟩
/-- gridwork/value.Check: 295 operations. -/
theorem waveNamesN9 : Knows Tryz.prog clE 40 [.agg #[.int .u8 1, .string ⟨#[82, 49]⟩, .string ⟨#[97]⟩, .string ⟨#[48]⟩, .string ⟨#[]⟩, .string ⟨#[]⟩, .float .f64 4607182418800017408, .int .i64 0]] (.int .i64 0) :=
  knows_more clMixed clOk clBase waveNamesA8 (K := 30) (d := 60) (n := 37) (by kernel_rfl)
noncomputable def waveNamesK9 : KT := (40, [.agg #[.int .u8 1, .string ⟨#[82, 49]⟩, .string ⟨#[97]⟩, .string ⟨#[48]⟩, .string ⟨#[]⟩, .string ⟨#[]⟩, .float .f64 4607182418800017408, .int .i64 0]], .int .i64 0) :: waveNamesK8
theorem waveNamesA9 : KnowsAll Tryz.prog clE waveNamesK9 := ⟨waveNamesN9, waveNamesA8⟩
/-- gridwork/gridworklaw30.awake: 2154 operations. -/
theorem waveNamesN10 : Knows Tryz.prog clE 11 [] (.bool true) :=
  knows_more clMixed clOk clBase waveNamesA9 (K := 30) (d := 60) (n := 37) (by kernel_rfl)
noncomputable def waveNamesK10 : KT := (11, [], .bool true) :: waveNamesK9
theorem waveNamesA10 : KnowsAll Tryz.prog clE waveNamesK10 := ⟨waveNamesN10, waveNamesA9⟩
def waveNamesU : List AU := []
/-- The law in pieces. -/
noncomputable def waveNamesE : Kn := clE.with waveNamesK10
theorem waveNamesOk : KnOk Tryz.prog waveNamesE := clOk.with waveNamesA10
theorem waveNamesB : Base waveNamesE clH := clBase.with _
noncomputable def waveNamesCf : CallF := callA Tryz.prog waveNamesE 30 60
theorem waveNamesCfOk : CfOk Tryz.prog waveNamesE waveNamesCf := callA_ok clMixed waveNamesOk 30 60
end Go.Proofs.YtammbcohbfhfjaaGreatDoor
