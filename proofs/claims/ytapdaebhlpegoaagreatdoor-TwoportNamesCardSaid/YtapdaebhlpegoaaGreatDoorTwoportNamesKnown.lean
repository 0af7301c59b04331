/- TwoportNames: the calls that are known, each by a run. By program (mkcl.py). -/
import Derived.Test.YtapdaebhlpegoaaGreatDoorStart
namespace Go.Proofs.YtapdaebhlpegoaaGreatDoor
open Go.Ev
set_option maxRecDepth 1000000
set_option maxHeartbeats 4000000
noncomputable def twoportNamesK0 : KT := []
theorem twoportNamesA0 : KnowsAll Tryz.prog clE twoportNamesK0 := trivial
/-- gridwork/value.Of: 259 operations. -/
theorem twoportNamesN1 : Knows Tryz.prog clE 91 [.int .u8 80] (.tuple #[.int .u8 8, .bool true]) :=
  knows_more clMixed clOk clBase twoportNamesA0 (K := 30) (d := 60) (n := 37) (by kernel_rfl)
noncomputable def twoportNamesK1 : KT := (91, [.int .u8 80], .tuple #[.int .u8 8, .bool true]) :: twoportNamesK0
theorem twoportNamesA1 : KnowsAll Tryz.prog clE twoportNamesK1 := ⟨twoportNamesN1, twoportNamesA0⟩
/-- gridwork/quantity.cut: 150 operations. -/
theorem twoportNamesN2 : Knows Tryz.prog clE 135 [.string ⟨#[49]⟩] (.tuple #[.int .i64 1, .int .i64 0, .int .i64 (-1)]) :=
  knows_more clMixed clOk clBase twoportNamesA1 (K := 30) (d := 60) (n := 37) (by kernel_rfl)
noncomputable def twoportNamesK2 : KT := (135, [.string ⟨#[49]⟩], .tuple #[.int .i64 1, .int .i64 0, .int .i64 (-1)]) :: twoportNamesK1
theorem twoportNamesA2 : KnowsAll Tryz.prog clE twoportNamesK2 := ⟨twoportNamesN2, twoportNamesA1⟩
/-- internal/strconv.readFloat: 276 operations. -/
theorem twoportNamesN3 : Knows Tryz.prog clE 220 [.string ⟨#[49, 101, 48]⟩] (.tuple #[.int .u64 1, .int .i64 0, .bool false, .bool false, .bool false, .int .i64 3, .bool true]) :=
  knows_more clMixed clOk clBase twoportNamesA2 (K := 30) (d := 60) (n := 37) (by kernel_rfl)
noncomputable def twoportNamesK3 : KT := (220, [.string ⟨#[49, 101, 48]⟩], .tuple #[.int .u64 1, .int .i64 0, .bool false, .bool false, .bool false, .int .i64 3, .bool true]) :: twoportNamesK2
theorem twoportNamesA3 : KnowsAll Tryz.prog clE twoportNamesK3 := ⟨twoportNamesN3, twoportNamesA2⟩
/-- internal/strconv.parseFloatPrefix: 120 operations. -/
theorem twoportNamesN4 : Knows Tryz.prog clE 178 [.string ⟨#[49, 101, 48]⟩, .int .i64 64] (.tuple #[.float .f64 4607182418800017408, .int .i64 3, .nilIface]) :=
  knows_more clMixed clOk clBase twoportNamesA3 (K := 30) (d := 60) (n := 37) (by kernel_rfl)
noncomputable def twoportNamesK4 : KT := (178, [.string ⟨#[49, 101, 48]⟩, .int .i64 64], .tuple #[.float .f64 4607182418800017408, .int .i64 3, .nilIface]) :: twoportNamesK3
theorem twoportNamesA4 : KnowsAll Tryz.prog clE twoportNamesK4 := ⟨twoportNamesN4, twoportNamesA3⟩
/-- gridwork/value.Check: 282 operations. -/
theorem twoportNamesN5 : Knows Tryz.prog clE 92 [.agg #[.int .u8 8, .string ⟨#[80, 49]⟩, .string ⟨#[97]⟩, .string ⟨#[48]⟩, .string ⟨#[]⟩, .string ⟨#[]⟩, .float .f64 4607182418800017408, .int .i64 0]] (.int .i64 0) :=
  knows_more clMixed clOk clBase twoportNamesA4 (K := 30) (d := 60) (n := 37) (by kernel_rfl)
noncomputable def twoportNamesK5 : KT := (92, [.agg #[.int .u8 8, .string ⟨#[80, 49]⟩, .string ⟨#[97]⟩, .string ⟨#[48]⟩, .string ⟨#[]⟩, .string ⟨#[]⟩, .float .f64 4607182418800017408, .int .i64 0]], .int .i64 0) :: twoportNamesK4
theorem twoportNamesA5 : KnowsAll Tryz.prog clE twoportNamesK5 := ⟨twoportNamesN5, twoportNamesA4⟩
/-- gridwork/value.Check: 295 operations. -/
theorem twoportNamesN6 : Knows Tryz.prog clE 92 [.agg #[.int .u8 1, .string ⟨#[82, 49]⟩, .string ⟨#[97]⟩, .string ⟨#[98]⟩, .string ⟨#[]⟩, .string ⟨#[]⟩, .float .f64 4607182418800017408, .int .i64 0]] (.int .i64 0) :=
  knows_more clMixed clOk clBase twoportNamesA5 (K := 30) (d := 60) (n := 37) (by kernel_rfl)
noncomputable def twoportNamesK6 : KT := (92, [.agg #[.int .u8 1, .string ⟨#[82, 49]⟩, .string ⟨#[97]⟩, .string ⟨#[98]⟩, .string ⟨#[]⟩, .string ⟨#[]⟩, .float .f64 4607182418800017408, .int .i64 0]], .int .i64 0) :: twoportNamesK5
theorem twoportNamesA6 : KnowsAll Tryz.prog clE twoportNamesK6 := ⟨twoportNamesN6, twoportNamesA5⟩
/-- gridwork/value.Check: 282 operations. -/
theorem twoportNamesN7 : Knows Tryz.prog clE 92 [.agg #[.int .u8 8, .string ⟨#[80, 50]⟩, .string ⟨#[98]⟩, .string ⟨#[48]⟩, .string ⟨#[]⟩, .string ⟨#[]⟩, .float .f64 4607182418800017408, .int .i64 0]] (.int .i64 0) :=
  knows_more clMixed clOk clBase twoportNamesA6 (K := 30) (d := 60) (n := 37) (by kernel_rfl)
noncomputable def twoportNamesK7 : KT := (92, [.agg #[.int .u8 8, .string ⟨#[80, 50]⟩, .string ⟨#[98]⟩, .string ⟨#[48]⟩, .string ⟨#[]⟩, .string ⟨#[]⟩, .float .f64 4607182418800017408, .int .i64 0]], .int .i64 0) :: twoportNamesK6
theorem twoportNamesA7 : KnowsAll Tryz.prog clE twoportNamesK7 := ⟨twoportNamesN7, twoportNamesA6⟩
/-- gridwork/gridworklaw23.lives: 18349 operations. -/
theorem twoportNamesN8 : Knows Tryz.prog clE 7 [] (.bool true) :=
  knows_more clMixed clOk clBase twoportNamesA7 (K := 30) (d := 60) (n := 37) (by kernel_rfl)
noncomputable def twoportNamesK8 : KT := (7, [], .bool true) :: twoportNamesK7
theorem twoportNamesA8 : KnowsAll Tryz.prog clE twoportNamesK8 := ⟨twoportNamesN8, twoportNamesA7⟩
/-- gridwork/gridworklaw23.TwoportNames: 11256 operations. -/
theorem twoportNamesN9 : Knows Tryz.prog clE 4 [] (.bool true) :=
  knows_more clMixed clOk clBase twoportNamesA8 (K := 30) (d := 60) (n := 37) (by kernel_rfl)
end Go.Proofs.YtapdaebhlpegoaaGreatDoor
