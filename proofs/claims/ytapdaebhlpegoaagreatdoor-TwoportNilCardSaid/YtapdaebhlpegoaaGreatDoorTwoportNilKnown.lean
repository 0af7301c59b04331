/- TwoportNil: the calls that are known, each by a run. By program (mkcl.py). -/
import Derived.Test.YtapdaebhlpegoaaGreatDoorStart
namespace Go.Proofs.YtapdaebhlpegoaaGreatDoor
open Go.Ev
set_option maxRecDepth 1000000
set_option maxHeartbeats 4000000
noncomputable def twoportNilK0 : KT := []
theorem twoportNilA0 : KnowsAll Tryz.prog clE twoportNilK0 := trivial
/-- gridwork/value.Of: 259 operations. -/
theorem twoportNilN1 : Knows Tryz.prog clE 91 [.int .u8 80] (.tuple #[.int .u8 8, .bool true]) :=
  knows_more clMixed clOk clBase twoportNilA0 (K := 30) (d := 60) (n := 37) (by kernel_rfl)
noncomputable def twoportNilK1 : KT := (91, [.int .u8 80], .tuple #[.int .u8 8, .bool true]) :: twoportNilK0
theorem twoportNilA1 : KnowsAll Tryz.prog clE twoportNilK1 := ⟨twoportNilN1, twoportNilA0⟩
/-- gridwork/quantity.cut: 150 operations. -/
theorem twoportNilN2 : Knows Tryz.prog clE 135 [.string ⟨#[49]⟩] (.tuple #[.int .i64 1, .int .i64 0, .int .i64 (-1)]) :=
  knows_more clMixed clOk clBase twoportNilA1 (K := 30) (d := 60) (n := 37) (by kernel_rfl)
noncomputable def twoportNilK2 : KT := (135, [.string ⟨#[49]⟩], .tuple #[.int .i64 1, .int .i64 0, .int .i64 (-1)]) :: twoportNilK1
theorem twoportNilA2 : KnowsAll Tryz.prog clE twoportNilK2 := ⟨twoportNilN2, twoportNilA1⟩
/-- internal/strconv.readFloat: 276 operations. -/
theorem twoportNilN3 : Knows Tryz.prog clE 220 [.string ⟨#[49, 101, 48]⟩] (.tuple #[.int .u64 1, .int .i64 0, .bool false, .bool false, .bool false, .int .i64 3, .bool true]) :=
  knows_more clMixed clOk clBase twoportNilA2 (K := 30) (d := 60) (n := 37) (by kernel_rfl)
noncomputable def twoportNilK3 : KT := (220, [.string ⟨#[49, 101, 48]⟩], .tuple #[.int .u64 1, .int .i64 0, .bool false, .bool false, .bool false, .int .i64 3, .bool true]) :: twoportNilK2
theorem twoportNilA3 : KnowsAll Tryz.prog clE twoportNilK3 := ⟨twoportNilN3, twoportNilA2⟩
/-- internal/strconv.parseFloatPrefix: 120 operations. -/
theorem twoportNilN4 : Knows Tryz.prog clE 178 [.string ⟨#[49, 101, 48]⟩, .int .i64 64] (.tuple #[.float .f64 4607182418800017408, .int .i64 3, .nilIface]) :=
  knows_more clMixed clOk clBase twoportNilA3 (K := 30) (d := 60) (n := 37) (by kernel_rfl)
noncomputable def twoportNilK4 : KT := (178, [.string ⟨#[49, 101, 48]⟩, .int .i64 64], .tuple #[.float .f64 4607182418800017408, .int .i64 3, .nilIface]) :: twoportNilK3
theorem twoportNilA4 : KnowsAll Tryz.prog clE twoportNilK4 := ⟨twoportNilN4, twoportNilA3⟩
/-- gridwork/value.Check: 282 operations. -/
theorem twoportNilN5 : Knows Tryz.prog clE 92 [.agg #[.int .u8 8, .string ⟨#[80, 49]⟩, .string ⟨#[97]⟩, .string ⟨#[48]⟩, .string ⟨#[]⟩, .string ⟨#[]⟩, .float .f64 4607182418800017408, .int .i64 0]] (.int .i64 0) :=
  knows_more clMixed clOk clBase twoportNilA4 (K := 30) (d := 60) (n := 37) (by kernel_rfl)
noncomputable def twoportNilK5 : KT := (92, [.agg #[.int .u8 8, .string ⟨#[80, 49]⟩, .string ⟨#[97]⟩, .string ⟨#[48]⟩, .string ⟨#[]⟩, .string ⟨#[]⟩, .float .f64 4607182418800017408, .int .i64 0]], .int .i64 0) :: twoportNilK4
theorem twoportNilA5 : KnowsAll Tryz.prog clE twoportNilK5 := ⟨twoportNilN5, twoportNilA4⟩
/-- gridwork/value.Check: 295 operations. -/
theorem twoportNilN6 : Knows Tryz.prog clE 92 [.agg #[.int .u8 1, .string ⟨#[82, 49]⟩, .string ⟨#[97]⟩, .string ⟨#[98]⟩, .string ⟨#[]⟩, .string ⟨#[]⟩, .float .f64 4607182418800017408, .int .i64 0]] (.int .i64 0) :=
  knows_more clMixed clOk clBase twoportNilA5 (K := 30) (d := 60) (n := 37) (by kernel_rfl)
noncomputable def twoportNilK6 : KT := (92, [.agg #[.int .u8 1, .string ⟨#[82, 49]⟩, .string ⟨#[97]⟩, .string ⟨#[98]⟩, .string ⟨#[]⟩, .string ⟨#[]⟩, .float .f64 4607182418800017408, .int .i64 0]], .int .i64 0) :: twoportNilK5
theorem twoportNilA6 : KnowsAll Tryz.prog clE twoportNilK6 := ⟨twoportNilN6, twoportNilA5⟩
/-- gridwork/value.Check: 282 operations. -/
theorem twoportNilN7 : Knows Tryz.prog clE 92 [.agg #[.int .u8 8, .string ⟨#[80, 50]⟩, .string ⟨#[98]⟩, .string ⟨#[48]⟩, .string ⟨#[]⟩, .string ⟨#[]⟩, .float .f64 4607182418800017408, .int .i64 0]] (.int .i64 0) :=
  knows_more clMixed clOk clBase twoportNilA6 (K := 30) (d := 60) (n := 37) (by kernel_rfl)
noncomputable def twoportNilK7 : KT := (92, [.agg #[.int .u8 8, .string ⟨#[80, 50]⟩, .string ⟨#[98]⟩, .string ⟨#[48]⟩, .string ⟨#[]⟩, .string ⟨#[]⟩, .float .f64 4607182418800017408, .int .i64 0]], .int .i64 0) :: twoportNilK6
theorem twoportNilA7 : KnowsAll Tryz.prog clE twoportNilK7 := ⟨twoportNilN7, twoportNilA6⟩
/-- gridwork/gridworklaw23.lives: 18349 operations. -/
theorem twoportNilN8 : Knows Tryz.prog clE 7 [] (.bool true) :=
  knows_more clMixed clOk clBase twoportNilA7 (K := 30) (d := 60) (n := 37) (by kernel_rfl)
noncomputable def twoportNilK8 : KT := (7, [], .bool true) :: twoportNilK7
theorem twoportNilA8 : KnowsAll Tryz.prog clE twoportNilK8 := ⟨twoportNilN8, twoportNilA7⟩
def twoportNilU : List AU := [.o .us, .o .us, .o (.ui .u64)]
/-- The law, of whatever arguments. -/
theorem twoportNilN9 {args : List Value} (hargs : ∀ ρ : Env, All2 (relU ρ) twoportNilU args) : Knows Tryz.prog clE 3 args (.bool true) :=
  knows_sym_more clMixed clOk clBase twoportNilA8 (K := 30) (d := 60) (n := 37) (us := twoportNilU) (by kernel_rfl) hargs
end Go.Proofs.YtapdaebhlpegoaaGreatDoor
