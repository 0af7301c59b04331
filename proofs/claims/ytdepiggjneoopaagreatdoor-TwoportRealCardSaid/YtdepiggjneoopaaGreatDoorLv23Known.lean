/- Lv23: the calls that are known, each by a run. By program (mkcl.py). -/
import Derived.Test.YtdepiggjneoopaaGreatDoorStart
namespace Go.Proofs.YtdepiggjneoopaaGreatDoor
open Go.Ev
set_option maxRecDepth 1000000
set_option maxHeartbeats 4000000
noncomputable def lv23K0 : KT := []
theorem lv23A0 : KnowsAll Tryz.prog clE lv23K0 := trivial
/-- internal/strconv.atof64: 382 operations. -/
theorem lv23N1 : Knows Tryz.prog clE 228 [.string ⟨#[49, 101, 48]⟩] (.tuple #[.float .f64 4607182418800017408, .int .i64 3, .nilIface]) :=
  knows_more clMixed clOk clBase lv23A0 (K := 30) (d := 60) (n := 37) (by kernel_rfl)
noncomputable def lv23K1 : KT := (228, [.string ⟨#[49, 101, 48]⟩], .tuple #[.float .f64 4607182418800017408, .int .i64 3, .nilIface]) :: lv23K0
theorem lv23A1 : KnowsAll Tryz.prog clE lv23K1 := ⟨lv23N1, lv23A0⟩
/-- gridwork/value.Name: 310 operations. -/
theorem lv23N2 : Knows Tryz.prog clE 58 [.string ⟨#[80, 49]⟩] (.tuple #[.int .u8 8, .bool true]) :=
  knows_more clMixed clOk clBase lv23A1 (K := 30) (d := 60) (n := 37) (by kernel_rfl)
noncomputable def lv23K2 : KT := (58, [.string ⟨#[80, 49]⟩], .tuple #[.int .u8 8, .bool true]) :: lv23K1
theorem lv23A2 : KnowsAll Tryz.prog clE lv23K2 := ⟨lv23N2, lv23A1⟩
/-- gridwork/value.Name: 310 operations. -/
theorem lv23N3 : Knows Tryz.prog clE 58 [.string ⟨#[80, 50]⟩] (.tuple #[.int .u8 8, .bool true]) :=
  knows_more clMixed clOk clBase lv23A2 (K := 30) (d := 60) (n := 37) (by kernel_rfl)
noncomputable def lv23K3 : KT := (58, [.string ⟨#[80, 50]⟩], .tuple #[.int .u8 8, .bool true]) :: lv23K2
theorem lv23A3 : KnowsAll Tryz.prog clE lv23K3 := ⟨lv23N3, lv23A2⟩
/-- gridwork/admit.reckon: 306 operations. -/
theorem lv23N4 : Knows Tryz.prog clE 154 [.agg #[.int .u8 8, .string ⟨#[80, 49]⟩, .string ⟨#[97]⟩, .string ⟨#[48]⟩, .string ⟨#[]⟩, .string ⟨#[]⟩, .float .f64 4607182418800017408, .int .i64 0], .float .f64 4607182418800017408, .bool true] (.tuple #[.complex .f64 4607182418800017408 0, .int .i64 0]) :=
  knows_more clMixed clOk clBase lv23A3 (K := 30) (d := 60) (n := 37) (by kernel_rfl)
noncomputable def lv23K4 : KT := (154, [.agg #[.int .u8 8, .string ⟨#[80, 49]⟩, .string ⟨#[97]⟩, .string ⟨#[48]⟩, .string ⟨#[]⟩, .string ⟨#[]⟩, .float .f64 4607182418800017408, .int .i64 0], .float .f64 4607182418800017408, .bool true], .tuple #[.complex .f64 4607182418800017408 0, .int .i64 0]) :: lv23K3
theorem lv23A4 : KnowsAll Tryz.prog clE lv23K4 := ⟨lv23N4, lv23A3⟩
/-- gridwork/admit.reckon: 368 operations. -/
theorem lv23N5 : Knows Tryz.prog clE 154 [.agg #[.int .u8 1, .string ⟨#[82, 49]⟩, .string ⟨#[97]⟩, .string ⟨#[98]⟩, .string ⟨#[]⟩, .string ⟨#[]⟩, .float .f64 4607182418800017408, .int .i64 0], .float .f64 4607182418800017408, .bool true] (.tuple #[.complex .f64 4607182418800017408 0, .int .i64 0]) :=
  knows_more clMixed clOk clBase lv23A4 (K := 30) (d := 60) (n := 37) (by kernel_rfl)
noncomputable def lv23K5 : KT := (154, [.agg #[.int .u8 1, .string ⟨#[82, 49]⟩, .string ⟨#[97]⟩, .string ⟨#[98]⟩, .string ⟨#[]⟩, .string ⟨#[]⟩, .float .f64 4607182418800017408, .int .i64 0], .float .f64 4607182418800017408, .bool true], .tuple #[.complex .f64 4607182418800017408 0, .int .i64 0]) :: lv23K4
theorem lv23A5 : KnowsAll Tryz.prog clE lv23K5 := ⟨lv23N5, lv23A4⟩
/-- gridwork/admit.reckon: 306 operations. -/
theorem lv23N6 : Knows Tryz.prog clE 154 [.agg #[.int .u8 8, .string ⟨#[80, 50]⟩, .string ⟨#[98]⟩, .string ⟨#[48]⟩, .string ⟨#[]⟩, .string ⟨#[]⟩, .float .f64 4607182418800017408, .int .i64 0], .float .f64 4607182418800017408, .bool true] (.tuple #[.complex .f64 4607182418800017408 0, .int .i64 0]) :=
  knows_more clMixed clOk clBase lv23A5 (K := 30) (d := 60) (n := 37) (by kernel_rfl)
noncomputable def lv23K6 : KT := (154, [.agg #[.int .u8 8, .string ⟨#[80, 50]⟩, .string ⟨#[98]⟩, .string ⟨#[48]⟩, .string ⟨#[]⟩, .string ⟨#[]⟩, .float .f64 4607182418800017408, .int .i64 0], .float .f64 4607182418800017408, .bool true], .tuple #[.complex .f64 4607182418800017408 0, .int .i64 0]) :: lv23K5
theorem lv23A6 : KnowsAll Tryz.prog clE lv23K6 := ⟨lv23N6, lv23A5⟩
/-- gridwork/gridworklaw23.lives: 23429 operations. -/
theorem lv23N7 : Knows Tryz.prog clE 8 [] (.bool true) :=
  knows_more clMixed clOk clBase lv23A6 (K := 30) (d := 60) (n := 37) (by kernel_rfl)
end Go.Proofs.YtdepiggjneoopaaGreatDoor
