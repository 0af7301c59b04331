/- Lv23: the calls that are known, each by a run. By program (mkcl.py). -/
import Derived.Test.YtdepiggjneoopaaGreatDoorStars
namespace Go.Proofs.YtdepiggjneoopaaGreatDoor
open Go.Ev
set_option maxRecDepth 1000000
set_option maxHeartbeats 4000000
noncomputable def Tg : KT := []
theorem Tm : KnowsAll Tryz.prog clE Tg := trivial
/-- internal/strconv.atof64: 382 operations. -/
theorem Ve : Ee Tryz.prog clE 228 [.string ⟨#[49, 101, 48]⟩] (.tuple #[.float .f64 4607182418800017408, .int .i64 3, .nilIface]) :=
  Cl Fc Qh Fd Tm (K := 30) (d := 60) (n := 37) (by kernel_rfl)
noncomputable def Tf : KT := (228, [.string ⟨#[49, 101, 48]⟩], .tuple #[.float .f64 4607182418800017408, .int .i64 3, .nilIface]) :: Tg
theorem Tl : KnowsAll Tryz.prog clE Tf := ⟨Ve, Tm⟩
/-- gridwork/value.Name: 310 operations. -/
theorem Vd : Ee Tryz.prog clE 58 [.string ⟨#[80, 49]⟩] (.tuple #[.int .u8 8, .bool true]) :=
  Cl Fc Qh Fd Tl (K := 30) (d := 60) (n := 37) (by kernel_rfl)
noncomputable def Te : KT := (58, [.string ⟨#[80, 49]⟩], .tuple #[.int .u8 8, .bool true]) :: Tf
theorem Tk : KnowsAll Tryz.prog clE Te := ⟨Vd, Tl⟩
/-- gridwork/value.Name: 310 operations. -/
theorem Vc : Ee Tryz.prog clE 58 [.string ⟨#[80, 50]⟩] (.tuple #[.int .u8 8, .bool true]) :=
  Cl Fc Qh Fd Tk (K := 30) (d := 60) (n := 37) (by kernel_rfl)
noncomputable def Td : KT := (58, [.string ⟨#[80, 50]⟩], .tuple #[.int .u8 8, .bool true]) :: Te
theorem Tj : KnowsAll Tryz.prog clE Td := ⟨Vc, Tk⟩
/-- gridwork/admit.reckon: 306 operations. -/
theorem Vb : Ee Tryz.prog clE 154 [.agg #[.int .u8 8, .string ⟨#[80, 49]⟩, .string ⟨#[97]⟩, .string ⟨#[48]⟩, .string ⟨#[]⟩, .string ⟨#[]⟩, .float .f64 4607182418800017408, .int .i64 0], .float .f64 4607182418800017408, .bool true] (.tuple #[.complex .f64 4607182418800017408 0, .int .i64 0]) :=
  Cl Fc Qh Fd Tj (K := 30) (d := 60) (n := 37) (by kernel_rfl)
noncomputable def Tc : KT := (154, [.agg #[.int .u8 8, .string ⟨#[80, 49]⟩, .string ⟨#[97]⟩, .string ⟨#[48]⟩, .string ⟨#[]⟩, .string ⟨#[]⟩, .float .f64 4607182418800017408, .int .i64 0], .float .f64 4607182418800017408, .bool true], .tuple #[.complex .f64 4607182418800017408 0, .int .i64 0]) :: Td
theorem Ti : KnowsAll Tryz.prog clE Tc := ⟨Vb, Tj⟩
/-- gridwork/admit.reckon: 368 operations. -/
theorem Va : Ee Tryz.prog clE 154 [.agg #[.int .u8 1, .string ⟨#[82, 49]⟩, .string ⟨#[97]⟩, .string ⟨#[98]⟩, .string ⟨#[]⟩, .string ⟨#[]⟩, .float .f64 4607182418800017408, .int .i64 0], .float .f64 4607182418800017408, .bool true] (.tuple #[.complex .f64 4607182418800017408 0, .int .i64 0]) :=
  Cl Fc Qh Fd Ti (K := 30) (d := 60) (n := 37) (by kernel_rfl)
noncomputable def Tb : KT := (154, [.agg #[.int .u8 1, .string ⟨#[82, 49]⟩, .string ⟨#[97]⟩, .string ⟨#[98]⟩, .string ⟨#[]⟩, .string ⟨#[]⟩, .float .f64 4607182418800017408, .int .i64 0], .float .f64 4607182418800017408, .bool true], .tuple #[.complex .f64 4607182418800017408 0, .int .i64 0]) :: Tc
theorem Th : KnowsAll Tryz.prog clE Tb := ⟨Va, Ti⟩
/-- gridwork/admit.reckon: 306 operations. -/
theorem Uz : Ee Tryz.prog clE 154 [.agg #[.int .u8 8, .string ⟨#[80, 50]⟩, .string ⟨#[98]⟩, .string ⟨#[48]⟩, .string ⟨#[]⟩, .string ⟨#[]⟩, .float .f64 4607182418800017408, .int .i64 0], .float .f64 4607182418800017408, .bool true] (.tuple #[.complex .f64 4607182418800017408 0, .int .i64 0]) :=
  Cl Fc Qh Fd Th (K := 30) (d := 60) (n := 37) (by kernel_rfl)
noncomputable def Vf : KT := (154, [.agg #[.int .u8 8, .string ⟨#[80, 50]⟩, .string ⟨#[98]⟩, .string ⟨#[48]⟩, .string ⟨#[]⟩, .string ⟨#[]⟩, .float .f64 4607182418800017408, .int .i64 0], .float .f64 4607182418800017408, .bool true], .tuple #[.complex .f64 4607182418800017408 0, .int .i64 0]) :: Tb
theorem Vg : KnowsAll Tryz.prog clE Vf := ⟨Uz, Th⟩
/-- gridwork/gridworklaw23.lives: 23429 operations. -/
theorem Uy : Ee Tryz.prog clE 8 [] (.bool true) :=
  Cl Fc Qh Fd Vg (K := 30) (d := 60) (n := 37) (by kernel_rfl)
end Go.Proofs.YtdepiggjneoopaaGreatDoor
