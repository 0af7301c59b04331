/- Lv20: the calls that are known, each by a run. By program (mkcl.py). -/
import Derived.Test.YtaegmlhfecfgkaaGreatDoorStart
namespace Go.Proofs.YtaegmlhfecfgkaaGreatDoor
open Go.Ev
set_option maxRecDepth 1000000
set_option maxHeartbeats 4000000
noncomputable def lv20K0 : KT := []
theorem lv20A0 : KnowsAll Tryz.prog clE lv20K0 := trivial
/-- internal/strconv.atof64: 382 operations. -/
theorem lv20N1 : Knows Tryz.prog clE 201 [.string ⟨#[56, 101, 48]⟩] (.tuple #[.float .f64 4620693217682128896, .int .i64 3, .nilIface]) :=
  knows_more clMixed clOk clBase lv20A0 (K := 30) (d := 60) (n := 37) (by kernel_rfl)
noncomputable def lv20K1 : KT := (201, [.string ⟨#[56, 101, 48]⟩], .tuple #[.float .f64 4620693217682128896, .int .i64 3, .nilIface]) :: lv20K0
theorem lv20A1 : KnowsAll Tryz.prog clE lv20K1 := ⟨lv20N1, lv20A0⟩
/-- internal/strconv.atof64: 382 operations. -/
theorem lv20N2 : Knows Tryz.prog clE 201 [.string ⟨#[50, 101, 48]⟩] (.tuple #[.float .f64 4611686018427387904, .int .i64 3, .nilIface]) :=
  knows_more clMixed clOk clBase lv20A1 (K := 30) (d := 60) (n := 37) (by kernel_rfl)
noncomputable def lv20K2 : KT := (201, [.string ⟨#[50, 101, 48]⟩], .tuple #[.float .f64 4611686018427387904, .int .i64 3, .nilIface]) :: lv20K1
theorem lv20A2 : KnowsAll Tryz.prog clE lv20K2 := ⟨lv20N2, lv20A1⟩
/-- gridwork/value.Check: 445 operations. -/
theorem lv20N3 : Knows Tryz.prog clE 25 [.agg #[.int .u8 5, .string ⟨#[86, 49]⟩, .string ⟨#[105, 110]⟩, .string ⟨#[48]⟩, .string ⟨#[]⟩, .string ⟨#[]⟩, .float .f64 4620693217682128896, .int .i64 0]] (.int .i64 0) :=
  knows_more clMixed clOk clBase lv20A2 (K := 30) (d := 60) (n := 37) (by kernel_rfl)
noncomputable def lv20K3 : KT := (25, [.agg #[.int .u8 5, .string ⟨#[86, 49]⟩, .string ⟨#[105, 110]⟩, .string ⟨#[48]⟩, .string ⟨#[]⟩, .string ⟨#[]⟩, .float .f64 4620693217682128896, .int .i64 0]], .int .i64 0) :: lv20K2
theorem lv20A3 : KnowsAll Tryz.prog clE lv20K3 := ⟨lv20N3, lv20A2⟩
/-- gridwork/value.Check: 361 operations. -/
theorem lv20N4 : Knows Tryz.prog clE 25 [.agg #[.int .u8 1, .string ⟨#[82, 49]⟩, .string ⟨#[105, 110]⟩, .string ⟨#[111, 117, 116]⟩, .string ⟨#[]⟩, .string ⟨#[]⟩, .float .f64 4611686018427387904, .int .i64 0]] (.int .i64 0) :=
  knows_more clMixed clOk clBase lv20A3 (K := 30) (d := 60) (n := 37) (by kernel_rfl)
noncomputable def lv20K4 : KT := (25, [.agg #[.int .u8 1, .string ⟨#[82, 49]⟩, .string ⟨#[105, 110]⟩, .string ⟨#[111, 117, 116]⟩, .string ⟨#[]⟩, .string ⟨#[]⟩, .float .f64 4611686018427387904, .int .i64 0]], .int .i64 0) :: lv20K3
theorem lv20A4 : KnowsAll Tryz.prog clE lv20K4 := ⟨lv20N4, lv20A3⟩
/-- gridwork/value.Check: 339 operations. -/
theorem lv20N5 : Knows Tryz.prog clE 25 [.agg #[.int .u8 1, .string ⟨#[82, 50]⟩, .string ⟨#[111, 117, 116]⟩, .string ⟨#[48]⟩, .string ⟨#[]⟩, .string ⟨#[]⟩, .float .f64 4611686018427387904, .int .i64 0]] (.int .i64 0) :=
  knows_more clMixed clOk clBase lv20A4 (K := 30) (d := 60) (n := 37) (by kernel_rfl)
noncomputable def lv20K5 : KT := (25, [.agg #[.int .u8 1, .string ⟨#[82, 50]⟩, .string ⟨#[111, 117, 116]⟩, .string ⟨#[48]⟩, .string ⟨#[]⟩, .string ⟨#[]⟩, .float .f64 4611686018427387904, .int .i64 0]], .int .i64 0) :: lv20K4
theorem lv20A5 : KnowsAll Tryz.prog clE lv20K5 := ⟨lv20N5, lv20A4⟩
/-- gridwork/gridworklaw20.lives: 15480 operations. -/
theorem lv20N6 : Knows Tryz.prog clE 5 [] (.bool true) :=
  knows_more clMixed clOk clBase lv20A5 (K := 30) (d := 60) (n := 37) (by kernel_rfl)
end Go.Proofs.YtaegmlhfecfgkaaGreatDoor
