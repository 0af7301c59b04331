/- QuantityNames: the calls that are known, each by a run. By program (mkcl.py). -/
import Derived.Test.YtoipjjgflioccaaGreatDoorStart
namespace Go.Proofs.YtoipjjgflioccaaGreatDoor
open Go.Ev
set_option maxRecDepth 1000000
set_option maxHeartbeats 4000000
noncomputable def quantityNamesK0 : KT := []
theorem quantityNamesA0 : KnowsAll Tryz.prog clE quantityNamesK0 := trivial
/-- gridwork/quantity.Parse: 947 operations. -/
theorem quantityNamesN1 : Knows Tryz.prog clE 7 [.string ⟨#[49, 48, 48, 110]⟩] (.tuple #[.float .f64 4502148214488346440, .agg #[.int .i64 0, .int .i64 0]]) :=
  knows_more clMixed clOk clBase quantityNamesA0 (K := 30) (d := 60) (n := 37) (by kernel_rfl)
noncomputable def quantityNamesK1 : KT := (7, [.string ⟨#[49, 48, 48, 110]⟩], .tuple #[.float .f64 4502148214488346440, .agg #[.int .i64 0, .int .i64 0]]) :: quantityNamesK0
theorem quantityNamesA1 : KnowsAll Tryz.prog clE quantityNamesK1 := ⟨quantityNamesN1, quantityNamesA0⟩
/-- gridwork/quantity.Parse: 1070 operations. -/
theorem quantityNamesN2 : Knows Tryz.prog clE 7 [.string ⟨#[45, 50, 46, 53, 101, 51]⟩] (.tuple #[.float .f64 13881088010067378176, .agg #[.int .i64 0, .int .i64 0]]) :=
  knows_more clMixed clOk clBase quantityNamesA1 (K := 30) (d := 60) (n := 37) (by kernel_rfl)
noncomputable def quantityNamesK2 : KT := (7, [.string ⟨#[45, 50, 46, 53, 101, 51]⟩], .tuple #[.float .f64 13881088010067378176, .agg #[.int .i64 0, .int .i64 0]]) :: quantityNamesK1
theorem quantityNamesA2 : KnowsAll Tryz.prog clE quantityNamesK2 := ⟨quantityNamesN2, quantityNamesA1⟩
/-- gridwork/quantity.Parse: 900 operations. -/
theorem quantityNamesN3 : Knows Tryz.prog clE 7 [.string ⟨#[49, 101, 51, 107]⟩] (.tuple #[.float .f64 4696837146684686336, .agg #[.int .i64 0, .int .i64 0]]) :=
  knows_more clMixed clOk clBase quantityNamesA2 (K := 30) (d := 60) (n := 37) (by kernel_rfl)
noncomputable def quantityNamesK3 : KT := (7, [.string ⟨#[49, 101, 51, 107]⟩], .tuple #[.float .f64 4696837146684686336, .agg #[.int .i64 0, .int .i64 0]]) :: quantityNamesK2
theorem quantityNamesA3 : KnowsAll Tryz.prog clE quantityNamesK3 := ⟨quantityNamesN3, quantityNamesA2⟩
/-- gridwork/quantity.Parse: 1105 operations. -/
theorem quantityNamesN4 : Knows Tryz.prog clE 7 [.string ⟨#[49, 101, 45, 52, 48, 48]⟩] (.tuple #[.float .f64 0, .agg #[.int .i64 0, .int .i64 0]]) :=
  knows_more clMixed clOk clBase quantityNamesA3 (K := 30) (d := 60) (n := 37) (by kernel_rfl)
noncomputable def quantityNamesK4 : KT := (7, [.string ⟨#[49, 101, 45, 52, 48, 48]⟩], .tuple #[.float .f64 0, .agg #[.int .i64 0, .int .i64 0]]) :: quantityNamesK3
theorem quantityNamesA4 : KnowsAll Tryz.prog clE quantityNamesK4 := ⟨quantityNamesN4, quantityNamesA3⟩
/-- gridwork/quantity.Short: 2678 operations. -/
theorem quantityNamesN5 : Knows Tryz.prog clE 11 [.float .f64 4661889719351640064] (.tuple #[.string ⟨#[52, 55]⟩, .int .i64 3, .int .i64 0]) :=
  knows_more clMixed clOk clBase quantityNamesA4 (K := 30) (d := 60) (n := 37) (by kernel_rfl)
noncomputable def quantityNamesK5 : KT := (11, [.float .f64 4661889719351640064], .tuple #[.string ⟨#[52, 55]⟩, .int .i64 3, .int .i64 0]) :: quantityNamesK4
theorem quantityNamesA5 : KnowsAll Tryz.prog clE quantityNamesK5 := ⟨quantityNamesN5, quantityNamesA4⟩
/-- gridwork/quantity.Short: 1282 operations. -/
theorem quantityNamesN6 : Knows Tryz.prog clE 11 [.float .f64 4502148214488346440] (.tuple #[.string ⟨#[49]⟩, .int .i64 (-7), .int .i64 0]) :=
  knows_more clMixed clOk clBase quantityNamesA5 (K := 30) (d := 60) (n := 37) (by kernel_rfl)
noncomputable def quantityNamesK6 : KT := (11, [.float .f64 4502148214488346440], .tuple #[.string ⟨#[49]⟩, .int .i64 (-7), .int .i64 0]) :: quantityNamesK5
theorem quantityNamesA6 : KnowsAll Tryz.prog clE quantityNamesK6 := ⟨quantityNamesN6, quantityNamesA5⟩
/-- gridwork/quantity.Short: 1282 operations. -/
theorem quantityNamesN7 : Knows Tryz.prog clE 11 [.float .f64 4591870180066957722] (.tuple #[.string ⟨#[49]⟩, .int .i64 (-1), .int .i64 0]) :=
  knows_more clMixed clOk clBase quantityNamesA6 (K := 30) (d := 60) (n := 37) (by kernel_rfl)
noncomputable def quantityNamesK7 : KT := (11, [.float .f64 4591870180066957722], .tuple #[.string ⟨#[49]⟩, .int .i64 (-1), .int .i64 0]) :: quantityNamesK6
theorem quantityNamesA7 : KnowsAll Tryz.prog clE quantityNamesK7 := ⟨quantityNamesN7, quantityNamesA6⟩
/-- gridwork/quantity.Short: 1352 operations. -/
theorem quantityNamesN8 : Knows Tryz.prog clE 11 [.float .f64 4696837146684686336] (.tuple #[.string ⟨#[49]⟩, .int .i64 6, .int .i64 0]) :=
  knows_more clMixed clOk clBase quantityNamesA7 (K := 30) (d := 60) (n := 37) (by kernel_rfl)
noncomputable def quantityNamesK8 : KT := (11, [.float .f64 4696837146684686336], .tuple #[.string ⟨#[49]⟩, .int .i64 6, .int .i64 0]) :: quantityNamesK7
theorem quantityNamesA8 : KnowsAll Tryz.prog clE quantityNamesK8 := ⟨quantityNamesN8, quantityNamesA7⟩
/-- gridwork/quantity.Short: 5125 operations. -/
theorem quantityNamesN9 : Knows Tryz.prog clE 11 [.float .f64 4652006429231887155] (.tuple #[.string ⟨#[57, 57, 57, 57]⟩, .int .i64 2, .int .i64 0]) :=
  knows_more clMixed clOk clBase quantityNamesA8 (K := 30) (d := 60) (n := 37) (by kernel_rfl)
noncomputable def quantityNamesK9 : KT := (11, [.float .f64 4652006429231887155], .tuple #[.string ⟨#[57, 57, 57, 57]⟩, .int .i64 2, .int .i64 0]) :: quantityNamesK8
theorem quantityNamesA9 : KnowsAll Tryz.prog clE quantityNamesK9 := ⟨quantityNamesN9, quantityNamesA8⟩
/-- gridwork/quantity.Short: 1360 operations. -/
theorem quantityNamesN10 : Knows Tryz.prog clE 11 [.float .f64 4831355200913801216] (.tuple #[.string ⟨#[49]⟩, .int .i64 15, .int .i64 0]) :=
  knows_more clMixed clOk clBase quantityNamesA9 (K := 30) (d := 60) (n := 37) (by kernel_rfl)
noncomputable def quantityNamesK10 : KT := (11, [.float .f64 4831355200913801216], .tuple #[.string ⟨#[49]⟩, .int .i64 15, .int .i64 0]) :: quantityNamesK9
theorem quantityNamesA10 : KnowsAll Tryz.prog clE quantityNamesK10 := ⟨quantityNamesN10, quantityNamesA9⟩
/-- gridwork/quantity.Short: 1528 operations. -/
theorem quantityNamesN11 : Knows Tryz.prog clE 11 [.float .f64 1] (.tuple #[.string ⟨#[53]⟩, .int .i64 (-324), .int .i64 0]) :=
  knows_more clMixed clOk clBase quantityNamesA10 (K := 30) (d := 60) (n := 37) (by kernel_rfl)
noncomputable def quantityNamesK11 : KT := (11, [.float .f64 1], .tuple #[.string ⟨#[53]⟩, .int .i64 (-324), .int .i64 0]) :: quantityNamesK10
theorem quantityNamesA11 : KnowsAll Tryz.prog clE quantityNamesK11 := ⟨quantityNamesN11, quantityNamesA10⟩
/-- gridwork/quantity.Short: 10953 operations. -/
theorem quantityNamesN12 : Knows Tryz.prog clE 11 [.float .f64 4712889646009286656] (.tuple #[.string ⟨#[49, 50, 51, 52, 53, 54, 55, 56]⟩, .int .i64 7, .int .i64 0]) :=
  knows_more clMixed clOk clBase quantityNamesA11 (K := 30) (d := 60) (n := 37) (by kernel_rfl)
noncomputable def quantityNamesK12 : KT := (11, [.float .f64 4712889646009286656], .tuple #[.string ⟨#[49, 50, 51, 52, 53, 54, 55, 56]⟩, .int .i64 7, .int .i64 0]) :: quantityNamesK11
theorem quantityNamesA12 : KnowsAll Tryz.prog clE quantityNamesK12 := ⟨quantityNamesN12, quantityNamesA11⟩
/-- gridwork/quantity.Parse: 1396 operations. -/
theorem quantityNamesN13 : Knows Tryz.prog clE 7 [.string ⟨#[49, 101, 51, 48, 57]⟩] (.tuple #[.float .f64 0, .agg #[.int .i64 6, .int .i64 (-1)]]) :=
  knows_more clMixed clOk clBase quantityNamesA12 (K := 30) (d := 60) (n := 37) (by kernel_rfl)
noncomputable def quantityNamesK13 : KT := (7, [.string ⟨#[49, 101, 51, 48, 57]⟩], .tuple #[.float .f64 0, .agg #[.int .i64 6, .int .i64 (-1)]]) :: quantityNamesK12
theorem quantityNamesA13 : KnowsAll Tryz.prog clE quantityNamesK13 := ⟨quantityNamesN13, quantityNamesA12⟩
/-- gridwork/quantity.Parse: 1130 operations. -/
theorem quantityNamesN14 : Knows Tryz.prog clE 7 [.string ⟨#[49, 101, 57, 57, 57]⟩] (.tuple #[.float .f64 0, .agg #[.int .i64 6, .int .i64 (-1)]]) :=
  knows_more clMixed clOk clBase quantityNamesA13 (K := 30) (d := 60) (n := 37) (by kernel_rfl)
noncomputable def quantityNamesK14 : KT := (7, [.string ⟨#[49, 101, 57, 57, 57]⟩], .tuple #[.float .f64 0, .agg #[.int .i64 6, .int .i64 (-1)]]) :: quantityNamesK13
theorem quantityNamesA14 : KnowsAll Tryz.prog clE quantityNamesK14 := ⟨quantityNamesN14, quantityNamesA13⟩
/-- gridwork/quantity.digits: 1951 operations. -/
theorem quantityNamesN15 : Knows Tryz.prog clE 54 [.string ⟨#[57, 57, 57, 57, 57, 57, 57, 57, 57, 57, 57, 57, 57, 57, 57, 57, 57, 57, 57, 57, 57, 57, 57, 57, 57, 57, 57, 57, 57, 57, 57, 57, 57, 57, 57, 57, 57, 57, 57, 57, 57, 57, 57, 57, 57, 57, 57, 57, 57, 57, 57, 57, 57, 57, 57, 57, 57, 57, 57, 57, 57, 57, 57, 57]⟩, .int .i64 0, .int .i64 64] (.int .i64 64) :=
  knows_more clMixed clOk clBase quantityNamesA14 (K := 30) (d := 60) (n := 37) (by kernel_rfl)
noncomputable def quantityNamesK15 : KT := (54, [.string ⟨#[57, 57, 57, 57, 57, 57, 57, 57, 57, 57, 57, 57, 57, 57, 57, 57, 57, 57, 57, 57, 57, 57, 57, 57, 57, 57, 57, 57, 57, 57, 57, 57, 57, 57, 57, 57, 57, 57, 57, 57, 57, 57, 57, 57, 57, 57, 57, 57, 57, 57, 57, 57, 57, 57, 57, 57, 57, 57, 57, 57, 57, 57, 57, 57]⟩, .int .i64 0, .int .i64 64], .int .i64 64) :: quantityNamesK14
theorem quantityNamesA15 : KnowsAll Tryz.prog clE quantityNamesK15 := ⟨quantityNamesN15, quantityNamesA14⟩
/-- internal/strconv.readFloat: 3165 operations. -/
theorem quantityNamesN16 : Knows Tryz.prog clE 150 [.string ⟨#[57, 57, 57, 57, 57, 57, 57, 57, 57, 57, 57, 57, 57, 57, 57, 57, 57, 57, 57, 57, 57, 57, 57, 57, 57, 57, 57, 57, 57, 57, 57, 57, 57, 57, 57, 57, 57, 57, 57, 57, 57, 57, 57, 57, 57, 57, 57, 57, 57, 57, 57, 57, 57, 57, 57, 57, 57, 57, 57, 57, 57, 57, 57, 57, 101, 48]⟩] (.tuple #[.int .u64 9999999999999999999, .int .i64 45, .bool false, .bool true, .bool false, .int .i64 66, .bool true]) :=
  knows_more clMixed clOk clBase quantityNamesA15 (K := 30) (d := 60) (n := 37) (by kernel_rfl)
noncomputable def quantityNamesK16 : KT := (150, [.string ⟨#[57, 57, 57, 57, 57, 57, 57, 57, 57, 57, 57, 57, 57, 57, 57, 57, 57, 57, 57, 57, 57, 57, 57, 57, 57, 57, 57, 57, 57, 57, 57, 57, 57, 57, 57, 57, 57, 57, 57, 57, 57, 57, 57, 57, 57, 57, 57, 57, 57, 57, 57, 57, 57, 57, 57, 57, 57, 57, 57, 57, 57, 57, 57, 57, 101, 48]⟩], .tuple #[.int .u64 9999999999999999999, .int .i64 45, .bool false, .bool true, .bool false, .int .i64 66, .bool true]) :: quantityNamesK15
theorem quantityNamesA16 : KnowsAll Tryz.prog clE quantityNamesK16 := ⟨quantityNamesN16, quantityNamesA15⟩
/-- gridwork/gridworklaw05.lives: 1005 operations. -/
theorem quantityNamesN17 : Knows Tryz.prog clE 13 [] (.bool true) :=
  knows_more clMixed clOk clBase quantityNamesA16 (K := 30) (d := 60) (n := 37) (by kernel_rfl)
noncomputable def quantityNamesK17 : KT := (13, [], .bool true) :: quantityNamesK16
theorem quantityNamesA17 : KnowsAll Tryz.prog clE quantityNamesK17 := ⟨quantityNamesN17, quantityNamesA16⟩
/-- gridwork/gridworklaw05.QuantityNames: 8534 operations. -/
theorem quantityNamesN18 : Knows Tryz.prog clE 3 [] (.bool true) :=
  knows_more clMixed clOk clBase quantityNamesA17 (K := 30) (d := 60) (n := 37) (by kernel_rfl)
end Go.Proofs.YtoipjjgflioccaaGreatDoor
