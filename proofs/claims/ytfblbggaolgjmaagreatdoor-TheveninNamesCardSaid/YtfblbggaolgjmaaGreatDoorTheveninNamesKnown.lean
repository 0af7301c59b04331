/- TheveninNames: the calls that are known, each by a run. By program (mkcl.py). -/
import Derived.Test.YtfblbggaolgjmaaGreatDoorStars
namespace Go.Proofs.YtfblbggaolgjmaaGreatDoor
open Go.Ev
set_option maxRecDepth 1000000
set_option maxHeartbeats 4000000
noncomputable def theveninNamesK0 : KT := []
theorem theveninNamesA0 : KnowsAll Tryz.prog clE theveninNamesK0 := trivial
/-- gridwork/quantity.Parse: 741 operations. -/
theorem theveninNamesN1 : Knows Tryz.prog clE 78 [.string ⟨#[49, 48]⟩] (.tuple #[.float .f64 4621819117588971520, .agg #[.int .i64 0, .int .i64 0]]) :=
  knows_more clMixed clOk clBase theveninNamesA0 (K := 30) (d := 60) (n := 37) (by kernel_rfl)
noncomputable def theveninNamesK1 : KT := (78, [.string ⟨#[49, 48]⟩], .tuple #[.float .f64 4621819117588971520, .agg #[.int .i64 0, .int .i64 0]]) :: theveninNamesK0
theorem theveninNamesA1 : KnowsAll Tryz.prog clE theveninNamesK1 := ⟨theveninNamesN1, theveninNamesA0⟩
/-- gridwork/quantity.Parse: 658 operations. -/
theorem theveninNamesN2 : Knows Tryz.prog clE 78 [.string ⟨#[52]⟩] (.tuple #[.float .f64 4616189618054758400, .agg #[.int .i64 0, .int .i64 0]]) :=
  knows_more clMixed clOk clBase theveninNamesA1 (K := 30) (d := 60) (n := 37) (by kernel_rfl)
noncomputable def theveninNamesK2 : KT := (78, [.string ⟨#[52]⟩], .tuple #[.float .f64 4616189618054758400, .agg #[.int .i64 0, .int .i64 0]]) :: theveninNamesK1
theorem theveninNamesA2 : KnowsAll Tryz.prog clE theveninNamesK2 := ⟨theveninNamesN2, theveninNamesA1⟩
/-- gridwork/quantity.Parse: 741 operations. -/
theorem theveninNamesN3 : Knows Tryz.prog clE 78 [.string ⟨#[53, 48]⟩] (.tuple #[.float .f64 4632233691727265792, .agg #[.int .i64 0, .int .i64 0]]) :=
  knows_more clMixed clOk clBase theveninNamesA2 (K := 30) (d := 60) (n := 37) (by kernel_rfl)
noncomputable def theveninNamesK3 : KT := (78, [.string ⟨#[53, 48]⟩], .tuple #[.float .f64 4632233691727265792, .agg #[.int .i64 0, .int .i64 0]]) :: theveninNamesK2
theorem theveninNamesA3 : KnowsAll Tryz.prog clE theveninNamesK3 := ⟨theveninNamesN3, theveninNamesA2⟩
/-- gridwork/quantity.Parse: 658 operations. -/
theorem theveninNamesN4 : Knows Tryz.prog clE 78 [.string ⟨#[50]⟩] (.tuple #[.float .f64 4611686018427387904, .agg #[.int .i64 0, .int .i64 0]]) :=
  knows_more clMixed clOk clBase theveninNamesA3 (K := 30) (d := 60) (n := 37) (by kernel_rfl)
noncomputable def theveninNamesK4 : KT := (78, [.string ⟨#[50]⟩], .tuple #[.float .f64 4611686018427387904, .agg #[.int .i64 0, .int .i64 0]]) :: theveninNamesK3
theorem theveninNamesA4 : KnowsAll Tryz.prog clE theveninNamesK4 := ⟨theveninNamesN4, theveninNamesA3⟩
/-- gridwork/quantity.Parse: 658 operations. -/
theorem theveninNamesN5 : Knows Tryz.prog clE 78 [.string ⟨#[51]⟩] (.tuple #[.float .f64 4613937818241073152, .agg #[.int .i64 0, .int .i64 0]]) :=
  knows_more clMixed clOk clBase theveninNamesA4 (K := 30) (d := 60) (n := 37) (by kernel_rfl)
noncomputable def theveninNamesK5 : KT := (78, [.string ⟨#[51]⟩], .tuple #[.float .f64 4613937818241073152, .agg #[.int .i64 0, .int .i64 0]]) :: theveninNamesK4
theorem theveninNamesA5 : KnowsAll Tryz.prog clE theveninNamesK5 := ⟨theveninNamesN5, theveninNamesA4⟩
/-- gridwork/quantity.Parse: 658 operations. -/
theorem theveninNamesN6 : Knows Tryz.prog clE 78 [.string ⟨#[49]⟩] (.tuple #[.float .f64 4607182418800017408, .agg #[.int .i64 0, .int .i64 0]]) :=
  knows_more clMixed clOk clBase theveninNamesA5 (K := 30) (d := 60) (n := 37) (by kernel_rfl)
noncomputable def theveninNamesK6 : KT := (78, [.string ⟨#[49]⟩], .tuple #[.float .f64 4607182418800017408, .agg #[.int .i64 0, .int .i64 0]]) :: theveninNamesK5
theorem theveninNamesA6 : KnowsAll Tryz.prog clE theveninNamesK6 := ⟨theveninNamesN6, theveninNamesA5⟩
/-- gridwork/gridworklaw24.of: 18394 operations. -/
theorem theveninNamesN7 : Knows Tryz.prog clE 12 [.string ⟨#[73, 49, 32, 48, 32, 97, 32, 50, 10, 82, 49, 32, 97, 32, 48, 32, 51, 10, 80, 49, 32, 97, 32, 48, 32, 49]⟩, .string ⟨#[80, 49]⟩, .float .f64 4607182418800017408] (.tuple #[.complex .f64 4618441417868443648 0, .complex .f64 4613937818241073152 0, .agg #[.int .i64 0, .int .i64 0]]) :=
  knows_more clMixed clOk clBase theveninNamesA6 (K := 30) (d := 60) (n := 37) (by kernel_rfl)
noncomputable def theveninNamesK7 : KT := (12, [.string ⟨#[73, 49, 32, 48, 32, 97, 32, 50, 10, 82, 49, 32, 97, 32, 48, 32, 51, 10, 80, 49, 32, 97, 32, 48, 32, 49]⟩, .string ⟨#[80, 49]⟩, .float .f64 4607182418800017408], .tuple #[.complex .f64 4618441417868443648 0, .complex .f64 4613937818241073152 0, .agg #[.int .i64 0, .int .i64 0]]) :: theveninNamesK6
theorem theveninNamesA7 : KnowsAll Tryz.prog clE theveninNamesK7 := ⟨theveninNamesN7, theveninNamesA6⟩
/-- gridwork/quantity.Parse: 817 operations. -/
theorem theveninNamesN8 : Knows Tryz.prog clE 78 [.string ⟨#[48, 46, 53]⟩] (.tuple #[.float .f64 4602678819172646912, .agg #[.int .i64 0, .int .i64 0]]) :=
  knows_more clMixed clOk clBase theveninNamesA7 (K := 30) (d := 60) (n := 37) (by kernel_rfl)
noncomputable def theveninNamesK8 : KT := (78, [.string ⟨#[48, 46, 53]⟩], .tuple #[.float .f64 4602678819172646912, .agg #[.int .i64 0, .int .i64 0]]) :: theveninNamesK7
theorem theveninNamesA8 : KnowsAll Tryz.prog clE theveninNamesK8 := ⟨theveninNamesN8, theveninNamesA7⟩
/-- gridwork/gridworklaw24.of: 14079 operations. -/
theorem theveninNamesN9 : Knows Tryz.prog clE 12 [.string ⟨#[67, 49, 32, 97, 32, 48, 32, 48, 46, 53, 10, 80, 49, 32, 97, 32, 48, 32, 49]⟩, .string ⟨#[80, 49]⟩, .float .f64 4611686018427387904] (.tuple #[.complex .f64 0 0, .complex .f64 0 13830554455654793216, .agg #[.int .i64 0, .int .i64 0]]) :=
  knows_more clMixed clOk clBase theveninNamesA8 (K := 30) (d := 60) (n := 37) (by kernel_rfl)
noncomputable def theveninNamesK9 : KT := (12, [.string ⟨#[67, 49, 32, 97, 32, 48, 32, 48, 46, 53, 10, 80, 49, 32, 97, 32, 48, 32, 49]⟩, .string ⟨#[80, 49]⟩, .float .f64 4611686018427387904], .tuple #[.complex .f64 0 0, .complex .f64 0 13830554455654793216, .agg #[.int .i64 0, .int .i64 0]]) :: theveninNamesK8
theorem theveninNamesA9 : KnowsAll Tryz.prog clE theveninNamesK9 := ⟨theveninNamesN9, theveninNamesA8⟩
/-- gridwork/gridworklaw24.of: 2244 operations. -/
theorem theveninNamesN10 : Knows Tryz.prog clE 12 [.string ⟨#[80, 49, 32, 97, 32, 48, 32, 49]⟩, .string ⟨#[80, 49]⟩, .float .f64 4607182418800017408] (.tuple #[.complex .f64 0 0, .complex .f64 0 0, .agg #[.int .i64 10, .int .i64 (-1)]]) :=
  knows_more clMixed clOk clBase theveninNamesA9 (K := 30) (d := 60) (n := 37) (by kernel_rfl)
noncomputable def theveninNamesK10 : KT := (12, [.string ⟨#[80, 49, 32, 97, 32, 48, 32, 49]⟩, .string ⟨#[80, 49]⟩, .float .f64 4607182418800017408], .tuple #[.complex .f64 0 0, .complex .f64 0 0, .agg #[.int .i64 10, .int .i64 (-1)]]) :: theveninNamesK9
theorem theveninNamesA10 : KnowsAll Tryz.prog clE theveninNamesK10 := ⟨theveninNamesN10, theveninNamesA9⟩
/-- gridwork/gridworklaw24.of: 1576 operations. -/
theorem theveninNamesN11 : Knows Tryz.prog clE 12 [.string ⟨#[82, 49, 32, 97, 32, 48, 32, 49]⟩, .string ⟨#[82, 49]⟩, .float .f64 4607182418800017408] (.tuple #[.complex .f64 0 0, .complex .f64 0 0, .agg #[.int .i64 2, .int .i64 (-1)]]) :=
  knows_more clMixed clOk clBase theveninNamesA10 (K := 30) (d := 60) (n := 37) (by kernel_rfl)
noncomputable def theveninNamesK11 : KT := (12, [.string ⟨#[82, 49, 32, 97, 32, 48, 32, 49]⟩, .string ⟨#[82, 49]⟩, .float .f64 4607182418800017408], .tuple #[.complex .f64 0 0, .complex .f64 0 0, .agg #[.int .i64 2, .int .i64 (-1)]]) :: theveninNamesK10
theorem theveninNamesA11 : KnowsAll Tryz.prog clE theveninNamesK11 := ⟨theveninNamesN11, theveninNamesA10⟩
/-- gridwork/gridworklaw24.of: 1567 operations. -/
theorem theveninNamesN12 : Knows Tryz.prog clE 12 [.string ⟨#[82, 49, 32, 97, 32, 48, 32, 49]⟩, .string ⟨#[88]⟩, .float .f64 4607182418800017408] (.tuple #[.complex .f64 0 0, .complex .f64 0 0, .agg #[.int .i64 10, .int .i64 (-1)]]) :=
  knows_more clMixed clOk clBase theveninNamesA11 (K := 30) (d := 60) (n := 37) (by kernel_rfl)
noncomputable def theveninNamesK12 : KT := (12, [.string ⟨#[82, 49, 32, 97, 32, 48, 32, 49]⟩, .string ⟨#[88]⟩, .float .f64 4607182418800017408], .tuple #[.complex .f64 0 0, .complex .f64 0 0, .agg #[.int .i64 10, .int .i64 (-1)]]) :: theveninNamesK11
theorem theveninNamesA12 : KnowsAll Tryz.prog clE theveninNamesK12 := ⟨theveninNamesN12, theveninNamesA11⟩
/-- gridwork/gridworklaw24.of: 1524 operations. -/
theorem theveninNamesN13 : Knows Tryz.prog clE 12 [.string ⟨#[82, 49, 32, 97, 32, 48, 32, 49]⟩, .string ⟨#[88]⟩, .float .f64 9221120237041090561] (.tuple #[.complex .f64 0 0, .complex .f64 0 0, .agg #[.int .i64 5, .int .i64 (-1)]]) :=
  knows_more clMixed clOk clBase theveninNamesA12 (K := 30) (d := 60) (n := 37) (by kernel_rfl)
noncomputable def theveninNamesK13 : KT := (12, [.string ⟨#[82, 49, 32, 97, 32, 48, 32, 49]⟩, .string ⟨#[88]⟩, .float .f64 9221120237041090561], .tuple #[.complex .f64 0 0, .complex .f64 0 0, .agg #[.int .i64 5, .int .i64 (-1)]]) :: theveninNamesK12
theorem theveninNamesA13 : KnowsAll Tryz.prog clE theveninNamesK13 := ⟨theveninNamesN13, theveninNamesA12⟩
/-- gridwork/gridworklaw24.of: 1526 operations. -/
theorem theveninNamesN14 : Knows Tryz.prog clE 12 [.string ⟨#[82, 49, 32, 97, 32, 48, 32, 49]⟩, .string ⟨#[88]⟩, .float .f64 0] (.tuple #[.complex .f64 0 0, .complex .f64 0 0, .agg #[.int .i64 2, .int .i64 (-1)]]) :=
  knows_more clMixed clOk clBase theveninNamesA13 (K := 30) (d := 60) (n := 37) (by kernel_rfl)
noncomputable def theveninNamesK14 : KT := (12, [.string ⟨#[82, 49, 32, 97, 32, 48, 32, 49]⟩, .string ⟨#[88]⟩, .float .f64 0], .tuple #[.complex .f64 0 0, .complex .f64 0 0, .agg #[.int .i64 2, .int .i64 (-1)]]) :: theveninNamesK13
theorem theveninNamesA14 : KnowsAll Tryz.prog clE theveninNamesK14 := ⟨theveninNamesN14, theveninNamesA13⟩
/-- gridwork/gridworklaw24.of: 34089 operations. -/
theorem theveninNamesN15 : Knows Tryz.prog clE 12 [.string ⟨#[86, 49, 32, 97, 32, 48, 32, 49, 48, 10, 82, 49, 32, 97, 32, 98, 32, 52, 10, 82, 50, 32, 98, 32, 48, 32, 52, 10, 80, 49, 32, 98, 32, 48, 32, 53, 48]⟩, .string ⟨#[80, 49]⟩, .float .f64 4613937818241073152] (.tuple #[.complex .f64 4617315517961601024 0, .complex .f64 4611686018427387904 0, .agg #[.int .i64 0, .int .i64 0]]) :=
  knows_more clMixed clOk clBase theveninNamesA14 (K := 30) (d := 60) (n := 37) (by kernel_rfl)
noncomputable def theveninNamesK15 : KT := (12, [.string ⟨#[86, 49, 32, 97, 32, 48, 32, 49, 48, 10, 82, 49, 32, 97, 32, 98, 32, 52, 10, 82, 50, 32, 98, 32, 48, 32, 52, 10, 80, 49, 32, 98, 32, 48, 32, 53, 48]⟩, .string ⟨#[80, 49]⟩, .float .f64 4613937818241073152], .tuple #[.complex .f64 4617315517961601024 0, .complex .f64 4611686018427387904 0, .agg #[.int .i64 0, .int .i64 0]]) :: theveninNamesK14
theorem theveninNamesA15 : KnowsAll Tryz.prog clE theveninNamesK15 := ⟨theveninNamesN15, theveninNamesA14⟩
def theveninNamesU : List AU := []
/-- The law in pieces. -/
noncomputable def theveninNamesE : Kn := clE.with theveninNamesK15
theorem theveninNamesOk : KnOk Tryz.prog theveninNamesE := clOk.with theveninNamesA15
theorem theveninNamesB : Base theveninNamesE clH := clBase.with _
noncomputable def theveninNamesCf : CallF := callA Tryz.prog theveninNamesE 30 60
theorem theveninNamesCfOk : CfOk Tryz.prog theveninNamesE theveninNamesCf := callA_ok clMixed theveninNamesOk 30 60
noncomputable def theveninNamesBody : Code := bodyOf Tryz.prog 4
noncomputable def theveninNamesMs : List ME := []
theorem theveninNamesMsOk : MEsOk Tryz.prog theveninNamesE clH theveninNamesMs := trivial
noncomputable def theveninNamesCf1 : CallF := cfM theveninNamesMs theveninNamesCf
theorem theveninNamesCf1Ok : CfOk Tryz.prog theveninNamesE theveninNamesCf1 := cfM_ok theveninNamesCfOk theveninNamesB theveninNamesMsOk
noncomputable def theveninNamesLT1 : List Item := [.code (subC [1, 1, 1, 1] theveninNamesBody)]
def theveninNamesLM1 : List (Nat × AV) := [(6, .u (.o (.p 983 0))), (4, .u (.o (.c (.complex .f64 4612811918334230528 0)))), (5, .u (.o (.c (.complex .f64 4602678819172646912 0)))), (1, .u (.o (.c (.bool true)))), (0, .u (.o (.c (.bool false))))]
def theveninNamesLR1 : List (Nat × AObj) := [(983, .row 32 [.c (.int .i64 0), .c (.int .i64 0)] .ex)]
theorem theveninNamesLG1 : MGoes Tryz.prog theveninNamesE Tryz.f4 (mkH theveninNamesLR1 clH) 984 (mkT theveninNamesLM1) theveninNamesLT1 (.u (.o (.c (.bool true)))) (mkH [] clH) 1009 :=
  mgoes_ret clMixed theveninNamesOk theveninNamesCf1Ok theveninNamesB (N := 37) (by kernel_rfl)
/-- 34274 operations. -/
theorem theveninNamesLG0 : MGoes Tryz.prog theveninNamesE Tryz.f4 clH 37 (argsT theveninNamesU 0 .leaf) [.code theveninNamesBody] (.u (.o (.c (.bool true)))) (mkH [] clH) 1009 :=
  mgoes_seg clMixed theveninNamesOk theveninNamesCf1Ok theveninNamesB (N := 8) (n1 := 984) (tl := theveninNamesLM1) (rl := theveninNamesLR1) (by kernel_rfl) (by kernel_rfl) (by kernel_rfl) (by kernel_rfl) theveninNamesLG1
theorem theveninNamesCall : MCall Tryz.prog theveninNamesE 4 theveninNamesU clH 37 (.u (.o (.c (.bool true)))) (mkH [] clH) 1009 := mcall_goes Tryz.func4 (c := theveninNamesBody) (by kernel_rfl) (by kernel_rfl) theveninNamesLG0
theorem theveninNamesN16 : Knows Tryz.prog clE 4 [] (.bool true) :=
  fun B0 w0 ρ G w hR => knows_mcall theveninNamesB (by kernel_rfl) (fun id h1 h2 => freeAll_ok (n := 37) (k := 972) (by kernel_rfl) id h1 (by omega)) theveninNamesCall (args := []) (fun _ => by unfold theveninNamesU; trivial) B0 w0 ρ G w hR.kn'
end Go.Proofs.YtfblbggaolgjmaaGreatDoor
