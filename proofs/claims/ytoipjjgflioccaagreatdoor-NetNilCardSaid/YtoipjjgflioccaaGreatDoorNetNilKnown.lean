/- NetNil: the calls that are known, each by a run. By program (mkcl.py). -/
import Derived.Test.YtoipjjgflioccaaGreatDoorStart
namespace Go.Proofs.YtoipjjgflioccaaGreatDoor
open Go.Ev
set_option maxRecDepth 1000000
set_option maxHeartbeats 4000000
noncomputable def netNilK0 : KT := []
theorem netNilA0 : KnowsAll Tryz.prog clE netNilK0 := trivial
/-- gridwork/quantity.Short: 2678 operations. -/
theorem netNilN1 : Knows Tryz.prog clE 11 [.float .f64 4661889719351640064] (.tuple #[.string ⟨#[52, 55]⟩, .int .i64 3, .int .i64 0]) :=
  knows_more clMixed clOk clBase netNilA0 (K := 30) (d := 60) (n := 37) (by kernel_rfl)
noncomputable def netNilK1 : KT := (11, [.float .f64 4661889719351640064], .tuple #[.string ⟨#[52, 55]⟩, .int .i64 3, .int .i64 0]) :: netNilK0
theorem netNilA1 : KnowsAll Tryz.prog clE netNilK1 := ⟨netNilN1, netNilA0⟩
/-- gridwork/gridworklaw15.awake: 10976 operations. -/
theorem netNilN2 : Knows Tryz.prog clE 18 [] (.bool true) :=
  knows_more clMixed clOk clBase netNilA1 (K := 30) (d := 60) (n := 37) (by kernel_rfl)
noncomputable def netNilK2 : KT := (18, [], .bool true) :: netNilK1
theorem netNilA2 : KnowsAll Tryz.prog clE netNilK2 := ⟨netNilN2, netNilA1⟩
def netNilU : List AU := [.o .us, .g [.ui .u8, .us, .us, .us, .us, .us, .ui .u64, .ui .i64]]
/-- The law, of whatever arguments. -/
theorem netNilN3 {args : List Value} (hargs : ∀ ρ : Env, All2 (relU ρ) netNilU args) : Knows Tryz.prog clE 5 args (.bool true) :=
  knows_sym_more clMixed clOk clBase netNilA2 (K := 30) (d := 60) (n := 37) (us := netNilU) (by kernel_rfl) hargs
end Go.Proofs.YtoipjjgflioccaaGreatDoor
