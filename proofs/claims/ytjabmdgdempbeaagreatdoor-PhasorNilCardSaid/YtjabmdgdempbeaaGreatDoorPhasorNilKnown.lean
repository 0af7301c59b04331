/- PhasorNil: the calls that are known, each by a run. By program (mkcl.py). -/
import Derived.Test.YtjabmdgdempbeaaGreatDoorStart
namespace Go.Proofs.YtjabmdgdempbeaaGreatDoor
open Go.Ev
set_option maxRecDepth 1000000
set_option maxHeartbeats 4000000
noncomputable def phasorNilK0 : KT := []
theorem phasorNilA0 : KnowsAll Tryz.prog clE phasorNilK0 := trivial
/-- gridwork/quantity.Parse: 658 operations. -/
theorem phasorNilN1 : Knows Tryz.prog clE 130 [.string ⟨#[56]⟩] (.tuple #[.float .f64 4620693217682128896, .agg #[.int .i64 0, .int .i64 0]]) :=
  knows_more clMixed clOk clBase phasorNilA0 (K := 30) (d := 60) (n := 37) (by kernel_rfl)
noncomputable def phasorNilK1 : KT := (130, [.string ⟨#[56]⟩], .tuple #[.float .f64 4620693217682128896, .agg #[.int .i64 0, .int .i64 0]]) :: phasorNilK0
theorem phasorNilA1 : KnowsAll Tryz.prog clE phasorNilK1 := ⟨phasorNilN1, phasorNilA0⟩
/-- gridwork/quantity.Parse: 658 operations. -/
theorem phasorNilN2 : Knows Tryz.prog clE 130 [.string ⟨#[50]⟩] (.tuple #[.float .f64 4611686018427387904, .agg #[.int .i64 0, .int .i64 0]]) :=
  knows_more clMixed clOk clBase phasorNilA1 (K := 30) (d := 60) (n := 37) (by kernel_rfl)
noncomputable def phasorNilK2 : KT := (130, [.string ⟨#[50]⟩], .tuple #[.float .f64 4611686018427387904, .agg #[.int .i64 0, .int .i64 0]]) :: phasorNilK1
theorem phasorNilA2 : KnowsAll Tryz.prog clE phasorNilK2 := ⟨phasorNilN2, phasorNilA1⟩
/-- gridwork/gridworklaw20.lives: 21758 operations. -/
theorem phasorNilN3 : Knows Tryz.prog clE 14 [] (.bool true) :=
  knows_more clMixed clOk clBase phasorNilA2 (K := 30) (d := 60) (n := 37) (by kernel_rfl)
noncomputable def phasorNilK3 : KT := (14, [], .bool true) :: phasorNilK2
theorem phasorNilA3 : KnowsAll Tryz.prog clE phasorNilK3 := ⟨phasorNilN3, phasorNilA2⟩
def phasorNilU : List AU := [.o (.ui .u64), .o .us]
/-- The law, of whatever arguments. -/
theorem phasorNilN4 {args : List Value} (hargs : ∀ ρ : Env, All2 (relU ρ) phasorNilU args) : Knows Tryz.prog clE 4 args (.bool true) :=
  knows_sym_more clMixed clOk clBase phasorNilA3 (K := 30) (d := 60) (n := 37) (us := phasorNilU) (by kernel_rfl) hargs
end Go.Proofs.YtjabmdgdempbeaaGreatDoor
