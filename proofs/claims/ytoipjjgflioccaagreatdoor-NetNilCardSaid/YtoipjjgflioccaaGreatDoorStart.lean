/- The start of the closed runs: what is known of functions without a body; the laid variables. By program (mkcl.py). -/
import Derived.Test.YtoipjjgflioccaaGreatDoorRows
import Derived.Test.YtoipjjgflioccaaGreatDoorEvC
import Derived.KernelRfl
namespace Go.Proofs.YtoipjjgflioccaaGreatDoor
open Go.Ev
set_option maxRecDepth 100000
set_option maxHeartbeats 4000000
def clG : List Nat := [17, 18, 9, 10, 5, 13, 14, 12, 11, 8, 4, 3, 2, 1, 16, 15, 7]
def clL : List (String × DataW Unit) := Rows.quantityNamesRow.laid
noncomputable def clH : T AObj := mkH (laidRows Tryz.prog 20 0 clG clL) .leaf
noncomputable def clD : Doors := { ext := [(30, Extern.MathFloatBits.float64bits), (29, Extern.MathFloatBits.float64frombits), (128, Extern.MathFloatBits.float64bits), (159, Extern.MathFloatBits.float64frombits), (127, Extern.MathFloatBits.float32bits), (153, Extern.MathFloatBits.float32frombits), (184, Extern.BytealgIndexByte.indexByte), (107, Extern.BytealgCount.count)], fb := [30, 128], ff := [29, 159], same := [114], mkNo := [148], byte := 5 }
noncomputable def clE : Kn := clD.kn Tryz.prog clH
theorem clMixed : Tryz.prog.follows .mixedOrders = true := by kernel_rfl
theorem clNamed : clL.map (fun x => Tryz.prog.globalNamed x.1) = clG.map some := by kernel_rfl
theorem clLow : clG.all (fun g => Nat.blt g 20) = true := by kernel_rfl
theorem clLaid : laidOutB Tryz.prog = true := by kernel_rfl
theorem clPlain : (clL.filter fun x => x.2.handleName?.isSome).isEmpty = true := by kernel_rfl
theorem clBase : Base clE clH := Doors.base (by kernel_rfl)
theorem clOk : KnOk Tryz.prog clE := Doors.ok clH
  ⟨(fun args w => run_callFunc_extern Tryz.func30 (by kernel_rfl) (by kernel_rfl) (by kernel_rfl) (e := Extern.MathFloatBits.float64bits) (by kernel_rfl) args w), (fun args w => run_callFunc_extern Tryz.func29 (by kernel_rfl) (by kernel_rfl) (by kernel_rfl) (e := Extern.MathFloatBits.float64frombits) (by kernel_rfl) args w), (fun args w => run_callFunc_extern Tryz.func128 (by kernel_rfl) (by kernel_rfl) (by kernel_rfl) (e := Extern.MathFloatBits.float64bits) (by kernel_rfl) args w), (fun args w => run_callFunc_extern Tryz.func159 (by kernel_rfl) (by kernel_rfl) (by kernel_rfl) (e := Extern.MathFloatBits.float64frombits) (by kernel_rfl) args w), (fun args w => run_callFunc_extern Tryz.func127 (by kernel_rfl) (by kernel_rfl) (by kernel_rfl) (e := Extern.MathFloatBits.float32bits) (by kernel_rfl) args w), (fun args w => run_callFunc_extern Tryz.func153 (by kernel_rfl) (by kernel_rfl) (by kernel_rfl) (e := Extern.MathFloatBits.float32frombits) (by kernel_rfl) args w), (fun args w => run_callFunc_extern Tryz.func184 (by kernel_rfl) (by kernel_rfl) (by kernel_rfl) (e := Extern.BytealgIndexByte.indexByte) (by kernel_rfl) args w), (fun args w => run_callFunc_extern Tryz.func107 (by kernel_rfl) (by kernel_rfl) (by kernel_rfl) (e := Extern.BytealgCount.count) (by kernel_rfl) args w), trivial⟩
  ⟨(fun args w => run_callFunc_extern Tryz.func30 (by kernel_rfl) (by kernel_rfl) (by kernel_rfl) (e := Extern.MathFloatBits.float64bits) (by kernel_rfl) args w), (fun args w => run_callFunc_extern Tryz.func128 (by kernel_rfl) (by kernel_rfl) (by kernel_rfl) (e := Extern.MathFloatBits.float64bits) (by kernel_rfl) args w), trivial⟩
  ⟨(fun args w => run_callFunc_extern Tryz.func29 (by kernel_rfl) (by kernel_rfl) (by kernel_rfl) (e := Extern.MathFloatBits.float64frombits) (by kernel_rfl) args w), (fun args w => run_callFunc_extern Tryz.func159 (by kernel_rfl) (by kernel_rfl) (by kernel_rfl) (e := Extern.MathFloatBits.float64frombits) (by kernel_rfl) args w), trivial⟩
  ⟨(fun args w => run_callFunc_extern Tryz.func114 (by kernel_rfl) (by kernel_rfl) (by kernel_rfl) (e := Extern.AbiNoEscape.same) (by kernel_rfl) args w), trivial⟩
  (t := 43) (by kernel_rfl) ⟨⟨#[3], (fun args w => run_callFunc_extern Tryz.func148 (by kernel_rfl) (by kernel_rfl) (by kernel_rfl) (e := Extern.BytealgMakeNoZero.makeNoZero #[3] #[43]) (by kernel_rfl) args w)⟩, trivial⟩
/-- A law without arguments. -/
theorem clLaw {W : World} (hl : laidMetH Tryz.prog clL W) {f : FuncId} {args : List Value} {v : Value} (h : Knows Tryz.prog clE f args v) : Calls Tryz.prog f args.toArray W fun e w' => e = .returned v ∧ Go.RowKit.Below W.heap.size W w' :=
  law_of_knows (laidMetH_plain hl clPlain) clNamed clLow rfl clBase (fun _ h => h) h
end Go.Proofs.YtoipjjgflioccaaGreatDoor
