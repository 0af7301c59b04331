/- The start of the closed runs: what is known of functions without a body; the laid variables. By program (mkcl.py). -/
import Derived.Test.YtaegmlhfecfgkaaGreatDoorRows
import Derived.Test.YtaegmlhfecfgkaaGreatDoorEvC
import Derived.KernelRfl
namespace Go.Proofs.YtaegmlhfecfgkaaGreatDoor
open Go.Ev
set_option maxRecDepth 100000
set_option maxHeartbeats 4000000
def clG : List Nat := [12, 13, 7, 9, 8, 15, 16, 14, 6, 11, 5, 4, 3, 2, 18, 17, 10]
def clL : List (String × DataW Unit) := Rows.phasorRealRow.laid
noncomputable def clH : T AObj := mkH (laidRows Tryz.prog 20 0 clG clL) .leaf
noncomputable def clD : Doors := { ext := [(59, Extern.MathFloatBits.float64bits), (8, Extern.MathFloatBits.float64frombits), (231, Extern.MathFloatBits.float64bits), (227, Extern.MathFloatBits.float64frombits), (230, Extern.MathFloatBits.float32bits), (221, Extern.MathFloatBits.float32frombits), (173, Extern.BytealgIndexByte.indexByte), (208, Extern.BytealgCount.count)], fb := [59, 231], ff := [8, 227], same := [244], mkNo := [245], byte := 5 }
noncomputable def clE : Kn := clD.kn Tryz.prog clH
theorem clMixed : Tryz.prog.follows .mixedOrders = true := by kernel_rfl
theorem clNamed : clL.map (fun x => Tryz.prog.globalNamed x.1) = clG.map some := by kernel_rfl
theorem clLow : clG.all (fun g => Nat.blt g 20) = true := by kernel_rfl
theorem clLaid : laidOutB Tryz.prog = true := by kernel_rfl
theorem clPlain : (clL.filter fun x => x.2.handleName?.isSome).isEmpty = true := by kernel_rfl
theorem clBase : Base clE clH := Doors.base (by kernel_rfl)
theorem clOk : KnOk Tryz.prog clE := Doors.ok clH
  ⟨(fun args w => run_callFunc_extern Tryz.func59 (by kernel_rfl) (by kernel_rfl) (by kernel_rfl) (e := Extern.MathFloatBits.float64bits) (by kernel_rfl) args w), (fun args w => run_callFunc_extern Tryz.func8 (by kernel_rfl) (by kernel_rfl) (by kernel_rfl) (e := Extern.MathFloatBits.float64frombits) (by kernel_rfl) args w), (fun args w => run_callFunc_extern Tryz.func231 (by kernel_rfl) (by kernel_rfl) (by kernel_rfl) (e := Extern.MathFloatBits.float64bits) (by kernel_rfl) args w), (fun args w => run_callFunc_extern Tryz.func227 (by kernel_rfl) (by kernel_rfl) (by kernel_rfl) (e := Extern.MathFloatBits.float64frombits) (by kernel_rfl) args w), (fun args w => run_callFunc_extern Tryz.func230 (by kernel_rfl) (by kernel_rfl) (by kernel_rfl) (e := Extern.MathFloatBits.float32bits) (by kernel_rfl) args w), (fun args w => run_callFunc_extern Tryz.func221 (by kernel_rfl) (by kernel_rfl) (by kernel_rfl) (e := Extern.MathFloatBits.float32frombits) (by kernel_rfl) args w), (fun args w => run_callFunc_extern Tryz.func173 (by kernel_rfl) (by kernel_rfl) (by kernel_rfl) (e := Extern.BytealgIndexByte.indexByte) (by kernel_rfl) args w), (fun args w => run_callFunc_extern Tryz.func208 (by kernel_rfl) (by kernel_rfl) (by kernel_rfl) (e := Extern.BytealgCount.count) (by kernel_rfl) args w), trivial⟩
  ⟨(fun args w => run_callFunc_extern Tryz.func59 (by kernel_rfl) (by kernel_rfl) (by kernel_rfl) (e := Extern.MathFloatBits.float64bits) (by kernel_rfl) args w), (fun args w => run_callFunc_extern Tryz.func231 (by kernel_rfl) (by kernel_rfl) (by kernel_rfl) (e := Extern.MathFloatBits.float64bits) (by kernel_rfl) args w), trivial⟩
  ⟨(fun args w => run_callFunc_extern Tryz.func8 (by kernel_rfl) (by kernel_rfl) (by kernel_rfl) (e := Extern.MathFloatBits.float64frombits) (by kernel_rfl) args w), (fun args w => run_callFunc_extern Tryz.func227 (by kernel_rfl) (by kernel_rfl) (by kernel_rfl) (e := Extern.MathFloatBits.float64frombits) (by kernel_rfl) args w), trivial⟩
  ⟨(fun args w => run_callFunc_extern Tryz.func244 (by kernel_rfl) (by kernel_rfl) (by kernel_rfl) (e := Extern.AbiNoEscape.same) (by kernel_rfl) args w), trivial⟩
  (t := 221) (by kernel_rfl) ⟨⟨#[3], (fun args w => run_callFunc_extern Tryz.func245 (by kernel_rfl) (by kernel_rfl) (by kernel_rfl) (e := Extern.BytealgMakeNoZero.makeNoZero #[3] #[221]) (by kernel_rfl) args w)⟩, trivial⟩
/-- A law without arguments. -/
theorem clLaw {W : World} (hl : laidMetH Tryz.prog clL W) {f : FuncId} {args : List Value} {v : Value} (h : Knows Tryz.prog clE f args v) : Calls Tryz.prog f args.toArray W fun e w' => e = .returned v ∧ Go.RowKit.Below W.heap.size W w' :=
  law_of_knows (laidMetH_plain hl clPlain) clNamed clLow rfl clBase (fun _ h => h) h
end Go.Proofs.YtaegmlhfecfgkaaGreatDoor
