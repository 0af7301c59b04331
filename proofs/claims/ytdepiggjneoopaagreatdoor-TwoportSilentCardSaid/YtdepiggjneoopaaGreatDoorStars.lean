/- The start of the closed runs: what is known of functions without a body; the laid variables. By program (mkcl.py). -/
import Derived.Test.YtdepiggjneoopaaGreatDoorRows
import Derived.Test.YtdepiggjneoopaaGreatDoorEwC
import Derived.KernelRfl
namespace Go.Proofs.YtdepiggjneoopaaGreatDoor
open Go.Ev
set_option maxRecDepth 100000
set_option maxHeartbeats 4000000
def clG : List Nat := [12, 13, 7, 9, 8, 15, 16, 14, 6, 11, 5, 4, 3, 2, 18, 17, 10]
def clL : List (String × DataW Unit) := Rows.twoportRealRow.laid
noncomputable def clH : T AObj := mkH (Cp Tryz.prog 20 0 clG clL) .leaf
noncomputable def clD : Doors := { ext := [(96, Extern.MathFloatBits.float64bits), (7, Extern.MathFloatBits.float64frombits), (258, Extern.MathFloatBits.float64bits), (254, Extern.MathFloatBits.float64frombits), (257, Extern.MathFloatBits.float32bits), (248, Extern.MathFloatBits.float32frombits), (200, Extern.BytealgIndexByte.indexByte), (235, Extern.BytealgCount.count)], fb := [96, 258], ff := [7, 254], same := [271], mkNo := [272], byte := 5 }
noncomputable def clE : Kn := clD.kn Tryz.prog clH
theorem Fc : Tryz.prog.follows .mixedOrders = true := by kernel_rfl
theorem Ra : clL.map (fun x => Tryz.prog.globalNamed x.1) = clG.map some := by kernel_rfl
theorem Uv : clG.all (fun g => Nat.blt g 20) = true := by kernel_rfl
theorem clLaid : laidOutB Tryz.prog = true := by kernel_rfl
theorem Qz : (clL.filter fun x => x.2.handleName?.isSome).isEmpty = true := by kernel_rfl
theorem Fd : Base clE clH := Doors.base (by kernel_rfl)
theorem Qh : KnOk Tryz.prog clE := Doors.ok clH
  ⟨(fun args w => run_callFunc_extern Tryz.func96 (by kernel_rfl) (by kernel_rfl) (by kernel_rfl) (e := Extern.MathFloatBits.float64bits) (by kernel_rfl) args w), (fun args w => run_callFunc_extern Tryz.func7 (by kernel_rfl) (by kernel_rfl) (by kernel_rfl) (e := Extern.MathFloatBits.float64frombits) (by kernel_rfl) args w), (fun args w => run_callFunc_extern Tryz.func258 (by kernel_rfl) (by kernel_rfl) (by kernel_rfl) (e := Extern.MathFloatBits.float64bits) (by kernel_rfl) args w), (fun args w => run_callFunc_extern Tryz.func254 (by kernel_rfl) (by kernel_rfl) (by kernel_rfl) (e := Extern.MathFloatBits.float64frombits) (by kernel_rfl) args w), (fun args w => run_callFunc_extern Tryz.func257 (by kernel_rfl) (by kernel_rfl) (by kernel_rfl) (e := Extern.MathFloatBits.float32bits) (by kernel_rfl) args w), (fun args w => run_callFunc_extern Tryz.func248 (by kernel_rfl) (by kernel_rfl) (by kernel_rfl) (e := Extern.MathFloatBits.float32frombits) (by kernel_rfl) args w), (fun args w => run_callFunc_extern Tryz.func200 (by kernel_rfl) (by kernel_rfl) (by kernel_rfl) (e := Extern.BytealgIndexByte.indexByte) (by kernel_rfl) args w), (fun args w => run_callFunc_extern Tryz.func235 (by kernel_rfl) (by kernel_rfl) (by kernel_rfl) (e := Extern.BytealgCount.count) (by kernel_rfl) args w), trivial⟩
  ⟨(fun args w => run_callFunc_extern Tryz.func96 (by kernel_rfl) (by kernel_rfl) (by kernel_rfl) (e := Extern.MathFloatBits.float64bits) (by kernel_rfl) args w), (fun args w => run_callFunc_extern Tryz.func258 (by kernel_rfl) (by kernel_rfl) (by kernel_rfl) (e := Extern.MathFloatBits.float64bits) (by kernel_rfl) args w), trivial⟩
  ⟨(fun args w => run_callFunc_extern Tryz.func7 (by kernel_rfl) (by kernel_rfl) (by kernel_rfl) (e := Extern.MathFloatBits.float64frombits) (by kernel_rfl) args w), (fun args w => run_callFunc_extern Tryz.func254 (by kernel_rfl) (by kernel_rfl) (by kernel_rfl) (e := Extern.MathFloatBits.float64frombits) (by kernel_rfl) args w), trivial⟩
  ⟨(fun args w => run_callFunc_extern Tryz.func271 (by kernel_rfl) (by kernel_rfl) (by kernel_rfl) (e := Extern.AbiNoEscape.same) (by kernel_rfl) args w), trivial⟩
  (t := 247) (by kernel_rfl) ⟨⟨#[3], (fun args w => run_callFunc_extern Tryz.func272 (by kernel_rfl) (by kernel_rfl) (by kernel_rfl) (e := Extern.BytealgMakeNoZero.makeNoZero #[3] #[247]) (by kernel_rfl) args w)⟩, trivial⟩
/-- A law without arguments. -/
theorem clLaw {W : World} (hl : laidMetH Tryz.prog clL W) {f : FuncId} {args : List Value} {v : Value} (h : Ee Tryz.prog clE f args v) : Calls Tryz.prog f args.toArray W fun e w' => e = .returned v ∧ Go.RowKit.Below W.heap.size W w' :=
  Mx (Fq hl Qz) Ra Uv rfl Fd (fun _ h => h) h
end Go.Proofs.YtdepiggjneoopaaGreatDoor
