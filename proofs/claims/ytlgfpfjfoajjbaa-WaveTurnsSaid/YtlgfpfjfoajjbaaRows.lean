/-
  No cell of these rows narrows 'for every input' (looked for: loops, veiled, ifaces, maps, wideKeys, modest, calm, conditions, laid).
  DERIVED. THE GIVEN ROWS OF THIS SEAT. 5 by the template 'for every input the law returns true; each argument reads behind the call as it read before'; 0 by the template 'total and deterministic' (their statements: YtlgfpfjfoajjbaaTotals.lean).
  GIVEN WITH THE SEED: the statements are not yours to turn. If you find one false, say at which input.
  Laid BY PROGRAM, IN A SANDBOX (cutbox-rows.mjs): the forced cells as the released guide's own fill.sh prints them over the translation 5ac6250c26dc06f9… (all of the seat's roots in one cut). By AI agents, Wed Nov 11 2026. No macro, syntax, notation, axiom, sorry.
-/
import Derived.Test.YtlgfpfjfoajjbaaChecked
import GoSem.Claim
import GoSem.ClaimJoined
import GoSem.ClaimMapViews
import Derived.JoinedTies
import Derived.KernelRfl
namespace Go.Proofs.Ytlgfpfjfoajjbaa
/- THE CELL 'sum', in the pinned program and in every row, IS THE sha256 OF THE DUMP (.gsa) THAT YtlgfpfjfoajjbaaProg.lean LOADS. Nothing in Lean hashes anything: it is a label: what it is worth is what the hold of that sum in a sandbox is worth. -/
noncomputable def Try.pinned : Pinned := { name := "ytlgfpfjfoajjbaa", sum := "5ac6250c26dc06f938f2f9ab9eb4a67ce2b38b67ffe75672640b7f9f78a9b5e9", checked := Try.checked }
namespace Rows
def none {H : Type} : Left H := { results := [], args := [] }

/-- 'gridworklaw30.WaveSums': WHATEVER THE INPUT: true; the input reads as it did. -/
def waveSumsSpec : ChangeSpec := { name := "waveSums", fn := fun _ => fun
  | [d] => { results := [.lit (.bool true)], args := [d] }
  | _ => none }
def waveSumsRow : OpenClaim := { program := "ytlgfpfjfoajjbaa", sum := "5ac6250c26dc06f938f2f9ab9eb4a67ce2b38b67ffe75672640b7f9f78a9b5e9", func := "gridwork/gridworklaw30.WaveSums", spec := "waveSums", inPlace := ["math.Float64frombits", "math.Float64bits"], apart := false }
def WaveSumsSaid : Prop := waveSumsRow.holds Try.pinned (OpenSpec.ofChange waveSumsSpec)

/-- ITS FALSE NEIGHBOUR: 'it returns false'. Refute it at one input. -/
def waveSumsWrong : ChangeSpec := { name := "waveSums", fn := fun _ => fun
  | [d] => { results := [.lit (.bool false)], args := [d] }
  | _ => none }
def WaveSumsWrongFalsely : Prop := waveSumsRow.holds Try.pinned (OpenSpec.ofChange waveSumsWrong)

/-- 'gridworklaw18.StampAdds': WHATEVER THE INPUT: true; the input reads as it did. -/
def stampAddsSpec : ChangeSpec := { name := "stampAdds", fn := fun _ => fun
  | [d1, d2, d3, d4, d5, d6] => { results := [.lit (.bool true)], args := [d1, d2, d3, d4, d5, d6] }
  | _ => none }
def stampAddsRow : OpenClaim := { program := "ytlgfpfjfoajjbaa", sum := "5ac6250c26dc06f938f2f9ab9eb4a67ce2b38b67ffe75672640b7f9f78a9b5e9", func := "gridwork/gridworklaw18.StampAdds", spec := "stampAdds", inPlace := ["math.Float64frombits", "math.Float64bits"], apart := false }
def StampAddsSaid : Prop := stampAddsRow.holds Try.pinned (OpenSpec.ofChange stampAddsSpec)

/-- ITS FALSE NEIGHBOUR: 'it returns false'. Refute it at one input. -/
def stampAddsWrong : ChangeSpec := { name := "stampAdds", fn := fun _ => fun
  | [d1, d2, d3, d4, d5, d6] => { results := [.lit (.bool false)], args := [d1, d2, d3, d4, d5, d6] }
  | _ => none }
def StampAddsWrongFalsely : Prop := stampAddsRow.holds Try.pinned (OpenSpec.ofChange stampAddsWrong)

/-- 'gridworklaw24.TheveninLoads': WHATEVER THE INPUT: true; the input reads as it did. -/
def theveninLoadsSpec : ChangeSpec := { name := "theveninLoads", fn := fun _ => fun
  | [d1, d2, d3] => { results := [.lit (.bool true)], args := [d1, d2, d3] }
  | _ => none }
def theveninLoadsRow : OpenClaim := { program := "ytlgfpfjfoajjbaa", sum := "5ac6250c26dc06f938f2f9ab9eb4a67ce2b38b67ffe75672640b7f9f78a9b5e9", func := "gridwork/gridworklaw24.TheveninLoads", spec := "theveninLoads", inPlace := ["math.Float64frombits", "math.Float64bits"], apart := false }
def TheveninLoadsSaid : Prop := theveninLoadsRow.holds Try.pinned (OpenSpec.ofChange theveninLoadsSpec)

/-- ITS FALSE NEIGHBOUR: 'it returns false'. Refute it at one input. -/
def theveninLoadsWrong : ChangeSpec := { name := "theveninLoads", fn := fun _ => fun
  | [d1, d2, d3] => { results := [.lit (.bool false)], args := [d1, d2, d3] }
  | _ => none }
def TheveninLoadsWrongFalsely : Prop := theveninLoadsRow.holds Try.pinned (OpenSpec.ofChange theveninLoadsWrong)

/-- 'gridworklaw30.WaveTones': WHATEVER THE INPUT: true; the input reads as it did. -/
def waveTonesSpec : ChangeSpec := { name := "waveTones", fn := fun _ => fun
  | [d1, d2, d3] => { results := [.lit (.bool true)], args := [d1, d2, d3] }
  | _ => none }
def waveTonesRow : OpenClaim := { program := "ytlgfpfjfoajjbaa", sum := "5ac6250c26dc06f938f2f9ab9eb4a67ce2b38b67ffe75672640b7f9f78a9b5e9", func := "gridwork/gridworklaw30.WaveTones", spec := "waveTones", inPlace := ["math.Float64frombits", "math.Float64bits"], apart := false }
def WaveTonesSaid : Prop := waveTonesRow.holds Try.pinned (OpenSpec.ofChange waveTonesSpec)

/-- ITS FALSE NEIGHBOUR: 'it returns false'. Refute it at one input. -/
def waveTonesWrong : ChangeSpec := { name := "waveTones", fn := fun _ => fun
  | [d1, d2, d3] => { results := [.lit (.bool false)], args := [d1, d2, d3] }
  | _ => none }
def WaveTonesWrongFalsely : Prop := waveTonesRow.holds Try.pinned (OpenSpec.ofChange waveTonesWrong)

/-- 'gridworklaw30.WaveTurns': WHATEVER THE INPUT: true; the input reads as it did. -/
def waveTurnsSpec : ChangeSpec := { name := "waveTurns", fn := fun _ => fun
  | [d1, d2, d3, d4] => { results := [.lit (.bool true)], args := [d1, d2, d3, d4] }
  | _ => none }
def waveTurnsRow : OpenClaim := { program := "ytlgfpfjfoajjbaa", sum := "5ac6250c26dc06f938f2f9ab9eb4a67ce2b38b67ffe75672640b7f9f78a9b5e9", func := "gridwork/gridworklaw30.WaveTurns", spec := "waveTurns", inPlace := ["math.Float64frombits", "math.Float64bits"], apart := false }
def WaveTurnsSaid : Prop := waveTurnsRow.holds Try.pinned (OpenSpec.ofChange waveTurnsSpec)

/-- ITS FALSE NEIGHBOUR: 'it returns false'. Refute it at one input. -/
def waveTurnsWrong : ChangeSpec := { name := "waveTurns", fn := fun _ => fun
  | [d1, d2, d3, d4] => { results := [.lit (.bool false)], args := [d1, d2, d3, d4] }
  | _ => none }
def WaveTurnsWrongFalsely : Prop := waveTurnsRow.holds Try.pinned (OpenSpec.ofChange waveTurnsWrong)

/- THE SECOND FORM. 'bulk': how many values and letters a reading holds, each counted each time it is reached (what is shared counts as often as it is met; a slice's spare places count too). A statement '..UptoSaid' is the law's where the arguments, and the package variables that the reading takes, are together of bulk at most 1048576: NARROWER than '..Said'. Prove '..Said' where nothing that the law and all that it calls make is longer than what came in: it says more and counts as full. Else prove '..UptoSaid'. A law counts once. -/
mutual
def uptoBulk {H : Type} : DataW H → Nat
  | .lit (.string bytes) => bytes.length + 1
  | .lit _ => 1
  | .nil => 1
  | .ptr d => uptoBulk d + 1
  | .slice elems spare => uptoBulkAll elems + uptoBulkAll spare + 1
  | .agg parts => uptoBulkAll parts + 1
  | .iface _ d => uptoBulk d + 1
  | .map entries => uptoBulkEntries entries + 1
  | .held _ => 1
def uptoBulkAll {H : Type} : List (DataW H) → Nat
  | [] => 0
  | d :: r => uptoBulk d + uptoBulkAll r
def uptoBulkEntries {H : Type} : List (Lit × DataW H) → Nat
  | [] => 0
  | x :: r => uptoBulkEntry x + uptoBulkEntries r
def uptoBulkEntry {H : Type} : Lit × DataW H → Nat
  | (.string bytes, d) => bytes.length + uptoBulk d + 1
  | (_, d) => uptoBulk d + 1
 end
def uptoSmall : (H : Type) → List (DataW H) → Bool := fun _ ds => decide (uptoBulkAll ds ≤ 1048576)
def OpenSpec.upto (s : _root_.Go.ChangeSpec) : _root_.Go.OpenSpec := { _root_.Go.OpenSpec.ofChange s with cond := some uptoSmall }

/-- 'gridworklaw30.WaveSums', WHERE WHAT IT READS IS OF BULK AT MOST 1048576: true; the input reads as it did. -/
def waveSumsUptoRow : OpenClaim := { program := "ytlgfpfjfoajjbaa", sum := "5ac6250c26dc06f938f2f9ab9eb4a67ce2b38b67ffe75672640b7f9f78a9b5e9", func := "gridwork/gridworklaw30.WaveSums", spec := "waveSums", inPlace := ["math.Float64frombits", "math.Float64bits"], apart := false, narrowed := true }
def WaveSumsUptoSaid : Prop := waveSumsUptoRow.holds Try.pinned (OpenSpec.upto waveSumsSpec)

/-- 'gridworklaw18.StampAdds', WHERE WHAT IT READS IS OF BULK AT MOST 1048576: true; the input reads as it did. -/
def stampAddsUptoRow : OpenClaim := { program := "ytlgfpfjfoajjbaa", sum := "5ac6250c26dc06f938f2f9ab9eb4a67ce2b38b67ffe75672640b7f9f78a9b5e9", func := "gridwork/gridworklaw18.StampAdds", spec := "stampAdds", inPlace := ["math.Float64frombits", "math.Float64bits"], apart := false, narrowed := true }
def StampAddsUptoSaid : Prop := stampAddsUptoRow.holds Try.pinned (OpenSpec.upto stampAddsSpec)

/-- 'gridworklaw24.TheveninLoads', WHERE WHAT IT READS IS OF BULK AT MOST 1048576: true; the input reads as it did. -/
def theveninLoadsUptoRow : OpenClaim := { program := "ytlgfpfjfoajjbaa", sum := "5ac6250c26dc06f938f2f9ab9eb4a67ce2b38b67ffe75672640b7f9f78a9b5e9", func := "gridwork/gridworklaw24.TheveninLoads", spec := "theveninLoads", inPlace := ["math.Float64frombits", "math.Float64bits"], apart := false, narrowed := true }
def TheveninLoadsUptoSaid : Prop := theveninLoadsUptoRow.holds Try.pinned (OpenSpec.upto theveninLoadsSpec)

/-- 'gridworklaw30.WaveTones', WHERE WHAT IT READS IS OF BULK AT MOST 1048576: true; the input reads as it did. -/
def waveTonesUptoRow : OpenClaim := { program := "ytlgfpfjfoajjbaa", sum := "5ac6250c26dc06f938f2f9ab9eb4a67ce2b38b67ffe75672640b7f9f78a9b5e9", func := "gridwork/gridworklaw30.WaveTones", spec := "waveTones", inPlace := ["math.Float64frombits", "math.Float64bits"], apart := false, narrowed := true }
def WaveTonesUptoSaid : Prop := waveTonesUptoRow.holds Try.pinned (OpenSpec.upto waveTonesSpec)

/-- 'gridworklaw30.WaveTurns', WHERE WHAT IT READS IS OF BULK AT MOST 1048576: true; the input reads as it did. -/
def waveTurnsUptoRow : OpenClaim := { program := "ytlgfpfjfoajjbaa", sum := "5ac6250c26dc06f938f2f9ab9eb4a67ce2b38b67ffe75672640b7f9f78a9b5e9", func := "gridwork/gridworklaw30.WaveTurns", spec := "waveTurns", inPlace := ["math.Float64frombits", "math.Float64bits"], apart := false, narrowed := true }
def WaveTurnsUptoSaid : Prop := waveTurnsUptoRow.holds Try.pinned (OpenSpec.upto waveTurnsSpec)

end Rows
end Go.Proofs.Ytlgfpfjfoajjbaa
