/- a part of the proof of the last text -/
import Derived.Test.YtdepiggjneoopaaGreatDoorZLaw
import Derived.ChangeMaps5
import Derived.Carry
namespace Go.Proofs.YtdepiggjneoopaaGreatDoor
set_option linter.all false
set_option maxHeartbeats 4000000
set_option maxRecDepth 100000
open Go.ChangeShapes Go.WideShapes Go.ChangeAt Go.RowKit Go.Joins
set_option maxRecDepth 100000 in
theorem open_whole {H : Type} {enc : TypeId × Value → H} {W : World} {base b0 : Nat} {spare : Nat → Bool} {held : Bool} {r : Reach} {v : Value} {d : DataW H} {ps : List MemPlace}
    (hval : Value.okWide Tryz.prog W r b0 55 v) (hd : DataW.Trod enc Tryz.prog W base spare held 55 v d ps) :
    ∃ a b : Int, v = .agg #[.int .i32 a, .int .i32 b] ∧ (-2147483648 ≤ a ∧ a < 2147483648) ∧ (-2147483648 ≤ b ∧ b < 2147483648) := by
  obtain ⟨cs, rfl, hs⟩ : ∃ cs, v = .agg cs ∧ cs.size = 2 := by
    unfold Value.okWide at hval
    rw [Tryz.underlying55] at hval
    obtain ⟨cs, h1, h2, _⟩ := hval
    exact ⟨cs, h1, h2.trans (by kernel_rfl)⟩
  obtain ⟨y0, y1, rfl⟩ : ∃ y0 y1, cs = #[y0, y1] := by
    match cs, hs with
    | ⟨[a, b]⟩, _ => exact ⟨a, b, rfl⟩
  obtain ⟨fuel, hf⟩ := hd
  have hc : Tryz.prog.cellsOf 21 = 1 := by kernel_rfl
  obtain ⟨xs, m, _, hx, _, hl, hg⟩ := DataW.trod_array Tryz.underlying55 hf
  have g0 := hg 0 (by decide)
  have g1 := hg 1 (by decide)
  rw [hc] at g0 g1
  obtain ⟨x0, x1, rfl⟩ : ∃ x0 x1, xs = [x0, x1] := by
    match xs, hl with
    | [a, b], _ => exact ⟨a, b, rfl⟩
  obtain ⟨z0, p0⟩ := x0
  obtain ⟨z1, p1⟩ := x1
  have k0 : DataW.trod enc Tryz.prog W base spare held m 21 [y0] = some (z0, p0) := g0
  have k1 : DataW.trod enc Tryz.prog W base spare held m 21 [y1] = some (z1, p1) := g1
  obtain ⟨a, e0, _, wa⟩ := DataW.trod_int Tryz.underlying21 k0
  obtain ⟨b, e1, _, wb⟩ := DataW.trod_int Tryz.underlying21 k1
  simp at e0 e1
  subst e0 e1
  have ba := bounds_i32 wa
  have bb := bounds_i32 wb
  exact ⟨a, b, rfl, ⟨by omega, by omega⟩, ⟨by omega, by omega⟩⟩
end Go.Proofs.YtdepiggjneoopaaGreatDoor
