/- Lists of numbers by their bits that came in, opened. -/
import Derived.Test.YtaobncojdonhlaaOpen
import Derived.Test.YtaobncojdonhlaaNums
namespace Go.Proofs.Ytaobncojdonhlaa
open Go.ChangeShapes Go.WideShapes Go.ChangeAt Go.RowKit Go.Joins Go.Deep

theorem length_two {α : Type} {l : List α} (h : l.length = 2) : ∃ a b, l = [a, b] := by
  match l, h with
  | [a, b], _ => exact ⟨a, b, rfl⟩
/-- A number's bits that came in, by its cells. -/
theorem open_zc {H : Type} {enc : TypeId × Value → H} {W : World} {base fuel : Nat} {spare : Nat → Bool} {held : Bool} {cs : List Value} {d : DataW H} {ps : List MemPlace}
    (hf : DataW.trod enc Try.prog W base spare held fuel 105 cs = some (d, ps)) : ∃ z : Cx, cs = zc z := by
  obtain ⟨xs, n, rfl, hx, hl, hxl, hel⟩ := DataW.trod_struct Try.underlying105 hf
  have hl2 : cs.length = 2 := hl.trans (by kernel_rfl)
  obtain ⟨c0, c1, rfl⟩ := length_two hl2
  obtain ⟨x0, x1, rfl⟩ := length_two (show xs.length = 2 from hxl)
  have h0 := hel 0 _ rfl
  have h1 := hel 1 _ rfl
  have hc : Try.prog.cellsOf 23 = 1 := by kernel_rfl
  have h0' : DataW.trod enc Try.prog W base spare held n 23 [c0] = some x0 := by simpa [hc] using h0
  have h1' : DataW.trod enc Try.prog W base spare held n 23 [c1] = some x1 := by simpa [hc] using h1
  obtain ⟨a, e0, _, wa⟩ := DataW.trod_int Try.underlying23 h0'
  obtain ⟨b, e1, _, wb⟩ := DataW.trod_int Try.underlying23 h1'
  simp at e0 e1
  have g0 : 0 ≤ a := by simp [Lit.wf] at wa; exact wa.1
  have g1 : 0 ≤ b := by simp [Lit.wf] at wb; exact wb.1
  exact ⟨(a.toNat, b.toNat), by simp [zc, e0, e1, Int.toNat_of_nonneg g0, Int.toNat_of_nonneg g1]⟩
/-- A list of numbers by their bits that came in. -/
theorem open_zs {H : Type} {enc : TypeId × Value → H} {W : World} {base fuel : Nat} {spare : Nat → Bool} {held : Bool} {v : Value} {d : DataW H} {ps : List MemPlace}
    (hf : DataW.trod enc Try.prog W base spare held fuel 24 [v] = some (d, ps)) (hs : Small Try.prog 24 d) :
    ∃ l : List Cx, InSl W 2 v l.length (l.flatMap zc) ∧ l.length * 16 ≤ reachBytes := by
  obtain ⟨n, E, D, r, h1, h2, h3⟩ := open_sl (P := Try.prog) (size := 2) Try.underlying24 (by kernel_rfl) (by decide) hf
  obtain ⟨B, hB⟩ := choose_lt (n := n) (α := Cx) (p := fun i z => E i = zc z) (fun i hi => by
    obtain ⟨_, f, q, h4⟩ := h3 i hi
    exact open_zc h4)
  refine ⟨(List.range n).map B, ?_, ?_⟩
  · have : ((List.range n).map B).flatMap zc = (List.range n).flatMap E := by
      rw [List.flatMap_def, List.flatMap_def, List.map_map]
      congr 1
      exact List.map_congr_left fun i hi => (hB i (by simpa using hi)).symm
    rw [this]; simpa using h1
  · simp only [List.length_map, List.length_range]
    rcases h2 with rfl | rfl
    · simp
    · have := (small_slice Try.underlying24 hs).1
      rw [show Try.prog.bytesOf 105 = 16 from by kernel_rfl] at this; simpa using this
end Go.Proofs.Ytaobncojdonhlaa
