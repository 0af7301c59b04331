/- A list of tones that came in, opened. -/
import Derived.Test.YtlgfpfjfoajjbaaOpen
import Derived.Test.YtlgfpfjfoajjbaaTones
namespace Go.Proofs.Ytlgfpfjfoajjbaa
open Go.ChangeShapes Go.WideShapes Go.ChangeAt Go.RowKit Go.Joins Go.Deep

theorem length_three {α : Type} {l : List α} (h : l.length = 3) : ∃ a b c, l = [a, b, c] := by
  match l, h with
  | [a, b, c], _ => exact ⟨a, b, c, rfl⟩
/-- A tone's cells. -/
theorem open_tz {H : Type} {enc : TypeId × Value → H} {W : World} {base fuel : Nat} {spare : Nat → Bool} {held : Bool} {cs : List Value} {d : DataW H} {ps : List MemPlace}
    (hf : DataW.trod enc Try.prog W base spare held fuel 85 cs = some (d, ps)) : ∃ t : Tn, cs = tz t := by
  obtain ⟨xs, n, rfl, hx, hl, hxl, hel⟩ := DataW.trod_struct Try.underlying85 hf
  have hl2 : cs.length = 3 := hl.trans (by kernel_rfl)
  obtain ⟨c0, c1, c2, rfl⟩ := length_three hl2
  obtain ⟨x0, x1, x2, rfl⟩ := length_three (show xs.length = 3 from hxl)
  have h0 := hel 0 _ rfl
  have h1 := hel 1 _ rfl
  have h2 := hel 2 _ rfl
  have hc : Try.prog.cellsOf 36 = 1 := by kernel_rfl
  have hc2 : Try.prog.cellsOf 3 = 1 := by kernel_rfl
  have h0' : DataW.trod enc Try.prog W base spare held n 36 [c0] = some x0 := by simpa [hc] using h0
  have h1' : DataW.trod enc Try.prog W base spare held n 3 [c1] = some x1 := by simpa [hc2] using h1
  have h2' : DataW.trod enc Try.prog W base spare held n 3 [c2] = some x2 := by simpa [hc2] using h2
  obtain ⟨a, e0, _, wa⟩ := DataW.trod_int Try.underlying36 h0'
  obtain ⟨b, e1, _, wb⟩ := DataW.trod_int Try.underlying3 h1'
  obtain ⟨c, e2, _, wc⟩ := DataW.trod_int Try.underlying3 h2'
  simp at e0 e1 e2
  have g0 : 0 ≤ a := by simp [Lit.wf] at wa; exact wa.1
  exact ⟨(a.toNat, b, c), by simp [tz, e0, e1, e2, Int.toNat_of_nonneg g0]⟩
/-- A list of tones that came in. -/
theorem open_tones {H : Type} {enc : TypeId × Value → H} {W : World} {base fuel : Nat} {spare : Nat → Bool} {held : Bool} {v : Value} {d : DataW H} {ps : List MemPlace}
    (hf : DataW.trod enc Try.prog W base spare held fuel 59 [v] = some (d, ps)) (hs : Small Try.prog 59 d) :
    ∃ l : List Tn, InSl W 3 v l.length (l.flatMap tz) ∧ l.length * 24 ≤ reachBytes := by
  obtain ⟨n, E, D, r, h1, h2, h3⟩ := open_sl (P := Try.prog) (size := 3) Try.underlying59 (by kernel_rfl) (by decide) hf
  obtain ⟨B, hB⟩ := choose_lt (n := n) (α := Tn) (p := fun i z => E i = tz z) (fun i hi => by
    obtain ⟨_, f, q, h4⟩ := h3 i hi
    exact open_tz h4)
  refine ⟨(List.range n).map B, ?_, ?_⟩
  · have : ((List.range n).map B).flatMap tz = (List.range n).flatMap E := by
      rw [List.flatMap_def, List.flatMap_def, List.map_map]
      congr 1
      exact List.map_congr_left fun i hi => (hB i (by simpa using hi)).symm
    rw [this]; simpa using h1
  · simp only [List.length_map, List.length_range]
    rcases h2 with rfl | rfl
    · simp
    · have := (small_slice Try.underlying59 hs).1
      rw [show Try.prog.bytesOf 85 = 24 from by kernel_rfl] at this; simpa using this
end Go.Proofs.Ytlgfpfjfoajjbaa
