/- Lv23: a closed call, known in every world that lets the start be. By program (mkcl.py). -/
import Derived.Test.YtdepiggjneoopaaGreatDoorLw23Known
namespace Go.Proofs.YtdepiggjneoopaaGreatDoor
open Go.Ev
theorem Rg {E : Kn} {ρ : Env} {G : Heap} {W w : World} (h : Rel E W.heap.size W ρ G W) (hb : Go.RowKit.Below W.heap.size W w) : Rel E W.heap.size W ρ G w := by
  refine ⟨hb, hb.size, fun id ob h1 h2 => ?_, h.inj, h.dom, h.glob, h.base⟩
  obtain ⟨b, n, h3, h4, h5⟩ := h.real id ob h1 h2
  refine ⟨b, n, h3, h4, ?_⟩
  have hlt : b < W.heap.size := by
    by_cases hl : b < W.heap.size
    · exact hl
    · exfalso
      rw [Array.getElem?_eq_none (by omega)] at h5
      cases ob with
      | dead => exact h2 rfl
      | row => obtain ⟨_, _, _, h6, _⟩ := h5; cases h6
      | mp => obtain ⟨_, h6, _⟩ := h5; cases h6
      | it => cases h5
      | tab => obtain ⟨_, _, _, _, _, h6, _⟩ := h5; cases h6
  rw [hb.block b hlt]
  exact h5
theorem lv23Later {W w : World} (hl : laidMetH Tryz.prog clL W) (hb : Go.RowKit.Below W.heap.size W w) : Calls Tryz.prog 8 #[] w fun e w' => e = .returned (.bool true) ∧ Go.RowKit.Below w.heap.size w w' :=
  Uy W.heap.size W _ _ w (Rg (Lx (n := 0) (lg := .leaf) (Fq hl Qz) Ra Uv rfl Fd (fun _ h => h)) hb)
end Go.Proofs.YtdepiggjneoopaaGreatDoor
