/- Walk of gridworkref21.wrong. -/
import Derived.Test.YtlaibmeokghdmaaGreatDoorCur4E
namespace Go.Proofs.YtlaibmeokghdmaaGreatDoor
open Go.RowKit

theorem rn_cells {w : World} {g : Nat} {l : List El} (h : RN w (.pointer (some ⟨g, 0, none⟩)) l) : ∃ v, w.cell? ⟨g, 0, none⟩ = some v ∧ w.cell? ⟨g, 1, none⟩ = some (.bool true) := by
  rcases h with ⟨h, _⟩ | ⟨g2, v, h, h0, h1, _⟩
  · cases h
  · cases h
    exact ⟨v, h0, h1⟩
theorem fin_app (V A : List Cx) : finAll (V ++ A) = (finAll V && finAll A) := by unfold finAll; rw [List.all_append]
end Go.Proofs.YtlaibmeokghdmaaGreatDoor
