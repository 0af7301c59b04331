/- PhasorScales: it returns true, of every input. The row, and the tied card. No condition but what the row itself lists. -/
import Derived.Test.YtjeedckmkicnoaaGreatDoorPhasorScalesLift
import Derived.Test.YtjeedckmkicnoaaGreatDoorPhasorScalesShut
namespace Go.Proofs.YtjeedckmkicnoaaGreatDoor
open Go.ChangeShapes Go.WideShapes Go.ChangeAt Go.RowKit Go.Joins Go.Deep
theorem phasorScales_holds : Rows.PhasorScalesSaid :=
  OpenClaim.holds_of_wide 3 Tryz.f3 rfl rfl rfl rfl rfl rfl rfl ⟨rfl, rfl, rfl, rfl, rfl⟩ rfl rfl rfl rfl rfl phasorScalesNamed Tryz.func3 phasorScalesClosed
    phasorScalesInst phasorScalesWrap
    (fun os started H enc _ => phasorScales_lifted os started H enc)

/-- The tied card. -/
theorem phasorScales_card : Rows.PhasorScalesCardSaid :=
  Claim7.holds_tied_plain_at .later [] [.data, .data, .widerDeep, .widerDeep, .data, .data, .data, .data, .data, .data, .sentinel, .sentinel, .listed, .data, .pinned, .pinned, .pinned] true (true, "2c917cdfe9f77b6c9f9dcacaaa3535340650307570dcbfc222d9b4ec55cd89d5") true phasorScales_holds (fun _ h => by cases h) (by kernel_rfl) (fun _ h => by cases h) phasorScales_row_tie rfl ⟨rfl, rfl⟩ (by kernel_rfl) rfl
    (fun f fn hf hfn => by
      obtain rfl : f = 3 := Option.some.inj ((show Tryz.prog.funcNamed "gridwork/gridworklaw20.PhasorScales" = some 3 by kernel_rfl).symm.trans hf) |>.symm
      obtain rfl : fn = Tryz.f3 := (Option.some.inj (Tryz.func3.symm.trans hfn)).symm
      exact ⟨by kernel_rfl, fun j t ht => by
        rw [Tryz.params3] at ht
        have hm : t ∈ Tryz.f3.params.toList := by rw [Tryz.params3]; simpa using Array.mem_of_getElem? ht
        have hall : (Tryz.f3.params.toList.all fun u => !Tryz.prog.wantsStandIn u) = true := by kernel_rfl
        exact (show Tryz.prog.wantsStandIn t = false by simpa using List.all_eq_true.1 hall t hm)⟩)
    (by kernel_rfl)
#print axioms phasorScales_card
end Go.Proofs.YtjeedckmkicnoaaGreatDoor
