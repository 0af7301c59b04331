/- PhasorReal: it returns true, of every input. The row, and the tied card. No condition but what the row itself lists. -/
import Derived.Test.YtaegmlhfecfgkaaGreatDoorPhasorRealLift
import Derived.Test.YtaegmlhfecfgkaaGreatDoorPhasorRealShut
namespace Go.Proofs.YtaegmlhfecfgkaaGreatDoor
open Go.ChangeShapes Go.WideShapes Go.ChangeAt Go.RowKit Go.Joins Go.Deep
theorem phasorReal_holds : Rows.PhasorRealSaid :=
  OpenClaim.holds_of_wide 3 Tryz.f3 rfl rfl rfl rfl rfl rfl rfl ⟨rfl, rfl, rfl, rfl, rfl⟩ rfl rfl rfl rfl rfl phasorRealNamed Tryz.func3 phasorRealClosed
    phasorRealInst phasorRealWrap
    (fun os started H enc _ => phasorReal_lifted os started H enc)

/-- The tied card. -/
theorem phasorReal_card : Rows.PhasorRealCardSaid :=
  Claim7.holds_tied_plain_at .later [] [.data, .data, .widerDeep, .widerDeep, .data, .data, .data, .data, .data, .data, .sentinel, .sentinel, .listed, .data, .pinned, .pinned, .pinned] true (true, "11e36cab8ae5e48fe55ea1438fd50cdcb07deb36a5ca3703f018a9d7cd891573") true phasorReal_holds (fun _ h => by cases h) (by kernel_rfl) (fun _ h => by cases h) phasorReal_row_tie rfl ⟨rfl, rfl⟩ (by kernel_rfl) rfl
    (fun f fn hf hfn => by
      obtain rfl : f = 3 := Option.some.inj ((show Tryz.prog.funcNamed "gridwork/gridworklaw20.PhasorReal" = some 3 by kernel_rfl).symm.trans hf) |>.symm
      obtain rfl : fn = Tryz.f3 := (Option.some.inj (Tryz.func3.symm.trans hfn)).symm
      exact ⟨by kernel_rfl, fun j t ht => by
        rw [Tryz.params3] at ht
        have hm : t ∈ Tryz.f3.params.toList := by rw [Tryz.params3]; simpa using Array.mem_of_getElem? ht
        have hall : (Tryz.f3.params.toList.all fun u => !Tryz.prog.wantsStandIn u) = true := by kernel_rfl
        exact (show Tryz.prog.wantsStandIn t = false by simpa using List.all_eq_true.1 hall t hm)⟩)
    (by kernel_rfl)
#print axioms phasorReal_card
end Go.Proofs.YtaegmlhfecfgkaaGreatDoor
