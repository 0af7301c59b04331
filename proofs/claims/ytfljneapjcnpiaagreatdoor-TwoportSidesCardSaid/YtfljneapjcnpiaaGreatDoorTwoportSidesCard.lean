/- TwoportSides: it returns true, of every input. The row, and the tied card. No condition but what the row itself lists. -/
import Derived.Test.YtfljneapjcnpiaaGreatDoorTwoportSidesLift
import Derived.Test.YtfljneapjcnpiaaGreatDoorTwoportSidesShut
namespace Go.Proofs.YtfljneapjcnpiaaGreatDoor
open Go.ChangeShapes Go.WideShapes Go.ChangeAt Go.RowKit Go.Joins Go.Deep
theorem twoportSides_holds : Rows.TwoportSidesSaid :=
  OpenClaim.holds_of_wide 3 Tryz.f3 rfl rfl rfl rfl rfl rfl rfl ⟨rfl, rfl, rfl, rfl, rfl⟩ rfl rfl rfl rfl rfl twoportSidesNamed Tryz.func3 twoportSidesClosed
    twoportSidesInst twoportSidesWrap
    (fun os started H enc _ => twoportSides_lifted os started H enc)

/-- The tied card. -/
theorem twoportSides_card : Rows.TwoportSidesCardSaid :=
  Claim7.holds_tied_plain_at .later [] [.data, .data, .widerDeep, .widerDeep, .data, .data, .data, .data, .data, .data, .sentinel, .sentinel, .listed, .data, .pinned, .pinned, .pinned] true (true, "627493e39d936ccbe1f753f771dd5daf125f32ea50aa745fac3ac858f5943423") true twoportSides_holds (fun _ h => by cases h) (by kernel_rfl) (fun _ h => by cases h) twoportSides_row_tie rfl ⟨rfl, rfl⟩ (by kernel_rfl) rfl
    (fun f fn hf hfn => by
      obtain rfl : f = 3 := Option.some.inj ((show Tryz.prog.funcNamed "gridwork/gridworklaw23.TwoportSides" = some 3 by kernel_rfl).symm.trans hf) |>.symm
      obtain rfl : fn = Tryz.f3 := (Option.some.inj (Tryz.func3.symm.trans hfn)).symm
      exact ⟨by kernel_rfl, fun j t ht => by
        rw [Tryz.params3] at ht
        have hm : t ∈ Tryz.f3.params.toList := by rw [Tryz.params3]; simpa using Array.mem_of_getElem? ht
        have hall : (Tryz.f3.params.toList.all fun u => !Tryz.prog.wantsStandIn u) = true := by kernel_rfl
        exact (show Tryz.prog.wantsStandIn t = false by simpa using List.all_eq_true.1 hall t hm)⟩)
    (by kernel_rfl)
#print axioms twoportSides_card
end Go.Proofs.YtfljneapjcnpiaaGreatDoor
