/- TwoportSilent: it returns true, of every input. The row, and the tied card. No condition but what the row itself lists. -/
import Derived.Test.YtdepiggjneoopaaGreatDoorTwoportSilentLift
import Derived.Test.YtdepiggjneoopaaGreatDoorTwoportSilentShut
namespace Go.Proofs.YtdepiggjneoopaaGreatDoor
open Go.ChangeShapes Go.WideShapes Go.ChangeAt Go.RowKit Go.Joins Go.Deep
theorem twoportSilent_holds : Rows.TwoportSilentSaid :=
  OpenClaim.holds_of_wide 3 Tryz.f3 rfl rfl rfl rfl rfl rfl rfl ⟨rfl, rfl, rfl, rfl, rfl⟩ rfl rfl rfl rfl rfl twoportSilentNamed Tryz.func3 twoportSilentClosed
    twoportSilentInst twoportSilentWrap
    (fun os started H enc _ => twoportSilent_lifted os started H enc)

/-- The tied card. -/
theorem twoportSilent_card : Rows.TwoportSilentCardSaid :=
  Claim7.holds_tied_plain_at .later [] [.data, .data, .widerDeep, .widerDeep, .data, .data, .data, .data, .data, .data, .sentinel, .sentinel, .listed, .data, .pinned, .pinned, .pinned] true (true, "8c2bfc366c2d8a360ec4bef638d655dc63301d50f314cff4af5675619f4391b9") true twoportSilent_holds (fun _ h => by cases h) (by kernel_rfl) (fun _ h => by cases h) twoportSilent_row_tie rfl ⟨rfl, rfl⟩ (by kernel_rfl) rfl
    (fun f fn hf hfn => by
      obtain rfl : f = 3 := Option.some.inj ((show Tryz.prog.funcNamed "gridwork/gridworklaw23.TwoportSilent" = some 3 by kernel_rfl).symm.trans hf) |>.symm
      obtain rfl : fn = Tryz.f3 := (Option.some.inj (Tryz.func3.symm.trans hfn)).symm
      exact ⟨by kernel_rfl, fun j t ht => by
        rw [Tryz.params3] at ht
        have hm : t ∈ Tryz.f3.params.toList := by rw [Tryz.params3]; simpa using Array.mem_of_getElem? ht
        have hall : (Tryz.f3.params.toList.all fun u => !Tryz.prog.wantsStandIn u) = true := by kernel_rfl
        exact (show Tryz.prog.wantsStandIn t = false by simpa using List.all_eq_true.1 hall t hm)⟩)
    (by kernel_rfl)
#print axioms twoportSilent_card
end Go.Proofs.YtdepiggjneoopaaGreatDoor
