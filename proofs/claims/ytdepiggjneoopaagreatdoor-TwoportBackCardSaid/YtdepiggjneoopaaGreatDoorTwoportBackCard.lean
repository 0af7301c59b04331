/- TwoportBack: it returns true, of every input. The row, and the tied card. No condition but what the row itself lists. -/
import Derived.Test.YtdepiggjneoopaaGreatDoorTwoportBackLift
import Derived.Test.YtdepiggjneoopaaGreatDoorTwoportBackShut
namespace Go.Proofs.YtdepiggjneoopaaGreatDoor
open Go.ChangeShapes Go.WideShapes Go.ChangeAt Go.RowKit Go.Joins Go.Deep
theorem twoportBack_holds : Rows.TwoportBackSaid :=
  OpenClaim.holds_of_wide 5 Tryz.f5 rfl rfl rfl rfl rfl rfl rfl ⟨rfl, rfl, rfl, rfl, rfl⟩ rfl rfl rfl rfl rfl twoportBackNamed Tryz.func5 twoportBackClosed
    twoportBackInst twoportBackWrap
    (fun os started H enc _ => twoportBack_lifted os started H enc)

/-- The tied card. -/
theorem twoportBack_card : Rows.TwoportBackCardSaid :=
  Claim7.holds_tied_plain_at .later [] [.data, .data, .widerDeep, .widerDeep, .data, .data, .data, .data, .data, .data, .sentinel, .sentinel, .listed, .data, .pinned, .pinned, .pinned] true (true, "8c2bfc366c2d8a360ec4bef638d655dc63301d50f314cff4af5675619f4391b9") true twoportBack_holds (fun _ h => by cases h) (by kernel_rfl) (fun _ h => by cases h) twoportBack_row_tie rfl ⟨rfl, rfl⟩ (by kernel_rfl) rfl
    (fun f fn hf hfn => by
      obtain rfl : f = 5 := Option.some.inj ((show Tryz.prog.funcNamed "gridwork/gridworklaw23.TwoportBack" = some 5 by kernel_rfl).symm.trans hf) |>.symm
      obtain rfl : fn = Tryz.f5 := (Option.some.inj (Tryz.func5.symm.trans hfn)).symm
      exact ⟨by kernel_rfl, fun j t ht => by
        rw [Tryz.params5] at ht
        have hm : t ∈ Tryz.f5.params.toList := by rw [Tryz.params5]; simpa using Array.mem_of_getElem? ht
        have hall : (Tryz.f5.params.toList.all fun u => !Tryz.prog.wantsStandIn u) = true := by kernel_rfl
        exact (show Tryz.prog.wantsStandIn t = false by simpa using List.all_eq_true.1 hall t hm)⟩)
    (by kernel_rfl)
#print axioms twoportBack_card
end Go.Proofs.YtdepiggjneoopaaGreatDoor
