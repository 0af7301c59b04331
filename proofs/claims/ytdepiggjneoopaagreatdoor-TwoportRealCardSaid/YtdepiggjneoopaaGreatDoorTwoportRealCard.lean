/- TwoportReal: it returns true, of every input. The row, and the tied card. No condition but what the row itself lists. -/
import Derived.Test.YtdepiggjneoopaaGreatDoorTwoportRealLift
import Derived.Test.YtdepiggjneoopaaGreatDoorTwoportRealShut
namespace Go.Proofs.YtdepiggjneoopaaGreatDoor
open Go.ChangeShapes Go.WideShapes Go.ChangeAt Go.RowKit Go.Joins Go.Deep
theorem twoportReal_holds : Rows.TwoportRealSaid :=
  OpenClaim.holds_of_wide 4 Tryz.f4 rfl rfl rfl rfl rfl rfl rfl ⟨rfl, rfl, rfl, rfl, rfl⟩ rfl rfl rfl rfl rfl twoportRealNamed Tryz.func4 twoportRealClosed
    twoportRealInst twoportRealWrap
    (fun os started H enc _ => twoportReal_lifted os started H enc)

/-- The tied card. -/
theorem twoportReal_card : Rows.TwoportRealCardSaid :=
  Claim7.holds_tied_plain_at .later [] [.data, .data, .widerDeep, .widerDeep, .data, .data, .data, .data, .data, .data, .sentinel, .sentinel, .listed, .data, .pinned, .pinned, .pinned] true (true, "8c2bfc366c2d8a360ec4bef638d655dc63301d50f314cff4af5675619f4391b9") true twoportReal_holds (fun _ h => by cases h) (by kernel_rfl) (fun _ h => by cases h) twoportReal_row_tie rfl ⟨rfl, rfl⟩ (by kernel_rfl) rfl
    (fun f fn hf hfn => by
      obtain rfl : f = 4 := Option.some.inj ((show Tryz.prog.funcNamed "gridwork/gridworklaw23.TwoportReal" = some 4 by kernel_rfl).symm.trans hf) |>.symm
      obtain rfl : fn = Tryz.f4 := (Option.some.inj (Tryz.func4.symm.trans hfn)).symm
      exact ⟨by kernel_rfl, fun j t ht => by
        rw [Tryz.params4] at ht
        have hm : t ∈ Tryz.f4.params.toList := by rw [Tryz.params4]; simpa using Array.mem_of_getElem? ht
        have hall : (Tryz.f4.params.toList.all fun u => !Tryz.prog.wantsStandIn u) = true := by kernel_rfl
        exact (show Tryz.prog.wantsStandIn t = false by simpa using List.all_eq_true.1 hall t hm)⟩)
    (by kernel_rfl)
#print axioms twoportReal_card
end Go.Proofs.YtdepiggjneoopaaGreatDoor
