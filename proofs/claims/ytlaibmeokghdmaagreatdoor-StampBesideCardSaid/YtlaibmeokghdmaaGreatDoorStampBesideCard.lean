/- StampBeside: it returns true, of every input. The row, and the tied card. No condition but what the row itself lists. -/
import Derived.Test.YtlaibmeokghdmaaGreatDoorStampBesideLift
import Derived.Test.YtlaibmeokghdmaaGreatDoorStampBesideShut
namespace Go.Proofs.YtlaibmeokghdmaaGreatDoor
open Go.ChangeShapes Go.WideShapes Go.ChangeAt Go.RowKit Go.Joins Go.Deep
theorem stampBeside_holds : Rows.StampBesideSaid :=
  OpenClaim.holds_of_wide 4 Tryz.f4 rfl rfl rfl rfl rfl rfl rfl ⟨rfl, rfl, rfl, rfl, rfl⟩ rfl rfl rfl rfl rfl stampBesideNamed Tryz.func4 stampBesideClosed
    stampBesideInst stampBesideWrap
    (fun os started H enc _ => stampBeside_lifted os started H enc)

/-- The tied card. -/
theorem stampBeside_card : Rows.StampBesideCardSaid :=
  Claim7.holds_tied_plain_at .later [] [.data, .data, .widerDeep, .widerDeep, .data, .data, .data, .data, .data, .data, .sentinel, .sentinel, .listed, .data, .pinned, .pinned, .pinned] true (true, "11cff0c5672a1a1ab30883c1b5cc8310b0fe9bc26d69aa7508e944a31f3079f5") true stampBeside_holds (fun _ h => by cases h) (by kernel_rfl) (fun _ h => by cases h) stampBeside_row_tie rfl ⟨rfl, rfl⟩ (by kernel_rfl) rfl
    (fun f fn hf hfn => by
      obtain rfl : f = 4 := Option.some.inj ((show Tryz.prog.funcNamed "gridwork/gridworklaw18.StampBeside" = some 4 by kernel_rfl).symm.trans hf) |>.symm
      obtain rfl : fn = Tryz.f4 := (Option.some.inj (Tryz.func4.symm.trans hfn)).symm
      exact ⟨by kernel_rfl, fun j t ht => by
        rw [Tryz.params4] at ht
        have hm : t ∈ Tryz.f4.params.toList := by rw [Tryz.params4]; simpa using Array.mem_of_getElem? ht
        have hall : (Tryz.f4.params.toList.all fun u => !Tryz.prog.wantsStandIn u) = true := by kernel_rfl
        exact (show Tryz.prog.wantsStandIn t = false by simpa using List.all_eq_true.1 hall t hm)⟩)
    (by kernel_rfl)
#print axioms stampBeside_card
end Go.Proofs.YtlaibmeokghdmaaGreatDoor
