/- A number that comes in by its bits, opened. -/
import Derived.Test.YtfljneapjcnpiaaGreatDoorLaw
namespace Go.Proofs.YtfljneapjcnpiaaGreatDoor
open Go.ChangeShapes Go.WideShapes Go.ChangeAt Go.RowKit Go.Joins

set_option maxRecDepth 100000 in
/-- A number handed in by the bits of its parts. -/
theorem open_z {H : Type} {enc : TypeId × Value → H} {W : World} {base b0 : Nat} {spare : Nat → Bool} {held : Bool} {r : Reach} {v : Value} {d : DataW H} {ps : List MemPlace}
    (hval : Value.okWide Tryz.prog W r b0 24 v) (hd : DataW.Trod enc Tryz.prog W base spare held 24 v d ps) :
    ∃ x y : Nat, v = .agg #[.int .u64 x, .int .u64 y] := by
  obtain ⟨c0, c1, y0, y1, m, rfl, rfl, rfl, hy0, hy1⟩ := open_agg2 Tryz.underlying24 (by kernel_rfl) (by kernel_rfl) hval hd
  obtain ⟨a, e0, rfl, wa⟩ := DataW.trod_int Tryz.underlying22 hy0
  obtain ⟨b, e1, rfl, wb⟩ := DataW.trod_int Tryz.underlying22 hy1
  simp at e0 e1
  subst e0 e1
  have h1 : 0 ≤ a := by simp [Lit.wf] at wa; exact wa.1
  have h2 : 0 ≤ b := by simp [Lit.wf] at wb; exact wb.1
  exact ⟨a.toNat, b.toNat, by rw [Int.toNat_of_nonneg h1, Int.toNat_of_nonneg h2]⟩
end Go.Proofs.YtfljneapjcnpiaaGreatDoor
