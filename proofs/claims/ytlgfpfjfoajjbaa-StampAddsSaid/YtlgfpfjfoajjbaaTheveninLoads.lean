/- TheveninLoads: of every three numbers, Load of the package thevenin and Load of the reference give the same error and the same number: no condition. -/
import Derived.Test.YtlgfpfjfoajjbaaLoads
import Derived.Test.YtlgfpfjfoajjbaaLaw
namespace Go.Proofs.Ytlgfpfjfoajjbaa
open Go.ChangeShapes Go.WideShapes Go.ChangeAt Go.RowKit Go.Joins

/-- A number handed in by the bits of its parts. -/
theorem open_z {H : Type} {enc : TypeId × Value → H} {W : World} {base b0 : Nat} {spare : Nat → Bool} {held : Bool} {r : Reach} {v : Value} {d : DataW H} {ps : List MemPlace}
    (hval : Value.okWide Try.prog W r b0 38 v) (hd : DataW.Trod enc Try.prog W base spare held 38 v d ps) :
    ∃ x y : Nat, v = .agg #[.int .u64 x, .int .u64 y] := by
  obtain ⟨c0, c1, y0, y1, m, rfl, rfl, rfl, hy0, hy1⟩ := open_agg2 Try.underlying38 (by kernel_rfl) (by kernel_rfl) hval hd
  obtain ⟨a, e0, rfl, wa⟩ := DataW.trod_int Try.underlying36 hy0
  obtain ⟨b, e1, rfl, wb⟩ := DataW.trod_int Try.underlying36 hy1
  simp at e0 e1
  subst e0 e1
  have h1 : 0 ≤ a := by simp [Lit.wf] at wa; exact wa.1
  have h2 : 0 ≤ b := by simp [Lit.wf] at wb; exact wb.1
  exact ⟨a.toNat, b.toNat, by rw [Int.toNat_of_nonneg h1, Int.toNat_of_nonneg h2]⟩

set_option maxRecDepth 100000 in
theorem loads_lifted (os : Os) (started : os.Started) (H : Type) (enc : TypeId × Value → H) :
    ReturnsInHanded {} Try.checked os 5 .any (Rows.theveninLoadsSpec.pre6 enc Try.prog Try.f5 Rows.theveninLoadsRow.domain false) (Rows.theveninLoadsSpec.post enc Try.prog Try.f5 false true false false) := by
  refine returnsInHanded_of_change (C := Try.checked) Try.own started (by kernel_rfl) Try.func5
    (ChangeSpec.witness6 (enc := enc) (C := Try.checked) false ⟨#[], #[.agg #[.int .u64 0, .int .u64 0], .agg #[.int .u64 0, .int .u64 0], .agg #[.int .u64 0, .int .u64 0]], []⟩ 8 (by kernel_rfl) (by kernel_rfl) (by kernel_rfl) (by kernel_rfl)) ?_
  intro W base args ds gs before hval0 hW hcnd _
  have hval : ∀ (j : Nat) t v, Try.f5.params[j]? = some t → args[j]? = some v → Value.okWide Try.prog W .any base t v := hval0
  have hW' := hW
  obtain ⟨p, q, hA0, hV, rfl, hfz, hnd⟩ := hW
  have hA : DataW.TrodAll enc Try.prog W 0 (fun _ => true) true Try.f5.params.toList args.toList ds p := hA0
  rw [Try.params5] at hA hval
  obtain ⟨v0, v1, v2, d0, d1, d2, p0, p1, p2, rfl, rfl, rfl, h0, h1, h2⟩ := trodAll_three hA
  obtain ⟨rfl, rfl⟩ := trodVars_none hV
  obtain ⟨a, b, rfl⟩ := open_z (hval 0 38 v0 rfl rfl) h0
  obtain ⟨c, d, rfl⟩ := open_z (hval 1 38 v1 rfl rfl) h1
  obtain ⟨x, y, rfl⟩ := open_z (hval 2 38 v2 rfl rfl) h2
  refine (loads_any a b c d x y W).mono fun e W' ⟨he, hb⟩ => ?_
  subst he
  exact ⟨_, rfl, post_true Try.laidOut (by kernel_rfl) Try.underlying4 (by kernel_rfl) rfl rfl hW' hb⟩

/-- The statement. -/
theorem theveninLoads_holds : Rows.TheveninLoadsSaid :=
  OpenClaim.holds_of_wide 5 Try.f5 rfl rfl rfl rfl rfl rfl rfl ⟨rfl, rfl, rfl, rfl, rfl⟩ rfl rfl rfl rfl rfl (by kernel_rfl) Try.func5 (by kernel_rfl)
    (of_decide_eq_true (by kernel_rfl)) (by unfold Func.isWrapper; rw [if_neg (of_decide_eq_false (by kernel_rfl))]; exact ⟨rfl, rfl⟩)
    (fun os started H enc _ => loads_lifted os started H enc)
#print axioms theveninLoads_holds
end Go.Proofs.Ytlgfpfjfoajjbaa
