/- StampMatrix: of every net that may be, and every omega (by its bits), the matrix, or the fault, and what the rows stand for: no condition but the form's reach. -/
import Derived.Test.YtejooaeppcjhjaaSMat
import Derived.Test.YtejooaeppcjhjaaMOpenEls
import Derived.ChangeMaps5
namespace Go.Proofs.Ytejooaeppcjhjaa
open Go.ChangeShapes Go.WideShapes Go.ChangeAt Go.RowKit Go.Joins Go.Deep

set_option maxRecDepth 100000 in
theorem smat_lifted (os : Os) (started : os.Started) (H : Type) (enc : TypeId × Value → H) :
    ReturnsInHanded {} Try.checked os 3 .any (Rows.stampMatrixSpec.pre6 enc Try.prog Try.f3 Rows.stampMatrixRow.domain false) (Rows.stampMatrixSpec.post enc Try.prog Try.f3 false true false false) := by
  refine returnsInHanded_of_change_sized (C := Try.checked) Try.own started (by kernel_rfl) Try.func3
    (ChangeSpec.witness6 (enc := enc) (C := Try.checked) false ⟨#[], #[.slice none 0 0, .int .u64 0], []⟩ 8 (by kernel_rfl) (by kernel_rfl) (by kernel_rfl) (by kernel_rfl)) ?_
  intro W base args ds gs before hval0 hW hcnd hsz0 _
  have hval : ∀ (j : Nat) t v, Try.f3.params[j]? = some t → args[j]? = some v → Value.okWide Try.prog W .any base t v := hval0
  have hsz1 : (DataW.weightsEach Try.prog (Try.f3.params.toList ++ []) (ds ++ gs)).all (· ≤ reachBytes) = true := hsz0
  have hW' := hW
  obtain ⟨p, q, hA0, hV, rfl, hfz, hnd⟩ := hW
  have hA : DataW.TrodAll enc Try.prog W 0 (fun _ => true) true Try.f3.params.toList args.toList ds p := hA0
  rw [Try.params3] at hA hsz1 hval
  obtain ⟨v0, v1, d0, d1, p0, p1, rfl, rfl, rfl, h0, h1⟩ := trodAll_two hA
  obtain ⟨rfl, rfl⟩ := trodVars_none hV
  obtain ⟨a0, n0, c0, rfl⟩ := okWide_slice Try.underlying22 (hval 0 22 v0 rfl rfl)
  obtain ⟨hs0, _⟩ := small_head hsz1
  obtain ⟨m, rfl, _, _, wa⟩ := open_int Try.underlying23 (hval 1 23 v1 rfl rfl) h1
  obtain ⟨fuel, h0⟩ := h0
  obtain ⟨l, hR, hm, hok⟩ := open_els h0 hs0
  have g0 : 0 ≤ m := by simp [Lit.wf] at wa; exact wa.1
  obtain ⟨om, rfl⟩ : ∃ om : Nat, m = (om : Int) := ⟨m.toNat, by omega⟩
  refine (smat_walk _ l om W hR (Nat.le_trans hm (by decide)) hok).mono fun e W' ⟨he, hb⟩ => ?_
  subst he
  exact ⟨_, rfl, post_true Try.laidOut (by kernel_rfl) Try.underlying4 (by kernel_rfl) rfl rfl hW' hb⟩

/-- The statement. -/
theorem stampMatrix_holds : Rows.StampMatrixSaid :=
  OpenClaim.holds_of_wide 3 Try.f3 rfl rfl rfl rfl rfl rfl rfl ⟨rfl, rfl, rfl, rfl, rfl⟩ rfl rfl rfl rfl rfl (by kernel_rfl) Try.func3 (by kernel_rfl)
    (of_decide_eq_true (by kernel_rfl)) (by unfold Func.isWrapper; rw [if_neg (of_decide_eq_false (by kernel_rfl))]; exact ⟨rfl, rfl⟩)
    (fun os started H enc _ => smat_lifted os started H enc)
#print axioms stampMatrix_holds
end Go.Proofs.Ytejooaeppcjhjaa
