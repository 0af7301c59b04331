/- CurrentAll: of every net, every solution that fits it, or does not, and every name: All and Through: no condition but the form's reach. -/
import Derived.Test.YtaobncojdonhlaaCurAll
import Derived.Test.YtaobncojdonhlaaLaw
import Derived.ChangeMaps5
import Derived.Test.YtaobncojdonhlaaOpenEls
import Derived.Test.YtaobncojdonhlaaOpenZs
namespace Go.Proofs.Ytaobncojdonhlaa
open Go.ChangeShapes Go.WideShapes Go.ChangeAt Go.RowKit Go.Joins Go.Deep

theorem small_agg {H : Type} {P : Program} {t : TypeId} {fs : Array Field} (ht : P.underlying t = some (.struct fs)) {parts : List (DataW H)} (h : Small P t (.agg parts)) :
    (DataW.weightsEach P (fs.toList.map (·.type)) parts).all (· ≤ reachBytes) = true := by
  rw [List.all_eq_true]
  intro x hx
  have := h x (by unfold DataW.weights; rw [ht]; exact hx)
  simpa using this
set_option maxRecDepth 100000 in
/-- A solution that came in. -/
theorem open_sol {H : Type} {enc : TypeId × Value → H} {W : World} {base b0 : Nat} {spare : Nat → Bool} {held : Bool} {r : Reach} {v : Value} {d : DataW H} {ps : List MemPlace}
    (hval : Value.okWide Try.prog W r b0 26 v) (hd : DataW.Trod enc Try.prog W base spare held 26 v d ps) (hs : Small Try.prog 26 d) :
    ∃ (om : Nat) (v1 v2 : Value) (ft : Bool) (V A : List Cx), v = .agg #[.int .u64 om, v1, v2, .bool ft] ∧ InSl W 2 v1 V.length (V.flatMap zc) ∧ InSl W 2 v2 A.length (A.flatMap zc) ∧ V.length * 16 ≤ reachBytes ∧ A.length * 16 ≤ reachBytes := by
  obtain ⟨c0, c1, c2, c3, y0, y1, y2, y3, m, rfl, rfl, rfl, hy0, hy1, hy2, hy3⟩ := open_agg4 Try.underlying26 (by kernel_rfl) (by kernel_rfl) hval hd
  have hsa := small_agg Try.underlying26 hs
  obtain ⟨_, hs1⟩ := small_head hsa
  obtain ⟨h1, hs2⟩ := small_head hs1
  obtain ⟨h2, _⟩ := small_head hs2
  obtain ⟨a, e0, rfl, wa⟩ := DataW.trod_int Try.underlying23 hy0
  obtain ⟨bo, e3, _⟩ := DataW.trod_bool Try.underlying4 hy3
  obtain ⟨V, hV, hVl⟩ := open_zs hy1 h1
  obtain ⟨A, hA, hAl⟩ := open_zs hy2 h2
  simp at e0 e3
  subst e0 e3
  have g0 : 0 ≤ a := by simp [Lit.wf] at wa; exact wa.1
  exact ⟨a.toNat, c1, c2, bo, V, A, by rw [Int.toNat_of_nonneg g0], hV, hA, hVl, hAl⟩
set_option maxRecDepth 100000 in
theorem curall_lifted (os : Os) (started : os.Started) (H : Type) (enc : TypeId × Value → H) :
    ReturnsInHanded {} Try.checked os 3 .any (Rows.currentAllSpec.pre6 enc Try.prog Try.f3 Rows.currentAllRow.domain false) (Rows.currentAllSpec.post enc Try.prog Try.f3 false true false false) := by
  refine returnsInHanded_of_change_sized (C := Try.checked) Try.own started (by kernel_rfl) Try.func3
    (ChangeSpec.witness6 (enc := enc) (C := Try.checked) false ⟨#[], #[.slice none 0 0, .agg #[.int .u64 0, .slice none 0 0, .slice none 0 0, .bool false], .string ⟨#[]⟩], []⟩ 8 (by kernel_rfl) (by kernel_rfl) (by kernel_rfl) (by kernel_rfl)) ?_
  intro W base args ds gs before hval0 hW hcnd hsz0 _
  have hval : ∀ (j : Nat) t v, Try.f3.params[j]? = some t → args[j]? = some v → Value.okWide Try.prog W .any base t v := hval0
  have hsz1 : (DataW.weightsEach Try.prog (Try.f3.params.toList ++ []) (ds ++ gs)).all (· ≤ reachBytes) = true := hsz0
  have hW' := hW
  obtain ⟨p, q, hA0, hV, rfl, hfz, hnd⟩ := hW
  have hA : DataW.TrodAll enc Try.prog W 0 (fun _ => true) true Try.f3.params.toList args.toList ds p := hA0
  rw [Try.params3] at hA hsz1 hval
  obtain ⟨v0, v1, v2, d0, d1, d2, p0, p1, p2, rfl, rfl, rfl, h0, h1, h2⟩ := trodAll_three hA
  obtain ⟨rfl, rfl⟩ := trodVars_none hV
  obtain ⟨a0, n0, c0, rfl⟩ := okWide_slice Try.underlying22 (hval 0 22 v0 rfl rfl)
  obtain ⟨hs0, hs1⟩ := small_head hsz1
  obtain ⟨hs1, hs2⟩ := small_head hs1
  obtain ⟨om, u1, u2, ft, V, A, rfl, hVi, hAi, hVl, hAl⟩ := open_sol (hval 1 26 v1 rfl rfl) h1 hs1
  obtain ⟨s, rfl, _, _, ws⟩ := Go.ChangeMaps.open_string Try.underlying9 (hval 2 9 v2 rfl rfl) h2
  obtain ⟨fuel, h0⟩ := h0
  obtain ⟨l, hR, hm, hok⟩ := open_els h0 hs0
  refine (curall_walk _ u1 u2 l om ft V A s W hR (Nat.le_trans hm (by decide)) hok hVi hAi (Nat.le_trans hVl (by decide)) (Nat.le_trans hAl (by decide)) ws).mono fun e W' ⟨he, hb⟩ => ?_
  subst he
  exact ⟨_, rfl, post_true Try.laidOut (by kernel_rfl) Try.underlying4 (by kernel_rfl) rfl rfl hW' hb⟩

/-- The statement. -/
theorem currentAll_holds : Rows.CurrentAllSaid :=
  OpenClaim.holds_of_wide 3 Try.f3 rfl rfl rfl rfl rfl rfl rfl ⟨rfl, rfl, rfl, rfl, rfl⟩ rfl rfl rfl rfl rfl (by kernel_rfl) Try.func3 (by kernel_rfl)
    (of_decide_eq_true (by kernel_rfl)) (by unfold Func.isWrapper; rw [if_neg (of_decide_eq_false (by kernel_rfl))]; exact ⟨rfl, rfl⟩)
    (fun os started H enc _ => curall_lifted os started H enc)
#print axioms currentAll_holds
end Go.Proofs.Ytaobncojdonhlaa
