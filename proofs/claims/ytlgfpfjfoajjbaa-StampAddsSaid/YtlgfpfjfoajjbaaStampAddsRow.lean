/- StampAdds: of every matrix (one that is none, too), place and number: no condition but the form's reach. -/
import Derived.Test.YtlgfpfjfoajjbaaOpen
import Derived.Test.YtlgfpfjfoajjbaaStampAdds
import Derived.Test.YtlgfpfjfoajjbaaTheveninLoads
namespace Go.Proofs.Ytlgfpfjfoajjbaa
open Go.ChangeShapes Go.WideShapes Go.ChangeAt Go.RowKit Go.Joins Go.Deep

theorem length_two {α : Type} {l : List α} (h : l.length = 2) : ∃ a b, l = [a, b] := by
  match l, h with
  | [a, b], _ => exact ⟨a, b, rfl⟩
/-- A number's bits that came in, by its cells. -/
theorem open_zc {H : Type} {enc : TypeId × Value → H} {W : World} {base fuel : Nat} {spare : Nat → Bool} {held : Bool} {cs : List Value} {d : DataW H} {ps : List MemPlace}
    (hf : DataW.trod enc Try.prog W base spare held fuel 38 cs = some (d, ps)) : ∃ z : Cx, cs = zc z := by
  obtain ⟨xs, n, rfl, hx, hl, hxl, hel⟩ := DataW.trod_struct Try.underlying38 hf
  have hl2 : cs.length = 2 := hl.trans (by kernel_rfl)
  obtain ⟨c0, c1, rfl⟩ := length_two hl2
  obtain ⟨x0, x1, rfl⟩ := length_two (show xs.length = 2 from hxl)
  have h0 := hel 0 _ rfl
  have h1 := hel 1 _ rfl
  have hc : Try.prog.cellsOf 36 = 1 := by kernel_rfl
  have h0' : DataW.trod enc Try.prog W base spare held n 36 [c0] = some x0 := by simpa [hc] using h0
  have h1' : DataW.trod enc Try.prog W base spare held n 36 [c1] = some x1 := by simpa [hc] using h1
  obtain ⟨a, e0, _, wa⟩ := DataW.trod_int Try.underlying36 h0'
  obtain ⟨b, e1, _, wb⟩ := DataW.trod_int Try.underlying36 h1'
  simp at e0 e1
  have g0 : 0 ≤ a := by simp [Lit.wf] at wa; exact wa.1
  have g1 : 0 ≤ b := by simp [Lit.wf] at wb; exact wb.1
  exact ⟨(a.toNat, b.toNat), by simp [zc, e0, e1, Int.toNat_of_nonneg g0, Int.toNat_of_nonneg g1]⟩
/-- A list of numbers by their bits that came in. -/
theorem open_zs {H : Type} {enc : TypeId × Value → H} {W : World} {base fuel : Nat} {spare : Nat → Bool} {held : Bool} {v : Value} {d : DataW H} {ps : List MemPlace}
    (hf : DataW.trod enc Try.prog W base spare held fuel 35 [v] = some (d, ps)) (hs : Small Try.prog 35 d) :
    ∃ l : List Cx, InSl W 2 v l.length (l.flatMap zc) ∧ l.length * 16 ≤ reachBytes := by
  obtain ⟨n, E, D, r, h1, h2, h3⟩ := open_sl (P := Try.prog) (size := 2) Try.underlying35 (by kernel_rfl) (by decide) hf
  obtain ⟨B, hB⟩ := choose_lt (n := n) (α := Cx) (p := fun i z => E i = zc z) (fun i hi => by
    obtain ⟨_, f, q, h4⟩ := h3 i hi
    exact open_zc h4)
  refine ⟨(List.range n).map B, ?_, ?_⟩
  · have : ((List.range n).map B).flatMap zc = (List.range n).flatMap E := by
      rw [List.flatMap_def, List.flatMap_def, List.map_map]
      congr 1
      exact List.map_congr_left fun i hi => (hB i (by simpa using hi)).symm
    rw [this]; simpa using h1
  · simp only [List.length_map, List.length_range]
    rcases h2 with rfl | rfl
    · simp
    · have := (small_slice Try.underlying35 hs).1
      rw [show Try.prog.bytesOf 38 = 16 from by kernel_rfl] at this; simpa using this

set_option maxRecDepth 100000 in
theorem adds_lifted (os : Os) (started : os.Started) (H : Type) (enc : TypeId × Value → H) :
    ReturnsInHanded {} Try.checked os 4 .any (Rows.stampAddsSpec.pre6 enc Try.prog Try.f4 Rows.stampAddsRow.domain false) (Rows.stampAddsSpec.post enc Try.prog Try.f4 false true false false) := by
  refine returnsInHanded_of_change_sized (C := Try.checked) Try.own started (by kernel_rfl) Try.func4
    (ChangeSpec.witness6 (enc := enc) (C := Try.checked) false ⟨#[], #[.int .i64 0, .int .i64 0, .slice none 0 0, .int .i64 0, .int .i64 0, .agg #[.int .u64 0, .int .u64 0]], []⟩ 8 (by kernel_rfl) (by kernel_rfl) (by kernel_rfl) (by kernel_rfl)) ?_
  intro W base args ds gs before hval0 hW hcnd hsz0 _
  have hval : ∀ (j : Nat) t v, Try.f4.params[j]? = some t → args[j]? = some v → Value.okWide Try.prog W .any base t v := hval0
  have hsz1 : (DataW.weightsEach Try.prog (Try.f4.params.toList ++ []) (ds ++ gs)).all (· ≤ reachBytes) = true := hsz0
  have hW' := hW
  obtain ⟨p, q, hA0, hV, rfl, hfz, hnd⟩ := hW
  have hA : DataW.TrodAll enc Try.prog W 0 (fun _ => true) true Try.f4.params.toList args.toList ds p := hA0
  rw [Try.params4] at hA hsz1 hval
  obtain ⟨v0, w0, d0, e0, p0, q0, ha0, rfl, rfl, h0, r0⟩ := trodAll_cons hA
  obtain ⟨v1, w1, d1, e1, p1, q1, rfl, rfl, rfl, h1, r1⟩ := trodAll_cons r0
  obtain ⟨v2, w2, d2, e2, p2, q2, rfl, rfl, rfl, h2, r2⟩ := trodAll_cons r1
  obtain ⟨v3, w3, d3, e3, p3, q3, rfl, rfl, rfl, h3, r3⟩ := trodAll_cons r2
  obtain ⟨v4, w4, d4, e4, p4, q4, rfl, rfl, rfl, h4, r4⟩ := trodAll_cons r3
  obtain ⟨v5, w5, d5, e5, p5, q5, rfl, rfl, rfl, h5, r5⟩ := trodAll_cons r4
  obtain ⟨rfl, rfl, rfl⟩ := trodAll_nil r5
  have hargs : args = #[v0, v1, v2, v3, v4, v5] := by cases args; simp_all
  subst hargs
  obtain ⟨rfl, rfl⟩ := trodVars_none hV
  obtain ⟨n0, rfl, _, _, _⟩ := open_int Try.underlying3 (hval 0 3 v0 rfl rfl) h0
  obtain ⟨n1, rfl, _, _, _⟩ := open_int Try.underlying3 (hval 1 3 v1 rfl rfl) h1
  obtain ⟨a2, n2, c2, rfl⟩ := okWide_slice Try.underlying35 (hval 2 35 v2 rfl rfl)
  obtain ⟨n3, rfl, _, _, _⟩ := open_int Try.underlying3 (hval 3 3 v3 rfl rfl) h3
  obtain ⟨n4, rfl, _, _, _⟩ := open_int Try.underlying3 (hval 4 3 v4 rfl rfl) h4
  obtain ⟨x, y, rfl⟩ := open_z (hval 5 38 v5 rfl rfl) h5
  obtain ⟨fuel, h2⟩ := h2
  obtain ⟨_, hs1⟩ := small_head hsz1
  obtain ⟨_, hs2⟩ := small_head hs1
  obtain ⟨hs, _⟩ := small_head hs2
  obtain ⟨l, hR, hm⟩ := open_zs h2 hs
  refine (adds_walk n0 n1 _ l n3 n4 x y W hR (Nat.le_trans hm (by decide))).mono fun e W' ⟨he, hb⟩ => ?_
  subst he
  exact ⟨_, rfl, post_true Try.laidOut (by kernel_rfl) Try.underlying4 (by kernel_rfl) rfl rfl hW' hb⟩

/-- The statement. -/
theorem stampAdds_holds : Rows.StampAddsSaid :=
  OpenClaim.holds_of_wide 4 Try.f4 rfl rfl rfl rfl rfl rfl rfl ⟨rfl, rfl, rfl, rfl, rfl⟩ rfl rfl rfl rfl rfl (by kernel_rfl) Try.func4 (by kernel_rfl)
    (of_decide_eq_true (by kernel_rfl)) (by unfold Func.isWrapper; rw [if_neg (of_decide_eq_false (by kernel_rfl))]; exact ⟨rfl, rfl⟩)
    (fun os started H enc _ => adds_lifted os started H enc)
#print axioms stampAdds_holds
end Go.Proofs.Ytlgfpfjfoajjbaa
