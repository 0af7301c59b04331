/- WaveSums: of every list of rows of numbers, the sums of the package wave and of the reference are the same: no condition but the form's reach. -/
import Derived.Test.YtlgfpfjfoajjbaaOpen
import Derived.Test.YtlgfpfjfoajjbaaWaveSums
namespace Go.Proofs.Ytlgfpfjfoajjbaa
open Go.ChangeShapes Go.WideShapes Go.ChangeAt Go.RowKit Go.Joins Go.Deep

/-- A list of rows of words that came in. -/
theorem open_urows {H : Type} {enc : TypeId × Value → H} {W : World} {base fuel : Nat} {spare : Nat → Bool} {held : Bool} {v : Value} {d : DataW H} {ps : List MemPlace}
    (hf : DataW.trod enc Try.prog W base spare held fuel 22 [v] = some (d, ps)) (hs : Small Try.prog 22 d) :
    ∃ (m : Nat) (V : Nat → Value) (L : Nat → List Nat), URows W v m V L ∧ m * 24 ≤ reachBytes ∧ ∀ j, j < m → (L j).length * 8 ≤ reachBytes := by
  obtain ⟨n, V, D, r, h1, h2, h3⟩ := open_sl1 (P := Try.prog) Try.underlying22 (by kernel_rfl) hf
  have hD : ∀ i, i < n → Small Try.prog 26 (D i) := by
    intro i hi
    rcases h2 with rfl | rfl
    · omega
    · exact (small_slice Try.underlying22 hs).2 _ (List.mem_map.2 ⟨i, by simpa using hi, rfl⟩)
  obtain ⟨L, hL⟩ := choose_lt (n := n) (α := List Nat) (p := fun i l => InSl W 1 (V i) l.length (l.map fun b : Nat => Value.int .u64 b) ∧ l.length * 8 ≤ reachBytes) (fun i hi => by
    obtain ⟨f, q, h4⟩ := h3 i hi
    exact open_us (P := Try.prog) Try.underlying26 (by kernel_rfl) Try.underlying36 (by kernel_rfl) h4 (hD i hi))
  refine ⟨n, V, L, ⟨h1, fun j hj => (hL j hj).1⟩, ?_, fun j hj => (hL j hj).2⟩
  rcases h2 with rfl | rfl
  · simp
  · have := (small_slice Try.underlying22 hs).1
    rw [show Try.prog.bytesOf 26 = 24 from by kernel_rfl] at this; simpa using this

set_option maxRecDepth 100000 in
theorem sums_lifted (os : Os) (started : os.Started) (H : Type) (enc : TypeId × Value → H) :
    ReturnsInHanded {} Try.checked os 3 .any (Rows.waveSumsSpec.pre6 enc Try.prog Try.f3 Rows.waveSumsRow.domain false) (Rows.waveSumsSpec.post enc Try.prog Try.f3 false true false false) := by
  refine returnsInHanded_of_change_sized (C := Try.checked) Try.own started (by kernel_rfl) Try.func3
    (ChangeSpec.witness6 (enc := enc) (C := Try.checked) false ⟨#[], #[.slice none 0 0], []⟩ 8 (by kernel_rfl) (by kernel_rfl) (by kernel_rfl) (by kernel_rfl)) ?_
  intro W base args ds gs before hval0 hW hcnd hsz0 _
  have hval : ∀ (j : Nat) t v, Try.f3.params[j]? = some t → args[j]? = some v → Value.okWide Try.prog W .any base t v := hval0
  have hsz1 : (DataW.weightsEach Try.prog (Try.f3.params.toList ++ []) (ds ++ gs)).all (· ≤ reachBytes) = true := hsz0
  have hW' := hW
  obtain ⟨p, q, hA0, hV, rfl, hfz, hnd⟩ := hW
  have hA : DataW.TrodAll enc Try.prog W 0 (fun _ => true) true Try.f3.params.toList args.toList ds p := hA0
  rw [Try.params3] at hA hsz1 hval
  obtain ⟨v0, d0, rfl, rfl, h0⟩ := trodAll_one hA
  obtain ⟨rfl, rfl⟩ := trodVars_none hV
  obtain ⟨a0, n0, c0, rfl⟩ := okWide_slice Try.underlying22 (hval 0 22 v0 rfl rfl)
  obtain ⟨fuel, h0⟩ := h0
  obtain ⟨hs, _⟩ := small_head hsz1
  obtain ⟨m, V, L, hR, hm, hn⟩ := open_urows h0 hs
  refine (sums_walk _ m V L W hR (Nat.le_trans hm (by decide)) (fun j hj => Nat.le_trans (hn j hj) (by decide))).mono fun e W' ⟨he, hb⟩ => ?_
  subst he
  exact ⟨_, rfl, post_true Try.laidOut (by kernel_rfl) Try.underlying4 (by kernel_rfl) rfl rfl hW' hb⟩

/-- The statement. -/
theorem waveSums_holds : Rows.WaveSumsSaid :=
  OpenClaim.holds_of_wide 3 Try.f3 rfl rfl rfl rfl rfl rfl rfl ⟨rfl, rfl, rfl, rfl, rfl⟩ rfl rfl rfl rfl rfl (by kernel_rfl) Try.func3 (by kernel_rfl)
    (of_decide_eq_true (by kernel_rfl)) (by unfold Func.isWrapper; rw [if_neg (of_decide_eq_false (by kernel_rfl))]; exact ⟨rfl, rfl⟩)
    (fun os started H enc _ => sums_lifted os started H enc)
#print axioms waveSums_holds
end Go.Proofs.Ytlgfpfjfoajjbaa
