/- A list of elements that came in, opened. -/
import Derived.Test.YtjeedckmkicnoaaGreatDoorMOpen
import Derived.Test.YtjeedckmkicnoaaGreatDoorMEls
import Derived.Test.YtjeedckmkicnoaaGreatDoorMElements
import Derived.ChangeMaps5
namespace Go.Proofs.YtjeedckmkicnoaaGreatDoor

section
open Go.ChangeShapes Go.WideShapes Go.ChangeAt Go.RowKit Go.Joins Go.Deep

instance : Inhabited El := ⟨⟨0, ⟨#[]⟩, ⟨#[]⟩, ⟨#[]⟩, ⟨#[]⟩, ⟨#[]⟩, 0, 0⟩⟩
theorem length_eight {α : Type} {l : List α} (h : l.length = 8) : ∃ a b c d e f g i, l = [a, b, c, d, e, f, g, i] := by
  match l, h with
  | [a, b, c, d, e, f, g, i], _ => exact ⟨a, b, c, d, e, f, g, i, rfl⟩
/-- An element's cells. -/
theorem open_ez {H : Type} {enc : TypeId × Value → H} {W : World} {base fuel : Nat} {spare : Nat → Bool} {held : Bool} {cs : List Value} {d : DataW H} {ps : List MemPlace}
    (hf : DataW.trod enc Tryz.prog W base spare held fuel 91 cs = some (d, ps)) : ∃ e : El, cs = ez e ∧ e.Ok ∧ -9223372036854775808 ≤ e.ph ∧ e.ph < 9223372036854775808 := by
  obtain ⟨xs, n, rfl, hx, hl, hxl, hel⟩ := DataW.trod_struct Tryz.underlying91 hf
  have hl2 : cs.length = 8 := hl.trans (by kernel_rfl)
  obtain ⟨c0, c1, c2, c3, c4, c5, c6, c7, rfl⟩ := length_eight hl2
  obtain ⟨x0, x1, x2, x3, x4, x5, x6, x7, rfl⟩ := length_eight (show xs.length = 8 from hxl)
  have hu8 : Tryz.prog.cellsOf 5 = 1 := by kernel_rfl
  have hst : Tryz.prog.cellsOf 9 = 1 := by kernel_rfl
  have hu64 : Tryz.prog.cellsOf 23 = 1 := by kernel_rfl
  have hin : Tryz.prog.cellsOf 3 = 1 := by kernel_rfl
  have h0 : DataW.trod enc Tryz.prog W base spare held n 5 [c0] = some x0 := by simpa [hu8] using hel 0 _ rfl
  have h1 : DataW.trod enc Tryz.prog W base spare held n 9 [c1] = some x1 := by simpa [hst] using hel 1 _ rfl
  have h2 : DataW.trod enc Tryz.prog W base spare held n 9 [c2] = some x2 := by simpa [hst] using hel 2 _ rfl
  have h3 : DataW.trod enc Tryz.prog W base spare held n 9 [c3] = some x3 := by simpa [hst] using hel 3 _ rfl
  have h4 : DataW.trod enc Tryz.prog W base spare held n 9 [c4] = some x4 := by simpa [hst] using hel 4 _ rfl
  have h5 : DataW.trod enc Tryz.prog W base spare held n 9 [c5] = some x5 := by simpa [hst] using hel 5 _ rfl
  have h6 : DataW.trod enc Tryz.prog W base spare held n 23 [c6] = some x6 := by simpa [hu64] using hel 6 _ rfl
  have h7 : DataW.trod enc Tryz.prog W base spare held n 3 [c7] = some x7 := by simpa [hin] using hel 7 _ rfl
  obtain ⟨k, e0, _, _⟩ := DataW.trod_int Tryz.underlying5 h0
  obtain ⟨s1, e1, _, g1⟩ := DataW.trod_string Tryz.underlying9 h1
  obtain ⟨s2, e2, _, g2⟩ := DataW.trod_string Tryz.underlying9 h2
  obtain ⟨s3, e3, _, g3⟩ := DataW.trod_string Tryz.underlying9 h3
  obtain ⟨s4, e4, _, g4⟩ := DataW.trod_string Tryz.underlying9 h4
  obtain ⟨s5, e5, _, g5⟩ := DataW.trod_string Tryz.underlying9 h5
  obtain ⟨v, e6, _, wv⟩ := DataW.trod_int Tryz.underlying23 h6
  obtain ⟨p, e7, _, wp⟩ := DataW.trod_int Tryz.underlying3 h7
  simp at e0 e1 e2 e3 e4 e5 e6 e7
  have gv : 0 ≤ v ∧ v < 18446744073709551616 := by
    have h1 : IntKind.u64.min = 0 := by decide
    have h2 : IntKind.u64.max = 18446744073709551615 := by decide
    simp [Lit.wf] at wv; omega
  have gp : -9223372036854775808 ≤ p ∧ p < 9223372036854775808 := by
    have h1 : IntKind.i64.min = -9223372036854775808 := by decide
    have h2 : IntKind.i64.max = 9223372036854775807 := by decide
    simp [Lit.wf] at wp; omega
  refine ⟨⟨k, s1, s2, s3, s4, s5, v.toNat, p⟩, by simp [ez, e0, e1, e2, e3, e4, e5, e6, e7, Int.toNat_of_nonneg gv.1], ⟨g1, g2, g3, g4, g5, ?_⟩, gp⟩
  show v.toNat < 18446744073709551616
  omega
/-- A list of elements that came in. -/
theorem open_els2 {H : Type} {enc : TypeId × Value → H} {W : World} {base fuel : Nat} {spare : Nat → Bool} {held : Bool} {v : Value} {d : DataW H} {ps : List MemPlace}
    (hf : DataW.trod enc Tryz.prog W base spare held fuel 22 [v] = some (d, ps)) (hs : Small Tryz.prog 22 d) :
    ∃ l : List El, InSl W 8 v l.length (l.flatMap ez) ∧ l.length * 104 ≤ reachBytes ∧ ∀ e ∈ l, e.Ok ∧ -9223372036854775808 ≤ e.ph ∧ e.ph < 9223372036854775808 := by
  obtain ⟨n, E, D, r, h1, h2, h3⟩ := open_sl (P := Tryz.prog) (size := 8) Tryz.underlying22 (by kernel_rfl) (by decide) hf
  obtain ⟨B, hB⟩ := choose_lt (n := n) (α := El) (p := fun i z => E i = ez z ∧ z.Ok ∧ -9223372036854775808 ≤ z.ph ∧ z.ph < 9223372036854775808) (fun i hi => by
    obtain ⟨_, f, q, h4⟩ := h3 i hi
    exact open_ez h4)
  refine ⟨(List.range n).map B, ?_, ?_, fun e he => ?_⟩
  · have : ((List.range n).map B).flatMap ez = (List.range n).flatMap E := by
      rw [List.flatMap_def, List.flatMap_def, List.map_map]
      congr 1
      exact List.map_congr_left fun i hi => (hB i (by simpa using hi)).1.symm
    rw [this]; simpa using h1
  · simp only [List.length_map, List.length_range]
    rcases h2 with rfl | rfl
    · simp
    · have := (small_slice Tryz.underlying22 hs).1
      rw [show Tryz.prog.bytesOf 91 = 104 from by kernel_rfl] at this; simpa using this
  · obtain ⟨i, hi, rfl⟩ := List.mem_map.1 he
    exact (hB i (by simpa using hi)).2
theorem open_els {H : Type} {enc : TypeId × Value → H} {W : World} {base fuel : Nat} {spare : Nat → Bool} {held : Bool} {v : Value} {d : DataW H} {ps : List MemPlace}
    (hf : DataW.trod enc Tryz.prog W base spare held fuel 22 [v] = some (d, ps)) (hs : Small Tryz.prog 22 d) :
    ∃ l : List El, InSl W 8 v l.length (l.flatMap ez) ∧ l.length * 104 ≤ reachBytes ∧ ∀ e ∈ l, e.Ok := by
  obtain ⟨l, h1, h2, h3⟩ := open_els2 hf hs
  exact ⟨l, h1, h2, fun e he => (h3 e he).1⟩
end

section
/- Lists of numbers by their bits that came in, opened. -/
open Go.ChangeShapes Go.WideShapes Go.ChangeAt Go.RowKit Go.Joins Go.Deep

theorem length_two {α : Type} {l : List α} (h : l.length = 2) : ∃ a b, l = [a, b] := by
  match l, h with
  | [a, b], _ => exact ⟨a, b, rfl⟩
/-- A number's bits that came in, by its cells. -/
theorem open_zc {H : Type} {enc : TypeId × Value → H} {W : World} {base fuel : Nat} {spare : Nat → Bool} {held : Bool} {cs : List Value} {d : DataW H} {ps : List MemPlace}
    (hf : DataW.trod enc Tryz.prog W base spare held fuel 94 cs = some (d, ps)) : ∃ z : Cx, cs = zc z := by
  obtain ⟨xs, n, rfl, hx, hl, hxl, hel⟩ := DataW.trod_struct Tryz.underlying94 hf
  have hl2 : cs.length = 2 := hl.trans (by kernel_rfl)
  obtain ⟨c0, c1, rfl⟩ := length_two hl2
  obtain ⟨x0, x1, rfl⟩ := length_two (show xs.length = 2 from hxl)
  have h0 := hel 0 _ rfl
  have h1 := hel 1 _ rfl
  have hc : Tryz.prog.cellsOf 23 = 1 := by kernel_rfl
  have h0' : DataW.trod enc Tryz.prog W base spare held n 23 [c0] = some x0 := by simpa [hc] using h0
  have h1' : DataW.trod enc Tryz.prog W base spare held n 23 [c1] = some x1 := by simpa [hc] using h1
  obtain ⟨a, e0, _, wa⟩ := DataW.trod_int Tryz.underlying23 h0'
  obtain ⟨b, e1, _, wb⟩ := DataW.trod_int Tryz.underlying23 h1'
  simp at e0 e1
  have g0 : 0 ≤ a := by simp [Lit.wf] at wa; exact wa.1
  have g1 : 0 ≤ b := by simp [Lit.wf] at wb; exact wb.1
  exact ⟨(a.toNat, b.toNat), by simp [zc, e0, e1, Int.toNat_of_nonneg g0, Int.toNat_of_nonneg g1]⟩
/-- A list of numbers by their bits that came in. -/
theorem open_zs {H : Type} {enc : TypeId × Value → H} {W : World} {base fuel : Nat} {spare : Nat → Bool} {held : Bool} {v : Value} {d : DataW H} {ps : List MemPlace}
    (hf : DataW.trod enc Tryz.prog W base spare held fuel 44 [v] = some (d, ps)) (hs : Small Tryz.prog 44 d) :
    ∃ l : List Cx, InSl W 2 v l.length (l.flatMap zc) ∧ l.length * 16 ≤ reachBytes := by
  obtain ⟨n, E, D, r, h1, h2, h3⟩ := open_sl (P := Tryz.prog) (size := 2) Tryz.underlying44 (by kernel_rfl) (by decide) hf
  obtain ⟨B, hB⟩ := choose_lt (n := n) (α := Cx) (p := fun i z => E i = zc z) (fun i hi => by
    obtain ⟨_, f, q, h4⟩ := h3 i hi
    exact open_zc h4)
  refine ⟨(List.range n).map B, ?_, ?_⟩
  · have : ((List.range n).map B).flatMap zc = (List.range n).flatMap E := by
      rw [List.flatMap_def, List.flatMap_def, List.map_map]
      congr 1
      exact List.map_congr_left fun i hi => (hB i (by simpa using hi)).symm
    rw [this]; simpa using h1
  · simp only [List.length_map, List.length_range]
    rcases h2 with rfl | rfl
    · simp
    · have := (small_slice Tryz.underlying44 hs).1
      rw [show Tryz.prog.bytesOf 94 = 16 from by kernel_rfl] at this; simpa using this
end

section
/- A solution and names that come in as an argument, opened. -/
open Go.ChangeShapes Go.WideShapes Go.ChangeAt Go.RowKit Go.Joins Go.Deep

theorem small_agg {H : Type} {P : Program} {t : TypeId} {fs : Array Field} (ht : P.underlying t = some (.struct fs)) {parts : List (DataW H)} (h : Small P t (.agg parts)) :
    (DataW.weightsEach P (fs.toList.map (·.type)) parts).all (· ≤ reachBytes) = true := by
  rw [List.all_eq_true]
  intro x hx
  have := h x (by unfold DataW.weights; rw [ht]; exact hx)
  simpa using this
set_option maxRecDepth 100000 in
/-- A solution and names that came in. -/
theorem open_ask {H : Type} {enc : TypeId × Value → H} {W : World} {base b0 : Nat} {spare : Nat → Bool} {held : Bool} {r : Reach} {v : Value} {d : DataW H} {ps : List MemPlace}
    (hval : Value.okWide Tryz.prog W r b0 46 v) (hd : DataW.Trod enc Tryz.prog W base spare held 46 v d ps) (hs : Small Tryz.prog 46 d) :
    ∃ (v1 v2 : Value) (V A : List Cx) (s t : ByteArray), v = .agg #[v1, v2, .string s, .string t] ∧ InSl W 2 v1 V.length (V.flatMap zc) ∧ InSl W 2 v2 A.length (A.flatMap zc) ∧ V.length * 16 ≤ reachBytes ∧ A.length * 16 ≤ reachBytes ∧ s.size ≤ maxLen ∧ t.size ≤ maxLen := by
  obtain ⟨c0, c1, c2, c3, y0, y1, y2, y3, m, rfl, rfl, rfl, hy0, hy1, hy2, hy3⟩ := open_agg4 Tryz.underlying46 (by kernel_rfl) (by kernel_rfl) hval hd
  have hsa := small_agg Tryz.underlying46 hs
  obtain ⟨h1, hs1⟩ := small_head hsa
  obtain ⟨h2, _⟩ := small_head hs1
  obtain ⟨s, e2, _, g2⟩ := DataW.trod_string Tryz.underlying9 hy2
  obtain ⟨t, e3, _, g3⟩ := DataW.trod_string Tryz.underlying9 hy3
  obtain ⟨V, hV, hVl⟩ := open_zs hy0 h1
  obtain ⟨A, hA, hAl⟩ := open_zs hy1 h2
  simp at e2 e3
  subst e2 e3
  exact ⟨c0, c1, V, A, s, t, rfl, hV, hA, hVl, hAl, g2, g3⟩
end
end Go.Proofs.YtjeedckmkicnoaaGreatDoor
