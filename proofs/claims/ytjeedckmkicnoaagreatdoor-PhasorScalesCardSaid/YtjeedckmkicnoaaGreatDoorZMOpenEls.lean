/- a part of the proof of the last text -/
import Derived.ProofKit
import Derived.OpenShut
import Derived.ShutString
import Derived.ChangeOld
import Derived.Below
import Derived.Lib.SmallJoins
import Derived.SizedLaws
import Derived.Deep.Slices
import Derived.Test.YtjeedckmkicnoaaGreatDoorZMEls
namespace Go.Proofs.YtjeedckmkicnoaaGreatDoor
set_option linter.all false
set_option maxHeartbeats 4000000
set_option maxRecDepth 100000
section
open Go.ChangeShapes Go.WideShapes Go.ChangeAt Go.RowKit Go.Joins
theorem Tryz.own : ownKnob Tryz.prog.godebug = none := by kernel_rfl
theorem Tryz.laidOut : laidOutB Tryz.prog = true := by kernel_rfl
/-- All arguments read behind the call as they did before. -/
theorem trodAll_below {H : Type} {enc : TypeId × Value → H} {P : Program} (hl : laidOutB P = true) {W W' : World} (hb : Below W.heap.size W W') :
    ∀ (ts : List TypeId) (vs : List Value) (ds : List (DataW H)) (ps : List MemPlace), (ts.all fun t => P.readableRec t && decide (t < P.types.size)) = true →
      DataW.TrodAll enc P W 0 (fun _ => true) true ts vs ds ps → DataW.TrodAll enc P W' 0 (fun b => decide (b < W.heap.size)) true ts vs ds ps := by
  intro ts
  induction ts with
  | nil =>
    intro vs ds ps _ h
    cases vs <;> cases ds <;> simp_all [DataW.TrodAll]
  | cons t ts ih =>
    intro vs ds ps ht h
    obtain ⟨v, vs', d, ds', p, q, rfl, rfl, rfl, h0, h1⟩ := trodAll_cons h
    simp only [List.all_cons, Bool.and_eq_true, decide_eq_true_eq] at ht
    obtain ⟨m, hm⟩ := h0
    exact trodAll_cons_mk (Below.trod hl ht.1.1 ht.1.2 ⟨m, hm⟩ hb (fun x hx => DataW.trod_lt m _ _ _ hm x hx)) (ih _ _ _ (by simpa using ht.2) h1)
/-- The end of a law's row: it returned true, and nothing that was there has changed. -/
theorem post_true {H : Type} {enc : TypeId × Value → H} {P : Program} {f : Func} {s : ChangeSpec} {W W' : World} {args : Array Value} {ds : List (DataW H)} {p : List MemPlace} {t : TypeId}
    (hl : laidOutB P = true) (hr : f.resultTypes = #[t]) (ht : P.underlying t = some .bool)
    (hts : (f.params.toList.all fun t => P.readableRec t && decide (t < P.types.size)) = true) (hvars : s.vars = [])
    (hs : s.fn H (ds ++ []) = { results := [.lit (.bool true)], args := ds })
    (hW : DataW.Whole enc P f.params.toList s.vars false W args.toList ds [] p) (hb : Below W.heap.size W W') :
    s.post enc P f false true false false W args (.bool true) W' := by
  have hW' := hW
  obtain ⟨p', q, hA, hV, rfl, _, _⟩ := hW
  rw [hvars] at hV
  obtain ⟨_, rfl⟩ := trodVars_none hV
  refine ⟨_, _, _, [], p', [], hW', ?_, ?_, ?_, hb.frame _, fun h => by cases h⟩
  · rw [hs, hr]; exact trodAll_mk1 (shut_bool ht _)
  · rw [hs]; exact trodAll_below hl hb _ _ _ _ hts hA
  · rw [hs, hvars]; rfl
end
section
/- Arguments opened: what the readings of slices, numbers, texts and structs say of the cells, and of their sizes. No function of the program is named here. -/
open Go.ChangeShapes Go.WideShapes Go.ChangeAt Go.RowKit Go.Joins Go.Deep
section
variable {H : Type} {enc : TypeId × Value → H} {P : Program} {W : World} {base : Nat} {spare : Nat → Bool} {held : Bool}
/-- Every slice, text and map of a reading lies within the form's reach. -/
def Small (P : Program) (t : TypeId) (d : DataW H) : Prop := ∀ x ∈ d.weights P t, x ≤ reachBytes
theorem small_head {t : TypeId} {ts : List TypeId} {d : DataW H} {ds : List (DataW H)} (h : (DataW.weightsEach P (t :: ts) (d :: ds)).all (· ≤ reachBytes) = true) : Small P t d ∧ (DataW.weightsEach P ts ds).all (· ≤ reachBytes) = true := by
  simp only [DataW.weightsEach, List.all_append, Bool.and_eq_true] at h
  exact ⟨fun x hx => by simpa using List.all_eq_true.1 h.1 x hx, h.2⟩
theorem mem_weightsAll {e : TypeId} : ∀ {l : List (DataW H)} {d : DataW H}, d ∈ l → ∀ x ∈ d.weights P e, x ∈ DataW.weightsAll P e l
  | a :: l, d, hd, x, hx => by
    simp only [DataW.weightsAll, List.mem_append]
    rcases List.mem_cons.1 hd with rfl | hd
    · exact .inl hx
    · exact .inr (mem_weightsAll hd x hx)
theorem small_slice {t e : TypeId} (ht : P.underlying t = some (.slice e)) {l r : List (DataW H)} (h : Small P t (.slice l r)) : l.length * P.bytesOf e ≤ reachBytes ∧ ∀ d ∈ l, Small P e d := by
  unfold Small at h
  simp only [DataW.weights, ht] at h
  refine ⟨?_, fun d hd x hx => h x (List.mem_cons_of_mem _ (List.mem_append_left _ (mem_weightsAll hd x hx)))⟩
  have := h _ List.mem_cons_self
  exact Nat.le_trans (Nat.mul_le_mul_right _ (Nat.le_add_right _ _)) this
/-- The cells from an address on. -/
theorem cells_at {a : Addr} {n : Nat} {cs : List Value} (h : W.cells? base a n = some cs) : cs.length = n ∧ ∀ j, j < n → W.cell? (a.add j) = cs[j]? := by
  obtain ⟨_, h1, h2⟩ := World.cells?_some h
  exact ⟨h1, h2⟩
/-- A slice that came in: nil, or a row of cells; each element's cells have a reading. -/
theorem open_sl {t e size fuel : Nat} {v : Value} {d : DataW H} {ps : List MemPlace} (ht : P.underlying t = some (.slice e)) (hc : P.cellsOf e = size) (hsz : 0 < size)
    (hf : DataW.trod enc P W base spare held fuel t [v] = some (d, ps)) :
    ∃ (n : Nat) (E : Nat → List Value) (D : Nat → DataW H) (r : List (DataW H)), InSl W size v n ((List.range n).flatMap E) ∧ (n = 0 ∨ d = .slice ((List.range n).map D) r) ∧
      ∀ i, i < n → (E i).length = size ∧ ∃ f q, DataW.trod enc P W base spare held f e (E i) = some (D i, q) := by
  subst hc
  rcases open_slice ht hf with ⟨h1, h2⟩ | ⟨a, len, cap, m, f, D, Pl, h1, hb, hl, hm, hmm, h2, hel⟩
  · cases h1
    exact ⟨0, fun _ => [], fun _ => .nil, [], by simpa using InSl.of (IsSl.nil W _), .inl rfl, fun i hi => by omega⟩
  · cases h1
    have hlm : len ≤ m := by rw [hmm]; split <;> omega
    obtain ⟨E, hE⟩ := choose_lt (α := List Value) (p := fun i cs => W.cells? base (a.add (i * P.cellsOf e)) (P.cellsOf e) = some cs ∧ DataW.trod enc P W base spare held f e cs = some (D i, Pl i)) (fun i hi => hel i hi)
    cases h2
    refine ⟨len, E, D, _, ?_, .inr rfl, fun i hi => ⟨(cells_at (hE i (by omega)).1).1, f, _, (hE i (by omega)).2⟩⟩
    have hlenE : ∀ i, i < len → (E i).length = P.cellsOf e := fun i hi => (cells_at (hE i (by omega)).1).1
    have hflat : ∀ k, k ≤ len → ((List.range k).flatMap E).length = k * P.cellsOf e := by
      intro k
      induction k with
      | zero => intro _; simp
      | succ k ih =>
        intro hk
        rw [List.range_succ, List.flatMap_append, List.length_append, ih (by omega), Nat.add_mul]
        simp [hlenE k (by omega)]
    have hget : ∀ k, k ≤ len → ∀ i j, i < k → j < P.cellsOf e → ((List.range k).flatMap E)[i * P.cellsOf e + j]? = (E i)[j]? := by
      intro k
      induction k with
      | zero => intro _ i j hi; omega
      | succ k ih =>
        intro hk i j hi hj
        rw [List.range_succ, List.flatMap_append]
        by_cases hik : i < k
        · have : i * P.cellsOf e + j < k * P.cellsOf e := by
            have := Nat.mul_le_mul_right (P.cellsOf e) (show i + 1 ≤ k by omega)
            rw [Nat.add_mul] at this; omega
          rw [List.getElem?_append_left (by rw [hflat k (by omega)]; exact this), ih (by omega) i j hik hj]
        · obtain rfl : i = k := by omega
          rw [List.getElem?_append_right (by rw [hflat i (by omega)]; omega), hflat i (by omega), Nat.add_sub_cancel_left]
          simp
    obtain ⟨g, off, spot⟩ := a
    by_cases h0 : len = 0
    · subst h0
      exact .inr ⟨_, _, rfl, rfl, by simp⟩
    · have hspot : spot = none := by
        have h1 := (cells_at (hE 0 (by omega)).1).2 0 hsz
        have h2 := (cells_at (hE 0 (by omega)).1).1
        rw [List.getElem?_eq_getElem (by omega)] at h1
        simpa [Addr.add] using World.cell?_spot h1
      subst hspot
      refine .inl ⟨hflat len (Nat.le_refl _), .inr ⟨g, off, cap, rfl, hl, ?_, fun j hj => ?_⟩⟩
      · have h1 := (cells_at (hE 0 (by omega)).1).2 0 hsz
        have h2 := (cells_at (hE 0 (by omega)).1).1
        rw [List.getElem?_eq_getElem (by omega)] at h1
        simpa [Addr.add] using World.block_lt_of_cell? W _ h1
      · have hi : j / P.cellsOf e < len := (Nat.div_lt_iff_lt_mul hsz).2 hj
        have hj2 : j % P.cellsOf e < P.cellsOf e := Nat.mod_lt _ hsz
        have h1 := (cells_at (hE (j / P.cellsOf e) (by omega)).1).2 (j % P.cellsOf e) hj2
        have h3 := hget len (Nat.le_refl _) (j / P.cellsOf e) (j % P.cellsOf e) hi hj2
        have hdm : j / P.cellsOf e * P.cellsOf e + j % P.cellsOf e = j := by rw [Nat.mul_comm]; exact Nat.div_add_mod j _
        rw [hdm] at h3
        rw [h3, ← h1, Go.Deep.add_add, hdm]
        congr 1
        unfold Addr.add; split <;> simp_all
/-- A slice of one-cell elements that came in. -/
theorem open_sl1 {t e fuel : Nat} {v : Value} {d : DataW H} {ps : List MemPlace} (ht : P.underlying t = some (.slice e)) (hc : P.cellsOf e = 1)
    (hf : DataW.trod enc P W base spare held fuel t [v] = some (d, ps)) :
    ∃ (n : Nat) (V : Nat → Value) (D : Nat → DataW H) (r : List (DataW H)), InSl W 1 v n ((List.range n).map V) ∧ (n = 0 ∨ d = .slice ((List.range n).map D) r) ∧
      ∀ i, i < n → ∃ f q, DataW.trod enc P W base spare held f e [V i] = some (D i, q) := by
  obtain ⟨n, E, D, r, h1, h2, h3⟩ := open_sl ht hc (by decide) hf
  obtain ⟨V, hV⟩ := choose_lt (n := n) (α := Value) (p := fun i v => E i = [v]) (fun i hi => List.length_eq_one_iff.1 (h3 i hi).1)
  refine ⟨n, V, D, r, ?_, h2, fun i hi => by rw [← hV i hi]; exact (h3 i hi).2⟩
  have : (List.range n).flatMap E = (List.range n).map V := by
    rw [List.map_eq_flatMap, List.flatMap_def, List.flatMap_def]
    congr 1
    exact List.map_congr_left fun i hi => hV i (by simpa using hi)
  rw [← this]; exact h1
/-- A slice of 64-bit words that came in. -/
theorem open_us {t e fuel : Nat} {v : Value} {d : DataW H} {ps : List MemPlace} (ht : P.underlying t = some (.slice e)) (hc : P.cellsOf e = 1) (he : P.underlying e = some (.int .u64)) (hb : P.bytesOf e = 8)
    (hf : DataW.trod enc P W base spare held fuel t [v] = some (d, ps)) (hs : Small P t d) :
    ∃ l : List Nat, InSl W 1 v l.length (l.map fun b : Nat => Value.int .u64 b) ∧ l.length * 8 ≤ reachBytes := by
  obtain ⟨n, V, D, r, h1, h2, h3⟩ := open_sl1 ht hc hf
  obtain ⟨B, hB⟩ := choose_lt (n := n) (α := Nat) (p := fun i b => V i = .int .u64 b) (fun i hi => by
    obtain ⟨f, q, h4⟩ := h3 i hi
    obtain ⟨a, e0, _, wa⟩ := DataW.trod_int he h4
    simp at e0
    have h1 : 0 ≤ a := by simp [Lit.wf] at wa; exact wa.1
    exact ⟨a.toNat, by rw [e0, Int.toNat_of_nonneg h1]⟩)
  refine ⟨(List.range n).map B, ?_, ?_⟩
  · have : ((List.range n).map B).map (fun b : Nat => Value.int .u64 b) = (List.range n).map V := by
      rw [List.map_map]
      exact List.map_congr_left fun i hi => (hB i (by simpa using hi)).symm
    rw [this]; simpa using h1
  · simp only [List.length_map, List.length_range]
    rcases h2 with rfl | rfl
    · simp
    · have := (small_slice ht hs).1
      rw [hb] at this; simpa using this
end
end
section
/- A list of elements that came in, opened. -/
open Go.ChangeShapes Go.WideShapes Go.ChangeAt Go.RowKit Go.Joins Go.Deep
instance : Inhabited El := ⟨⟨0, ⟨#[]⟩, ⟨#[]⟩, ⟨#[]⟩, ⟨#[]⟩, ⟨#[]⟩, 0, 0⟩⟩
theorem length_eight {α : Type} {l : List α} (h : l.length = 8) : ∃ a b c d e f g i, l = [a, b, c, d, e, f, g, i] := by
  match l, h with
  | [a, b, c, d, e, f, g, i], _ => exact ⟨a, b, c, d, e, f, g, i, rfl⟩
/-- An element's cells. -/
theorem open_ez {H : Type} {enc : TypeId × Value → H} {W : World} {base fuel : Nat} {spare : Nat → Bool} {held : Bool} {cs : List Value} {d : DataW H} {ps : List MemPlace}
    (hf : DataW.trod enc Tryz.prog W base spare held fuel 91 cs = some (d, ps)) : ∃ e : El, cs = ez e ∧ e.Ok ∧ -9223372036854775808 ≤ e.ph ∧ e.ph < 9223372036854775808 := by
  obtain ⟨xs, n, rfl, hx, hl, hxl, hel⟩ := DataW.trod_struct Tryz.underlying91 hf
  have hl2 : cs.length = 8 := hl.trans (by kernel_rfl)
  obtain ⟨c0, c1, c2, c3, c4, c5, c6, c7, rfl⟩ := length_eight hl2
  obtain ⟨x0, x1, x2, x3, x4, x5, x6, x7, rfl⟩ := length_eight (show xs.length = 8 from hxl)
  have hu8 : Tryz.prog.cellsOf 5 = 1 := by kernel_rfl
  have hst : Tryz.prog.cellsOf 9 = 1 := by kernel_rfl
  have hu64 : Tryz.prog.cellsOf 23 = 1 := by kernel_rfl
  have hin : Tryz.prog.cellsOf 3 = 1 := by kernel_rfl
  have h0 : DataW.trod enc Tryz.prog W base spare held n 5 [c0] = some x0 := by simpa [hu8] using hel 0 _ rfl
  have h1 : DataW.trod enc Tryz.prog W base spare held n 9 [c1] = some x1 := by simpa [hst] using hel 1 _ rfl
  have h2 : DataW.trod enc Tryz.prog W base spare held n 9 [c2] = some x2 := by simpa [hst] using hel 2 _ rfl
  have h3 : DataW.trod enc Tryz.prog W base spare held n 9 [c3] = some x3 := by simpa [hst] using hel 3 _ rfl
  have h4 : DataW.trod enc Tryz.prog W base spare held n 9 [c4] = some x4 := by simpa [hst] using hel 4 _ rfl
  have h5 : DataW.trod enc Tryz.prog W base spare held n 9 [c5] = some x5 := by simpa [hst] using hel 5 _ rfl
  have h6 : DataW.trod enc Tryz.prog W base spare held n 23 [c6] = some x6 := by simpa [hu64] using hel 6 _ rfl
  have h7 : DataW.trod enc Tryz.prog W base spare held n 3 [c7] = some x7 := by simpa [hin] using hel 7 _ rfl
  obtain ⟨k, e0, _, _⟩ := DataW.trod_int Tryz.underlying5 h0
  obtain ⟨s1, e1, _, g1⟩ := DataW.trod_string Tryz.underlying9 h1
  obtain ⟨s2, e2, _, g2⟩ := DataW.trod_string Tryz.underlying9 h2
  obtain ⟨s3, e3, _, g3⟩ := DataW.trod_string Tryz.underlying9 h3
  obtain ⟨s4, e4, _, g4⟩ := DataW.trod_string Tryz.underlying9 h4
  obtain ⟨s5, e5, _, g5⟩ := DataW.trod_string Tryz.underlying9 h5
  obtain ⟨v, e6, _, wv⟩ := DataW.trod_int Tryz.underlying23 h6
  obtain ⟨p, e7, _, wp⟩ := DataW.trod_int Tryz.underlying3 h7
  simp at e0 e1 e2 e3 e4 e5 e6 e7
  have gv : 0 ≤ v ∧ v < 18446744073709551616 := by
    have h1 : IntKind.u64.min = 0 := by decide
    have h2 : IntKind.u64.max = 18446744073709551615 := by decide
    simp [Lit.wf] at wv; omega
  have gp : -9223372036854775808 ≤ p ∧ p < 9223372036854775808 := by
    have h1 : IntKind.i64.min = -9223372036854775808 := by decide
    have h2 : IntKind.i64.max = 9223372036854775807 := by decide
    simp [Lit.wf] at wp; omega
  refine ⟨⟨k, s1, s2, s3, s4, s5, v.toNat, p⟩, by simp [ez, e0, e1, e2, e3, e4, e5, e6, e7, Int.toNat_of_nonneg gv.1], ⟨g1, g2, g3, g4, g5, ?_⟩, gp⟩
  show v.toNat < 18446744073709551616
  omega
/-- A list of elements that came in. -/
theorem open_els2 {H : Type} {enc : TypeId × Value → H} {W : World} {base fuel : Nat} {spare : Nat → Bool} {held : Bool} {v : Value} {d : DataW H} {ps : List MemPlace}
    (hf : DataW.trod enc Tryz.prog W base spare held fuel 22 [v] = some (d, ps)) (hs : Small Tryz.prog 22 d) :
    ∃ l : List El, InSl W 8 v l.length (l.flatMap ez) ∧ l.length * 104 ≤ reachBytes ∧ ∀ e ∈ l, e.Ok ∧ -9223372036854775808 ≤ e.ph ∧ e.ph < 9223372036854775808 := by
  obtain ⟨n, E, D, r, h1, h2, h3⟩ := open_sl (P := Tryz.prog) (size := 8) Tryz.underlying22 (by kernel_rfl) (by decide) hf
  obtain ⟨B, hB⟩ := choose_lt (n := n) (α := El) (p := fun i z => E i = ez z ∧ z.Ok ∧ -9223372036854775808 ≤ z.ph ∧ z.ph < 9223372036854775808) (fun i hi => by
    obtain ⟨_, f, q, h4⟩ := h3 i hi
    exact open_ez h4)
  refine ⟨(List.range n).map B, ?_, ?_, fun e he => ?_⟩
  · have : ((List.range n).map B).flatMap ez = (List.range n).flatMap E := by
      rw [List.flatMap_def, List.flatMap_def, List.map_map]
      congr 1
      exact List.map_congr_left fun i hi => (hB i (by simpa using hi)).1.symm
    rw [this]; simpa using h1
  · simp only [List.length_map, List.length_range]
    rcases h2 with rfl | rfl
    · simp
    · have := (small_slice Tryz.underlying22 hs).1
      rw [show Tryz.prog.bytesOf 91 = 104 from by kernel_rfl] at this; simpa using this
  · obtain ⟨i, hi, rfl⟩ := List.mem_map.1 he
    exact (hB i (by simpa using hi)).2
theorem open_els {H : Type} {enc : TypeId × Value → H} {W : World} {base fuel : Nat} {spare : Nat → Bool} {held : Bool} {v : Value} {d : DataW H} {ps : List MemPlace}
    (hf : DataW.trod enc Tryz.prog W base spare held fuel 22 [v] = some (d, ps)) (hs : Small Tryz.prog 22 d) :
    ∃ l : List El, InSl W 8 v l.length (l.flatMap ez) ∧ l.length * 104 ≤ reachBytes ∧ ∀ e ∈ l, e.Ok := by
  obtain ⟨l, h1, h2, h3⟩ := open_els2 hf hs
  exact ⟨l, h1, h2, fun e he => (h3 e he).1⟩
end
end Go.Proofs.YtjeedckmkicnoaaGreatDoor
