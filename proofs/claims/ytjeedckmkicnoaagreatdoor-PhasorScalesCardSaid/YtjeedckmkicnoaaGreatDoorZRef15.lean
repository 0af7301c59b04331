/- a part of the proof of the last text -/
import Derived.Test.YtjeedckmkicnoaaGreatDoorZMElements
namespace Go.Proofs.YtjeedckmkicnoaaGreatDoor
set_option linter.all false
set_option maxHeartbeats 4000000
set_option maxRecDepth 100000
open Go.RowKit
/-- A pointer to the answer's net: its elements; none: no net. -/
def RN (w : World) (p : Value) (l : List El) : Prop :=
  (p = .pointer none ∧ l = []) ∨ ∃ g v, p = .pointer (some ⟨g, 0, none⟩) ∧ w.cell? ⟨g, 0, none⟩ = some v ∧ w.cell? ⟨g, 1, none⟩ = some (.bool true) ∧ IsSl w 8 v l.length (l.flatMap ea)
theorem RN.below {w w' : World} {B : Nat} {p : Value} {l : List El} (h : RN w p l) (hb : Below B w w') (hB : w.heap.size ≤ B) : RN w' p l := by
  rcases h with h | ⟨g, v, hp, h0, h1, hs⟩
  · exact .inl h
  · exact .inr ⟨g, v, hp, (hb.cell (p := ⟨g, 0, none⟩) (Nat.lt_of_lt_of_le (cell_lt h0) hB)).trans h0, (hb.cell (p := ⟨g, 1, none⟩) (Nat.lt_of_lt_of_le (cell_lt h1) hB)).trans h1, hs.below hb hB⟩
theorem infoSt : (Tryz.prog.info? 9).map (fun i => (i.zero, i.size, i.bytes)) = some (some (.string ⟨#[]⟩), 1, 16) := by kernel_rfl
def sts (l : List ByteArray) : List Value := l.map Value.string
theorem none_nil (w : World) : Calls Tryz.prog 41 #[.pointer none] w fun e w' => e = .returned (.bool true) ∧ w = w' := by
  go_enter Tryz.func41, Tryz.ntmps41
  go_wp2
  go_ret
  exact ⟨rfl, rfl⟩
theorem none_made (g : Nat) (w : World) (h1 : w.cell? ⟨g, 1, none⟩ = some (.bool true)) : Calls Tryz.prog 41 #[.pointer (some ⟨g, 0, none⟩)] w fun e w' => e = .returned (.bool false) ∧ w = w' := by
  go_enter Tryz.func41, Tryz.ntmps41
  go_wp2
  go_ret
  exact ⟨rfl, rfl⟩
set_option maxRecDepth 100000 in
set_option maxHeartbeats 400000 in
theorem relements_any (p : Value) (l : List El) (w : World) (hp : RN w p l) (hl : l.length * 104 ≤ 140737488351232) :
    Calls Tryz.prog 11 #[p] w (RetRow 81 8 l.length (fun xs => xs = l.flatMap ea) w) := by
  obtain ⟨i0, hi, hz0, hz1, hz2⟩ := info_parts infoEa
  rcases hp with ⟨rfl, rfl⟩ | ⟨g, v, rfl, h0, h1, hs⟩
  · go_enter Tryz.func11, Tryz.ntmps11
    go_wp2_with (go_at_call 41; refine (none_nil _).mono ?_; rintro e w1 ⟨rfl, rfl⟩)
    (try rw [Exit.noGoto_ret])
    go_ret
    exact ⟨_, _, rfl, World.ownsRow_nil _ _ _ _, rfl, Below.refl _ _⟩
  · have H1 := hid h1
    have HS := hid hs
    clear h1 hs
    go_enter Tryz.func11, Tryz.ntmps11
    go_wp2_with (first | (go_at_call 41; refine (none_made _ _ H1.out).mono ?_; rintro e w1 ⟨rfl, rfl⟩) | (refine wpList_appendAll rfl _ _ _ rfl w.heap.size 81 8 104 i0 (.agg #[.int .u8 0, .string ⟨#[]⟩, .string ⟨#[]⟩, .string ⟨#[]⟩, .string ⟨#[]⟩, .string ⟨#[]⟩, .float .f64 0, .int .i64 0]) Tryz.underlying37 hi hz0 hz1 hz2 rfl (by decide) _ 0 [] (World.ownsRow_nil _ _ _ _) (Nat.le_refl _) _ _ _ HS.out rfl rfl (by intro u hu; obtain ⟨z, _, hz⟩ := List.mem_flatMap.1 hu; exact ea_one z u hz) (by simp [maxLen]; omega) (by omega) ?_; intro v1 w1 hown1 hgr1 hat1))
    go_ret
    refine ⟨_, _, rfl, ?_, rfl, (Below.refl _ _).grown hgr1 (Nat.le_refl _) (by intro k e; cases e)⟩
    simpa using hown1
theorem own_base {w : World} {B B' e size n : Nat} {v : Value} {xs : List Value} (h : w.ownsRow B' e size v n xs) (hB : B ≤ B') : w.ownsRow B e size v n xs := by
  obtain ⟨h1, h2⟩ := h
  refine ⟨h1, ?_⟩
  rcases h2 with h | ⟨g, cap, cur, ha, hb, hc⟩
  · exact .inl h
  · exact .inr ⟨g, cap, cur, ha, Nat.le_trans hB hb, hc⟩
/-- The branches' names. -/
def isBr (e : El) : Bool := e.kind == 5 || e.kind == 7
def brs (l : List El) : List ByteArray := (l.filter isBr).map (·.name)
theorem brs_yes {l : List El} {k : Nat} {x : El} (h : l[k]? = some x) (hx : isBr x = true) : brs (l.take (k + 1)) = brs (l.take k) ++ [x.name] := by
  obtain ⟨hk, e⟩ := List.getElem?_eq_some_iff.1 h
  subst e
  unfold brs
  rw [List.take_succ_eq_append_getElem hk, List.filter_append, List.map_append]
  simp [hx]
theorem brs_no {l : List El} {k : Nat} {x : El} (h : l[k]? = some x) (hx : isBr x = false) : brs (l.take (k + 1)) = brs (l.take k) := by
  obtain ⟨hk, e⟩ := List.getElem?_eq_some_iff.1 h
  subst e
  unfold brs
  rw [List.take_succ_eq_append_getElem hk, List.filter_append, List.map_append]
  simp [hx]
theorem brs_len (l : List El) : (brs l).length ≤ l.length := by
  unfold brs
  rw [List.length_map]
  exact List.length_filter_le _ _
theorem brs_take_len (l : List El) (k : Nat) : (brs (l.take k)).length ≤ k := Nat.le_trans (brs_len _) (by rw [List.length_take]; omega)
theorem sts_snoc (l : List ByteArray) (s : ByteArray) : sts (l ++ [s]) = sts l ++ [.string s] := by simp [sts]
theorem sts_one {l : List ByteArray} {u : Value} (h : u ∈ sts l) : u.oneCell' = true := by
  obtain ⟨s, _, rfl⟩ := List.mem_map.1 h
  rfl
theorem br_ways (x : El) : ((x.kind == 5) = true ∧ isBr x = true) ∨ ((x.kind == 5) = false ∧ (x.kind == 7) = true ∧ isBr x = true) ∨ ((x.kind == 5) = false ∧ (x.kind == 7) = false ∧ isBr x = false) := by
  unfold isBr
  cases (x.kind == 5) <;> cases (x.kind == 7) <;> simp
/-- Behind a push onto a row of the call's own. -/
theorem pushed {w wr w2 : World} {e size n g : Nat} {v : Value} {xs : List Value} (hb : Below w.heap.size w wr) (ho : wr.ownsRow w.heap.size e size v n xs)
    (h : (v.ownBlock = some g ∧ wr.grownBy w2 (some g)) ∨ (wr.heap.size ≤ g ∧ wr.grownBy w2 none)) : Below w.heap.size w w2 := by
  rcases h with ⟨h1, h2⟩ | ⟨_, h2⟩
  · exact below_grown hb h2 fun _ e => by cases e; exact (ho.lt _ h1).1
  · exact below_grown hb h2 fun _ e => by cases e
set_option maxRecDepth 100000 in
set_option maxHeartbeats 2000000 in
theorem rbranches_any (p : Value) (l : List El) (w : World) (hp : RN w p l) (hl : l.length ≤ 100000) :
    Calls Tryz.prog 57 #[p] w (RetRow 9 1 (brs l).length (fun xs => xs = sts (brs l)) w) := by
  obtain ⟨i0, hi, hz0, hz1, hz2⟩ := info_parts infoSt
  obtain ⟨iu, hiu, hu0, hu1, hu2⟩ := info_parts infoEa
  go_enter Tryz.func57, Tryz.ntmps57
  go_wp2_with (go_at_call 11; refine (relements_any _ l _ hp (by omega)).mono ?_; rintro e w0 ⟨v0, xs, rfl, hown0, rfl, hb0⟩; obtain ⟨a, c, rfl⟩ := (IsSl.of_own hown0).form)
  have HI := hid (IsSl.of_own hown0)
  have HB0 := hid hb0
  clear hb0 hown0 hp
  go_loopw [3, 5] (fun out i wr => ∃ k : Nat, k ≤ l.length ∧ i = .int .i64 k ∧ wr.ownsRow w0.heap.size 9 1 out (brs (l.take k)).length (sts (brs (l.take k))) ∧ Below w0.heap.size w0 wr) (fun _ i _ => l.length - (intOf i).toNat)
  case atStart => exact ⟨0, Nat.zero_le _, rfl, World.ownsRow_nil _ _ _ _, Below.refl _ _⟩
  case round =>
    obtain ⟨k, hk, rfl, hown, hb⟩ := hrel
    by_cases hlt : k < l.length
    · obtain ⟨g, o, x, hidx, hg, hx, hcell⟩ := IsSl.atF Tryz.underlying37 hiu hu1 ea_len (HI.out.below hb (Nat.le_refl _)) rfl hlt
      have c0 := hcell 0 _ rfl
      have c1 := hcell 1 _ rfl
      rw [Nat.add_zero] at c0
      have HX := hid hx
      have HB := hid hb
      have HO := hid hown
      have hlen := brs_take_len l k
      clear hx hb hown hcell
      rcases br_ways x with ⟨h5, h0⟩ | ⟨h5, h7, h0⟩ | ⟨h5, h7, h0⟩
      · have HBR := hid h0
        clear h0
        have hown := HO.out
        have hsz := HB.out.size
        go_wp2_with (refine wpList_push2 rfl rfl _ rfl _ _ _ rfl rfl w0.heap.size 9 1 16 i0 (.string ⟨#[]⟩) Tryz.underlying86 hi hz0 hz1 hz2 rfl (by decide) (by decide) _ (brs (l.take k)).length _ hown hsz (.string x.name) rfl rfl (by intro u hu; simp [Value.cells] at hu; subst hu; rfl) rfl rfl (by simp [maxLen]; omega) (by omega) ?_; intro g1 cap1 w2 hown1 hg1 htwo)
        go_roundw
        case rel =>
          refine ⟨k + 1, by omega, by go_num, ?_, ?_⟩
          · rw [brs_yes HX.out HBR.out, List.length_append, sts_snoc]; exact hown1
          · exact pushed HB.out HO.out htwo
        case measure => simp [intOf]; omega
      · have HBR := hid h0
        clear h0
        have hown := HO.out
        have hsz := HB.out.size
        go_wp2_with (refine wpList_push2 rfl rfl _ rfl _ _ _ rfl rfl w0.heap.size 9 1 16 i0 (.string ⟨#[]⟩) Tryz.underlying86 hi hz0 hz1 hz2 rfl (by decide) (by decide) _ (brs (l.take k)).length _ hown hsz (.string x.name) rfl rfl (by intro u hu; simp [Value.cells] at hu; subst hu; rfl) rfl rfl (by simp [maxLen]; omega) (by omega) ?_; intro g1 cap1 w2 hown1 hg1 htwo)
        go_roundw
        case rel =>
          refine ⟨k + 1, by omega, by go_num, ?_, ?_⟩
          · rw [brs_yes HX.out HBR.out, List.length_append, sts_snoc]; exact hown1
          · exact pushed HB.out HO.out htwo
        case measure => simp [intOf]; omega
      · have HBR := hid h0
        clear h0
        go_wp2_with fail
        go_roundw
        case rel =>
          refine ⟨k + 1, by omega, by go_num, ?_, HB.out⟩
          rw [brs_no HX.out HBR.out]; exact HO.out
        case measure => simp [intOf]; omega
    · go_wp2
      go_ret
      obtain rfl : k = l.length := by omega
      rw [List.take_length] at hown
      exact ⟨_, _, rfl, own_base hown HB0.out.size, rfl, below_next HB0.out hb⟩
end Go.Proofs.YtjeedckmkicnoaaGreatDoor
