/- a part of the proof of the last text -/
import Derived.Test.YtjeedckmkicnoaaGreatDoorZFloat
import Derived.Test.YtjeedckmkicnoaaGreatDoorRows
import Derived.Laws.RangeAny
import Derived.WalkSmall
namespace Go.Proofs.YtjeedckmkicnoaaGreatDoor
set_option linter.all false
set_option maxHeartbeats 4000000
set_option maxRecDepth 100000
open Go.RowKit
/-- May a name have this byte? -/
def okB (b : UInt8) : Bool := (decide (97 ≤ b.toNat) && decide (b.toNat ≤ 122)) || (decide (48 ≤ b.toNat) && decide (b.toNat ≤ 57)) || decide (b.toNat = 95)
/-- May a name have these bytes? -/
def smallB (s : ByteArray) : Bool := s.data.toList.all okB
theorem smallB_no {s : ByteArray} {i : Nat} (h : i < s.size) (hb : okB s[i] = false) : smallB s = false := by
  unfold smallB
  rw [List.all_eq_false]
  exact ⟨s[i], List.mem_of_getElem? (i := i) (by simp [ByteArray.getElem_eq_getElem_data]), by rw [hb]; simp⟩
theorem smallB_yes {s : ByteArray} (h : ∀ i (hi : i < s.size), okB s[i] = true) : smallB s = true := by
  unfold smallB
  rw [List.all_eq_true]
  intro x hx
  obtain ⟨i, hi⟩ := List.mem_iff_getElem?.1 hx
  obtain ⟨h1, h2⟩ := List.getElem?_eq_some_iff.1 hi
  have := h i (by simpa using h1)
  rw [← h2]; simpa [ByteArray.getElem_eq_getElem_data] using this
/-- A byte by its cases. -/
theorem okB_cases (b : UInt8) : (okB b = true ∧ (((97 : Int) ≤ (b.toNat : Int) ∧ (b.toNat : Int) ≤ 122) ∨ ((48 : Int) ≤ (b.toNat : Int) ∧ (b.toNat : Int) ≤ 57 ∧ (b.toNat : Int) < 97) ∨ (b.toNat : Int) = 95)) ∨
    (okB b = false ∧ ((b.toNat : Int) < 48 ∨ ((57 : Int) < (b.toNat : Int) ∧ (b.toNat : Int) < 95) ∨ (b.toNat : Int) = 96 ∨ (122 : Int) < (b.toNat : Int))) := by
  unfold okB
  by_cases h1 : 97 ≤ b.toNat ∧ b.toNat ≤ 122
  · left; exact ⟨by simp [h1], by omega⟩
  · by_cases h2 : 48 ≤ b.toNat ∧ b.toNat ≤ 57
    · left; exact ⟨by simp [h2], by omega⟩
    · by_cases h3 : b.toNat = 95
      · left; exact ⟨by simp [h3], by omega⟩
      · right; refine ⟨?_, by omega⟩
        have e1 : (decide (97 ≤ b.toNat) && decide (b.toNat ≤ 122)) = false := by rw [← Bool.decide_and]; simpa using h1
        have e2 : (decide (48 ≤ b.toNat) && decide (b.toNat ≤ 57)) = false := by rw [← Bool.decide_and]; simpa using h2
        rw [e1, e2]; simpa using h3
def AllOk (s : ByteArray) (i : Nat) : Prop := ∀ j (hj : j < s.size), j < i → okB s[j] = true
set_option maxRecDepth 100000 in
set_option maxHeartbeats 1000000 in
theorem vsmall_any (s : ByteArray) (w : World) (_ : s.size ≤ maxLen) :
    Calls Tryz.prog 103 #[.string s] w fun e w' => e = .returned (.bool (smallB s)) ∧ Below w.heap.size w w' := by
  go_enter Tryz.func103, Tryz.ntmps103
  go_wp2
  go_loopw [4] (fun _ wr => ∃ i, i ≤ s.size ∧ wr = w.iter s i ∧ AllOk s i) (fun _ wr => s.size - wr.iterPos w.heap.size)
  case atStart => exact ⟨0, Nat.zero_le _, rfl, fun j _ h => by omega⟩
  case round =>
    obtain ⟨i, hi, hwr, hall⟩ := hrel
    have HALL := hid hall
    clear hall
    subst hwr
    by_cases hlt : i < s.size
    · rcases okB_cases s[i] with ⟨hok, hc⟩ | ⟨hok, hc⟩
      · have HOK := hid hok
        have ha : s[i].toNat < 128 := by omega
        have hnx := fun ty => run_next_ascii (P := Tryz.prog) w s i ty hlt ha
        clear hok
        rcases hc with ⟨h1, h2⟩ | ⟨h1, h2, h3⟩ | h1
        all_goals
          go_wp2
          go_roundw
          case rel =>
            refine ⟨i + 1, by omega, rfl, fun j hj hji => ?_⟩
            by_cases e : j = i
            · subst e; exact HOK.out
            · exact HALL.out j hj (by omega)
          case measure => rw [World.iterPos_iter, World.iterPos_iter]; omega
      · have HNO := hid (smallB_no hlt hok)
        clear hok
        have h95 : ((s[i].toNat : Int) != 95) = true := by rw [bne_iff_ne]; omega
        by_cases ha : s[i].toNat < 128
        · have hnx := fun ty => run_next_ascii (P := Tryz.prog) w s i ty hlt ha
          rcases hc with h1 | ⟨h1, h2⟩ | h1 | h1
          all_goals
            go_wp2
            (try rw [Exit.noGoto_ret])
            go_ret
            exact ⟨by rw [HNO.out]; rfl, (Below.refl _ _).alloc (Nat.le_refl _) _⟩
        · have hnx := fun ty => run_next_any (P := Tryz.prog) w s i ty hlt
          have hhi := (decode_high s i hlt (by omega)).1
          have h122 : (122 : Int) < ((Utf8.decode s i).1 : Int) := by omega
          have h95' : (((Utf8.decode s i).1 : Int) != 95) = true := by rw [bne_iff_ne]; omega
          clear hhi hc h95
          go_wp2
          (try rw [Exit.noGoto_ret])
          go_ret
          exact ⟨by rw [HNO.out]; rfl, (Below.refl _ _).alloc (Nat.le_refl _) _⟩
    · have hnx := fun ty => run_next_end (P := Tryz.prog) w s i ty hlt
      have HY := hid (show smallB s = true from smallB_yes fun j hj => HALL.out j hj (by omega))
      go_wp2
      go_ret
      exact ⟨by rw [HY.out]; rfl, (Below.refl _ _).alloc (Nat.le_refl _) _⟩
set_option maxRecDepth 100000 in
set_option maxHeartbeats 1000000 in
theorem rbytes_any (s : ByteArray) (w : World) (hs : s.size ≤ maxLen) :
    Calls Tryz.prog 106 #[.string s] w fun e w' => e = .returned (.bool (smallB s)) ∧ w = w' := by
  unfold maxLen at hs
  go_enter Tryz.func106, Tryz.ntmps106
  go_wp2
  go_loop [3, 4] (fun i _ => ∃ k : Nat, k ≤ s.size ∧ i = .int .i64 k ∧ AllOk s k) (fun i _ => s.size - (intOf i).toNat)
  case atStart => exact ⟨0, Nat.zero_le _, rfl, fun j _ h => by omega⟩
  case round =>
    obtain ⟨i, hi, rfl, hall⟩ := hrel
    have HALL := hid hall
    clear hall
    by_cases hlt : i < s.size
    · rcases okB_cases s[i] with ⟨hok, hc⟩ | ⟨hok, hc⟩
      · have HOK := hid hok
        clear hok
        rcases hc with ⟨h1, h2⟩ | ⟨h1, h2, h3⟩ | h1
        all_goals
          go_wp2
          all_goals
            go_round
            case rel =>
              refine ⟨i + 1, by omega, by go_num, fun j hj hji => ?_⟩
              by_cases e : j = i
              · subst e; exact HOK.out
              · exact HALL.out j hj (by omega)
            case measure => simp [intOf]; omega
      · have HNO := hid (smallB_no hlt hok)
        clear hok
        have h95 : ((s[i].toNat : Int) == 95) = false := by rw [beq_eq_false_iff_ne]; omega
        rcases hc with h1 | ⟨h1, h2⟩ | h1 | h1
        all_goals
          go_wp2
          all_goals first
            | ((try rw [Exit.noGoto_ret]); go_ret; exact ⟨by rw [HNO.out]; rfl, rfl⟩)
            | (exfalso; rename_i hx; simp at hx; omega)
    · have HY := hid (show smallB s = true from smallB_yes fun j hj => HALL.out j hj (by omega))
      go_wp2
      go_ret
      exact ⟨by rw [HY.out]; rfl, rfl⟩
end Go.Proofs.YtjeedckmkicnoaaGreatDoor
