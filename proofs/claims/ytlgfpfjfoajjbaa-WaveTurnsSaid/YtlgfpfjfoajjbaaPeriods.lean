/- Walks of wave.Period and gridworkref30.Period: the least number of steps behind which all is as it was. -/
import Derived.Test.YtlgfpfjfoajjbaaSamples
namespace Go.Proofs.Ytlgfpfjfoajjbaa
open Go.RowKit

/-- Are all tones behind so many steps as they were? -/
def turned (l : List Tn) (p : Int) : Bool := l.all fun t => t.2.2 % 24 * (p % 24) % 24 == 0
theorem turned_snoc (l : List Tn) (p : Int) (k : Nat) (x : Tn) (h : l[k]? = some x) : turned (l.take (k + 1)) p = (turned (l.take k) p && (x.2.2 % 24 * (p % 24) % 24 == 0)) := by
  obtain ⟨hk, hx⟩ := List.getElem?_eq_some_iff.1 h
  unfold turned
  rw [List.take_succ_eq_append_getElem hk, List.all_append, hx]; simp
theorem turned_24 (l : List Tn) : turned l 24 = true := by
  unfold turned
  rw [List.all_eq_true]
  intro x _
  simp
/-- The least such number. -/
structure IsPer (l : List Tn) (p : Int) : Prop where
  pos : 1 ≤ p
  le : p ≤ 24
  no : ∀ r, 1 ≤ r → r < p → turned l r = false
  yes : turned l p = true
theorem IsPer.eq {l : List Tn} {p q : Int} (h : IsPer l p) (k : IsPer l q) : p = q := by
  rcases Int.lt_trichotomy p q with hl | he | hl
  · have := k.no p h.pos hl; rw [h.yes] at this; cases this
  · exact he
  · have := h.no q k.pos hl; rw [k.yes] at this; cases this

set_option maxRecDepth 100000 in
set_option maxHeartbeats 1000000 in
theorem wperiod_any (v : Value) (l : List Tn) (w : World) (hv : IsSl w 3 v l.length (l.flatMap ta)) (hl : l.length ≤ 140737488355328) :
    Calls Try.prog 32 #[v] w (RetB (fun r => ∃ p, r = .int .i64 p ∧ IsPer l p) w) := by
  obtain ⟨a, c, rfl⟩ := hv.form
  obtain ⟨i0, hi, hz0, hz1, hz2⟩ := info_parts infoTa
  go_enter Try.func32, Try.ntmps32
  go_wp2
  go_loopw [7] (fun p wr => ∃ q : Nat, q ≤ 23 ∧ p = .int .i64 q ∧ (∀ r : Int, 1 ≤ r → r < q + 1 → turned l r = false) ∧ Below w.heap.size w wr) (fun p _ => 24 - (intOf p).toNat)
  case atStart => exact ⟨0, by omega, rfl, fun r h1 h2 => by omega, Below.refl _ _⟩
  case round =>
    obtain ⟨q, hq, rfl, hno, hb⟩ := hrel
    obtain ⟨wo, rfl⟩ : ∃ wo : World, wo = wr := ⟨_, rfl⟩
    have HNO := hid hno
    have HB := hid hb
    have hd : decide ((q : Int) < 24) = true := by simp; omega
    clear hno hb
    go_wp2_with fail
    go_loopw [4, 12] (fun al i wi => ∃ k : Nat, k ≤ l.length ∧ i = .int .i64 k ∧ al = .bool (turned (l.take k) (q + 1)) ∧ Below w.heap.size w wi) (fun _ i _ => l.length - (intOf i).toNat)
    case atStart => exact ⟨0, Nat.zero_le _, rfl, rfl, HB.out⟩
    case round =>
      obtain ⟨k, hk, rfl, rfl, hbi⟩ := hrel
      by_cases hlt : k < l.length
      · obtain ⟨g, o, x, hidx, hg, hx, hcell⟩ := IsSl.atF Try.underlying60 hi hz1 (fun _ => rfl) hv rfl hlt
        have c0 := (hbi.cell (p := ⟨g, o + 0, none⟩) hg).trans (hcell 0 _ rfl)
        have c1 := (hbi.cell (p := ⟨g, o + 1, none⟩) hg).trans (hcell 1 _ rfl)
        have c2 := (hbi.cell (p := ⟨g, o + 2, none⟩) hg).trans (hcell 2 _ rfl)
        rw [Nat.add_zero] at c0
        have HX := hid (turned_snoc l (q + 1) k x hx)
        have HBI := hid hbi
        clear hx hbi hcell
        cases hal : turned (l.take k) (q + 1)
        · have HAL := hid hal
          clear hal
          go_wp2_with fail
          go_roundw
          case rel => exact ⟨k + 1, by omega, by go_num, by rw [HX.out, HAL.out]; rfl, HBI.out.alloc HBI.out.size _⟩
          case measure => simp [intOf]; omega
        · have HAL := hid hal
          clear hal
          go_wp2_with (go_at_call 59; refine (wtimes_any _ _ _).mono ?_; rintro e w' ⟨rfl, rfl⟩)
          go_roundw
          case rel => exact ⟨k + 1, by omega, by go_num, by rw [HX.out, HAL.out]; simp, HBI.out.alloc HBI.out.size _⟩
          case measure => simp [intOf]; omega
      · obtain rfl : k = l.length := by omega
        rw [List.take_length]
        cases hal : turned l (q + 1)
        · have HAL := hid hal
          have HBI := hid hbi
          clear hal hbi
          go_wp2_with fail
          go_roundw
          case rel =>
            have hq2 : q + 1 ≤ 23 := by
              rcases Nat.lt_or_ge q 23 with h | h
              · omega
              · obtain rfl : q = 23 := by omega
                have := HAL.out; rw [show ((23 : Nat) : Int) + 1 = 24 from rfl, turned_24] at this; cases this
            refine ⟨q + 1, hq2, by go_num, fun r h1 h2 => ?_, HBI.out⟩
            rcases Int.lt_or_le r (q + 1) with h | h
            · exact HNO.out r h1 h
            · obtain rfl : r = q + 1 := by omega
              exact HAL.out
          case measure => simp [intOf]; omega
        · have HAL := hid hal
          have HBI := hid hbi
          clear hal hbi
          go_wp2_with fail
          (try rw [Exit.noGoto_ret])
          go_ret
          exact ⟨_, rfl, HBI.out, _, rfl, by omega, by omega, fun r h1 h2 => HNO.out r h1 (by omega), HAL.out⟩

set_option maxRecDepth 100000 in
set_option maxHeartbeats 1000000 in
theorem rperiod_any (v : Value) (l : List Tn) (w : World) (hv : IsSl w 3 v l.length (l.flatMap ta)) (hl : l.length ≤ 140737488355328) :
    Calls Try.prog 33 #[v] w (RetB (fun r => ∃ p, r = .int .i64 p ∧ IsPer l p) w) := by
  obtain ⟨a, c, rfl⟩ := hv.form
  obtain ⟨i0, hi, hz0, hz1, hz2⟩ := info_parts infoTa
  go_enter Try.func33, Try.ntmps33
  go_wp2
  go_loopw [3] (fun p wr => ∃ q : Nat, q ≤ 23 ∧ p = .int .i64 (q + 1 : Nat) ∧ (∀ r : Int, 1 ≤ r → r < q + 1 → turned l r = false) ∧ Below w.heap.size w wr) (fun p _ => 24 - (intOf p).toNat)
  case atStart => exact ⟨0, by omega, rfl, fun r h1 h2 => by omega, Below.refl _ _⟩
  case round =>
    obtain ⟨q, hq, rfl, hno, hb⟩ := hrel
    obtain ⟨wo, rfl⟩ : ∃ wo : World, wo = wr := ⟨_, rfl⟩
    have HNO := hid hno
    have HB := hid hb
    clear hno hb
    rw [show ((q + 1 : Nat) : Int) = (q : Int) + 1 from rfl]
    by_cases hq3 : q < 23
    · have hd : decide ((q : Int) + 1 < 24) = true := by simp; omega
      have hd2 : decide ((q : Int) < 23) = true := by simp; omega
      go_wp2_with fail
      go_loopw [4, 5] (fun al i wi => ∃ k : Nat, k ≤ l.length ∧ i = .int .i64 k ∧ al = .bool (turned (l.take k) (q + 1)) ∧ Below w.heap.size w wi) (fun _ i _ => l.length - (intOf i).toNat)
      case atStart => exact ⟨0, Nat.zero_le _, rfl, rfl, HB.out⟩
      case round =>
        obtain ⟨k, hk, rfl, rfl, hbi⟩ := hrel
        by_cases hlt : k < l.length
        · obtain ⟨g, o, x, hidx, hg, hx, hcell⟩ := IsSl.atF Try.underlying60 hi hz1 (fun _ => rfl) hv rfl hlt
          have c2 := (hbi.cell (p := ⟨g, o + 2, none⟩) hg).trans (hcell 2 _ rfl)
          have HX := hid (turned_snoc l (q + 1) k x hx)
          have HBI := hid hbi
          clear hx hbi hcell
          cases hal : turned (l.take k) (q + 1)
          · have HAL := hid hal
            clear hal
            go_wp2_with fail
            go_roundw
            case rel => exact ⟨k + 1, by omega, by go_num, by rw [HX.out, HAL.out]; rfl, HBI.out⟩
            case measure => simp [intOf]; omega
          · have HAL := hid hal
            have han : angl 0 x.2.2 (q + 1) = x.2.2 % 24 * ((q + 1) % 24) % 24 := by unfold angl; rw [show (0 : Int) % 24 = 0 from rfl, Int.add_zero]
            have HAN := hid han
            clear hal han
            go_wp2_with (go_at_call 61; refine (rangle_any _ _ _ _).mono ?_; rintro e w' ⟨rfl, rfl⟩)
            go_roundw
            case rel => exact ⟨k + 1, by omega, by go_num, by rw [HX.out, HAL.out, HAN.out]; simp, HBI.out⟩
            case measure => simp [intOf]; omega
        · obtain rfl : k = l.length := by omega
          rw [List.take_length]
          cases hal : turned l (q + 1)
          · have HAL := hid hal
            have HBI := hid hbi
            clear hal hbi
            go_wp2_with fail
            go_roundw
            case rel =>
              refine ⟨q + 1, by omega, by go_num, fun r h1 h2 => ?_, HBI.out⟩
              rcases Int.lt_or_le r (q + 1) with h | h
              · exact HNO.out r h1 h
              · obtain rfl : r = q + 1 := by omega
                exact HAL.out
            case measure => simp [intOf]; omega
          · have HAL := hid hal
            have HBI := hid hbi
            clear hal hbi
            go_wp2_with fail
            (try rw [Exit.noGoto_ret])
            go_ret
            exact ⟨_, rfl, HBI.out, _, rfl, by omega, by omega, fun r h1 h2 => HNO.out r h1 (by omega), HAL.out⟩
    · obtain rfl : q = 23 := by omega
      go_wp2_with fail
      go_ret
      exact ⟨_, rfl, HB.out, _, rfl, by omega, by omega, fun r h1 h2 => HNO.out r h1 (by omega), turned_24 l⟩
end Go.Proofs.Ytlgfpfjfoajjbaa
