/- Walks of gridworkref13's Of, row; of Node, Name (both). -/
import Derived.Test.YtaobncojdonhlaaKinds
namespace Go.Proofs.Ytaobncojdonhlaa
open Go.RowKit

theorem below_set0 {B o : Nat} {w wr : World} {v : Value} (h : Below B w wr) : Below B w (wr.setCell ⟨B, o, none⟩ v) := h.setCell (Nat.le_refl _) v
theorem infoR13 : (Try.prog.info? 100).map (fun i => (i.zero, i.size, i.bytes)) = some (some (.agg #[.int .u8 0, .int .u8 0, .string ⟨#[]⟩, .bool false, .bool false, .bool false]), 6, 32) := by kernel_rfl
theorem rows13_get {k : Nat} (h : k < 8) : rows13[k]? = some ((k : Int) + 1) := by
  have : ∀ m : Fin 8, rows13[m.val]? = some ((m.val : Int) + 1) := by decide
  exact this ⟨k, h⟩
set_option maxRecDepth 100000 in
set_option maxHeartbeats 1000000 in
theorem rof_any (c : Int) (w : World) : Calls Try.prog 74 #[.int .u8 c] w (RetK (kindOf c) w) := by
  obtain ⟨i0, hi, hz0, hz1, hz2⟩ := info_parts infoR13
  go_enter Try.func74, Try.ntmps74
  go_wp2_with fail
  refine (rrows_any _).mono ?_
  rintro e w1 ⟨v1, rfl, hsl, hb1⟩
  obtain ⟨a1, c1, h1⟩ := hsl.form
  subst h1
  have HSL := hid hsl
  have HB1 := hid hb1
  clear hsl hb1
  go_wp2_with fail
  go_loop [5] (fun k => ∃ n : Nat, n ≤ 8 ∧ k = .int .i64 n ∧ (∀ j : Int, 1 ≤ j → j < n + 1 → ¬ kLet j = c)) (fun k => 8 - (intOf k).toNat)
  case atStart => exact ⟨0, by omega, rfl, fun j h1 h2 => by omega⟩
  case round =>
    obtain ⟨n, h9, rfl, hno⟩ := hrel
    have HNO := hid hno
    clear hno
    by_cases hlt : n < 8
    · obtain ⟨g, o, x, hidx, hg, hx, hcell⟩ := IsSl.atF Try.underlying118 hi hz1 (fun _ => rfl) HSL.out rfl hlt
      obtain rfl : x = (n : Int) + 1 := by rw [rows13_get hlt] at hx; exact (Option.some.inj hx).symm
      have c0 := hcell 0 _ rfl
      have c1' := hcell 1 _ rfl
      rw [Nat.add_zero] at c0
      clear hcell hx
      cases he : (kLet ((n : Int) + 1) == c)
      · have HE := hid (show ¬ kLet ((n : Int) + 1) = c by simpa using he)
        go_wp2
        go_round
        case rel =>
          refine ⟨n + 1, by omega, by go_num, fun j k1 k2 => ?_⟩
          rcases Int.lt_or_le j (n + 1) with h | h
          · exact HNO.out j k1 h
          · obtain rfl : j = (n : Int) + 1 := by omega
            exact HE.out
        case measure => simp [intOf]; omega
      · have HE := hid (show kLet ((n : Int) + 1) = c by simpa using he)
        go_wp2
        (try rw [Exit.noGoto_ret])
        go_ret2
        have hk : kindOf c = (n : Int) + 1 := by rw [← HE.out]; exact kindOf_let (n := n + 1) (by omega) (by omega)
        refine ⟨?_, HB1.out⟩
        have hn0 : ¬ (n : Int) + 1 = 0 := by omega
        rw [hk]
        simp [hn0]
    · obtain rfl : n = 8 := by omega
      have HK := hid (kindOf_none HNO.out)
      go_wp2
      go_ret2
      exact ⟨by rw [HK.out]; simp, HB1.out⟩

def row13A (k : Int) : Value := .agg #[.int .u8 k, .int .u8 (kLet k), .string (kUnit k), .bool (kAb k), .bool (kPh k), .bool (kFo k)]
/-- The row told of a kind; of none the zero row. -/
def kin (k : Int) : Int := if isK k then k else 0
theorem kin_yes {k : Int} (h : isK k = true) : kin k = k := by unfold kin; rw [if_pos h]
theorem kin_no {k : Int} (h : isK k = false) : kin k = 0 := by unfold kin; rw [if_neg (by rw [h]; simp)]
set_option maxRecDepth 100000 in
set_option maxHeartbeats 1000000 in
theorem rrow13_any (k : Int) (w : World) : Calls Try.prog 46 #[.int .u8 k] w (RetVB (row13A (kin k)) (isK k) w) := by
  obtain ⟨i0, hi, hz0, hz1, hz2⟩ := info_parts infoR13
  go_enter Try.func46, Try.ntmps46
  go_wp2_with fail
  refine (rrows_any _).mono ?_
  rintro e w1 ⟨v1, rfl, hsl, hb1⟩
  obtain ⟨a1, c1, h1⟩ := hsl.form
  subst h1
  have hz := hb1.block w.heap.size (by simp) |>.trans (heap_alloc_new w _)
  have hq : (∀ o x, (#[.int .u8 0, .int .u8 0, .string ⟨#[]⟩, .bool false, .bool false, .bool false] : Array Value)[o]? = some x → w1.cell? ⟨w.heap.size, o, none⟩ = some x) ∧ ∀ o, w1.frozen? ⟨w.heap.size, o, none⟩ = false :=
    ⟨fun o x hx => cell_of_row _ _ _ _ _ _ hz |>.trans hx, fun o => by simp [World.frozen?, hz]⟩
  have HSL := hid hsl
  have HB1 := hid hb1
  have hlt1 : w.heap.size + 1 ≤ w1.heap.size := by have := hb1.size; simpa using this
  obtain ⟨q1, q2⟩ := hq
  have r0 : w1.cell? ⟨w.heap.size, 0, none⟩ = some (.int .u8 0) := q1 0 _ rfl
  have r1 : w1.cell? ⟨w.heap.size, 1, none⟩ = some (.int .u8 0) := q1 1 _ rfl
  have r2 : w1.cell? ⟨w.heap.size, 2, none⟩ = some (.string ⟨#[]⟩) := q1 2 _ rfl
  have r3 : w1.cell? ⟨w.heap.size, 3, none⟩ = some (.bool false) := q1 3 _ rfl
  have r4 : w1.cell? ⟨w.heap.size, 4, none⟩ = some (.bool false) := q1 4 _ rfl
  have r5 : w1.cell? ⟨w.heap.size, 5, none⟩ = some (.bool false) := q1 5 _ rfl
  have f0 := q2 0
  have f1 := q2 1
  have f2 := q2 2
  have f3 := q2 3
  have f4 := q2 4
  have f5 := q2 5
  have HZ := hid hz
  clear hsl hb1 q1 q2 hz
  go_wp2_with fail
  go_loopw [5] (fun i wr => ∃ n : Nat, n ≤ 8 ∧ i = .int .i64 n ∧ (∀ j : Int, 1 ≤ j → j < n + 1 → ¬ j = k) ∧ wr = w1) (fun i _ => 8 - (intOf i).toNat)
  case atStart => exact ⟨0, by omega, rfl, fun j h1 h2 => by omega, rfl⟩
  case round =>
    obtain ⟨n, h9, rfl, hno, hwr⟩ := hrel
    subst hwr
    have HNO := hid hno
    clear hno
    by_cases hlt : n < 8
    · obtain ⟨g, o, x, hidx, hg, hx, hcell⟩ := IsSl.atF Try.underlying118 hi hz1 (fun _ => rfl) HSL.out rfl hlt
      obtain rfl : x = (n : Int) + 1 := by rw [rows13_get hlt] at hx; exact (Option.some.inj hx).symm
      have c0 := hcell 0 _ rfl
      have c1' := hcell 1 _ rfl
      have c2 := hcell 2 _ rfl
      have c3 := hcell 3 _ rfl
      have c4 := hcell 4 _ rfl
      have c5 := hcell 5 _ rfl
      rw [Nat.add_zero] at c0
      obtain ⟨L1, e1⟩ : ∃ L1, kLet ((n : Int) + 1) = L1 := ⟨_, rfl⟩
      obtain ⟨L2, e2⟩ : ∃ L1, kUnit ((n : Int) + 1) = L1 := ⟨_, rfl⟩
      obtain ⟨L3, e3⟩ : ∃ L1, kAb ((n : Int) + 1) = L1 := ⟨_, rfl⟩
      obtain ⟨L4, e4⟩ : ∃ L1, kPh ((n : Int) + 1) = L1 := ⟨_, rfl⟩
      obtain ⟨L5, e5⟩ : ∃ L1, kFo ((n : Int) + 1) = L1 := ⟨_, rfl⟩
      rw [e1] at c1'
      rw [e2] at c2
      rw [e3] at c3
      rw [e4] at c4
      rw [e5] at c5
      have HL := hid (And.intro e1 (And.intro e2 (And.intro e3 (And.intro e4 e5))))
      clear hcell hx e1 e2 e3 e4 e5
      cases he : ((n : Int) + 1 == k)
      · have HE := hid (show ¬ (n : Int) + 1 = k by simpa using he)
        go_wp2
        go_roundw
        case rel =>
          refine ⟨n + 1, by omega, by go_num, fun j k1 k2 => ?_, trivial⟩
          rcases Int.lt_or_le j (n + 1) with h | h
          · exact HNO.out j k1 h
          · obtain rfl : j = (n : Int) + 1 := by omega
            exact HE.out
        case measure => simp [intOf]; omega
      · have HE := hid (show (n : Int) + 1 = k by simpa using he)
        go_wp2
        (try rw [Exit.noGoto_ret])
        have hk : isK k = true := by rw [← HE.out]; unfold isK; rw [← Bool.decide_and]; simp; omega
        refine bodyPost_ret (v := .tuple #[.agg #[.int .u8 ((n : Int) + 1), .int .u8 L1, .string L2, .bool L3, .bool L4, .bool L5], .bool true]) ?_ rfl ⟨?_, ?_⟩
        · clear HSL HB1 HZ HNO HE HL hidx; rw [results_cell_tmp rfl]; go_simp
        · obtain ⟨e1, e2, e3, e4, e5⟩ := HL.out; rw [kin_yes hk, hk, ← HE.out]; unfold row13A; rw [e1, e2, e3, e4, e5]
        · have hbw : Below w.heap.size w wr := ((Below.refl _ w).alloc (Nat.le_refl _) _).trans (HB1.out.mono (by simp))
          repeat (first | with_reducible exact hbw | with_reducible refine below_set0 ?_)
    · obtain rfl : n = 8 := by omega
      have HK := hid (show isK k = false by
        unfold isK; rw [← Bool.decide_and, decide_eq_false_iff_not]
        intro h; exact HNO.out k h.1 (by omega) rfl)
      go_wp2
      (try rw [Exit.noGoto_ret])
      refine bodyPost_ret (v := .tuple #[.agg #[.int .u8 0, .int .u8 0, .string ⟨#[]⟩, .bool false, .bool false, .bool false], .bool false]) ?_ rfl ⟨by rw [kin_no HK.out, HK.out]; rfl, ?_⟩
      · rw [results_cell_tmp rfl]; go_simp
      · have hbw : Below w.heap.size w wr := ((Below.refl _ w).alloc (Nat.le_refl _) _).trans (HB1.out.mono (by simp))
        repeat (first | with_reducible exact hbw | with_reducible refine below_set0 ?_)
theorem rrow13_agg (k : Int) (w : World) : Calls Try.prog 46 #[.int .u8 k] w (RetVB (.agg #[.int .u8 (kin k), .int .u8 (kLet (kin k)), .string (kUnit (kin k)), .bool (kAb (kin k)), .bool (kPh (kin k)), .bool (kFo (kin k))]) (isK k) w) := rrow13_any k w

/-- May it be a node's name? -/
def nodeB (s : ByteArray) : Bool := decide (1 ≤ s.size) && decide (s.size ≤ 16) && smallB s
/-- The kind of which a text is an element's name; 0: none. -/
def nameK (s : ByteArray) : Int := if h : 2 ≤ s.size ∧ s.size ≤ 16 ∧ smallB (s.extract 1 s.size) = true then kindOf (s[0]'(by omega)).toNat else 0
theorem nodeB_cases (s : ByteArray) : (nodeB s = false ∧ (s.size < 1 ∨ (1 ≤ s.size ∧ 16 < s.size))) ∨ (1 ≤ s.size ∧ s.size ≤ 16 ∧ nodeB s = smallB s) := by
  by_cases h1 : 1 ≤ s.size
  · by_cases h2 : s.size ≤ 16
    · exact .inr ⟨h1, h2, by simp [nodeB, h1, h2]⟩
    · exact .inl ⟨by simp [nodeB, h2], .inr ⟨h1, by omega⟩⟩
  · exact .inl ⟨by simp [nodeB, h1], .inl (by omega)⟩
set_option maxHeartbeats 400000 in
theorem vnode_any (s : ByteArray) (w : World) (hs : s.size ≤ maxLen) :
    Calls Try.prog 43 #[.string s] w fun e w' => e = .returned (.bool (nodeB s)) ∧ Below w.heap.size w w' := by
  have hs2 := hs
  unfold maxLen at hs2
  rcases nodeB_cases s with ⟨h0, h1 | ⟨h1, h2⟩⟩ | ⟨h1, h2, h0⟩
  all_goals
    have H0 := hid h0
    clear h0
    go_enter Try.func43, Try.ntmps43
    go_wp2_with (go_at_call 70; refine (vsmall_any _ _ hs).mono ?_; rintro e w' ⟨rfl, hb⟩)
    go_ret
    first | exact ⟨by rw [H0.out]; rfl, Below.refl _ _⟩ | exact ⟨by rw [H0.out]; rfl, hb⟩
set_option maxHeartbeats 400000 in
theorem rnode_any (s : ByteArray) (w : World) (hs : s.size ≤ maxLen) :
    Calls Try.prog 48 #[.string s] w fun e w' => e = .returned (.bool (nodeB s)) ∧ w = w' := by
  have hs2 := hs
  unfold maxLen at hs2
  rcases nodeB_cases s with ⟨h0, h1 | ⟨h1, h2⟩⟩ | ⟨h1, h2, h0⟩
  all_goals
    have H0 := hid h0
    clear h0
    go_enter Try.func48, Try.ntmps48
    go_wp2_with (go_at_call 73; refine (rbytes_any _ _ hs).mono ?_; rintro e w' ⟨rfl, rfl⟩)
    go_ret
    exact ⟨by rw [H0.out]; rfl, rfl⟩
end Go.Proofs.Ytaobncojdonhlaa
