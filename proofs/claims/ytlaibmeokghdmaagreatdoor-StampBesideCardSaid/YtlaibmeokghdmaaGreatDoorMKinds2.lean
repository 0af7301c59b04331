/- Walks of value.rowOf, value.Of and of gridworkref13's Rows, row, Of: what is told of a kind. -/
import Derived.Test.YtlaibmeokghdmaaGreatDoorSmall
import Derived.Test.YtlaibmeokghdmaaGreatDoorFlat
namespace Go.Proofs.YtlaibmeokghdmaaGreatDoor

section
open Go.RowKit

/-- A kind's letter, its unit; must its value be above 0; does it use C and D, its Phase? -/
def kLet (k : Int) : Int := if k = 1 then 82 else if k = 2 then 76 else if k = 3 then 67 else if k = 4 then 73 else if k = 5 then 86 else if k = 6 then 71 else if k = 7 then 69 else if k = 8 then 80 else 0
def kUnit (k : Int) : ByteArray := if k = 1 then ⟨#[111, 104, 109]⟩ else if k = 2 then ⟨#[104, 101, 110, 114, 121]⟩ else if k = 3 then ⟨#[102, 97, 114, 97, 100]⟩ else if k = 4 then ⟨#[97, 109, 112, 101, 114, 101]⟩ else if k = 5 then ⟨#[118, 111, 108, 116]⟩
  else if k = 6 then ⟨#[115, 105, 101, 109, 101, 110, 115]⟩ else if k = 8 then ⟨#[111, 104, 109]⟩ else ⟨#[]⟩
def kAb (k : Int) : Bool := decide (k = 1) || decide (k = 2) || decide (k = 3) || decide (k = 8)
def kFo (k : Int) : Bool := decide (k = 6) || decide (k = 7)
def kPh (k : Int) : Bool := decide (k = 4) || decide (k = 5)
def isK (k : Int) : Bool := decide (1 ≤ k) && decide (k ≤ 8)
theorem kind_cases (k : Int) : k = 1 ∨ k = 2 ∨ k = 3 ∨ k = 4 ∨ k = 5 ∨ k = 6 ∨ k = 7 ∨ k = 8 ∨ (isK k = false ∧ ¬ k = 1 ∧ ¬ k = 2 ∧ ¬ k = 3 ∧ ¬ k = 4 ∧ ¬ k = 5 ∧ ¬ k = 6 ∧ ¬ k = 7 ∧ ¬ k = 8) := by
  by_cases h : 1 ≤ k ∧ k ≤ 8
  · omega
  · have : isK k = false := by unfold isK; rw [← Bool.decide_and]; simpa using h
    exact .inr (.inr (.inr (.inr (.inr (.inr (.inr (.inr ⟨this, by omega⟩)))))))
theorem kind_none {k : Int} (h1 : ¬ k = 1) (h2 : ¬ k = 2) (h3 : ¬ k = 3) (h4 : ¬ k = 4) (h5 : ¬ k = 5) (h6 : ¬ k = 6) (h7 : ¬ k = 7) (h8 : ¬ k = 8) :
    kLet k = 0 ∧ kUnit k = ⟨#[]⟩ ∧ kAb k = false ∧ kFo k = false ∧ kPh k = false := by
  simp [kLet, kUnit, kAb, kFo, kPh, h1, h2, h3, h4, h5, h6, h7, h8]
/-- A result and a Bool, in memory of their own. -/
def RetVB (v : Value) (b : Bool) (w : World) (en : Ending) (w' : World) : Prop := en = .returned (.tuple #[v, .bool b]) ∧ Below w.heap.size w w'

def rowA (k : Int) : Value := .agg #[.int .u8 (kLet k), .string (kUnit k), .bool (kAb k), .bool (kFo k), .bool (kPh k)]
set_option maxRecDepth 100000 in
set_option maxHeartbeats 1000000 in
theorem rowof_any (k : Int) (w : World) : Calls Tryz.prog 48 #[.int .u8 k] w (RetVB (rowA k) (isK k) w) := by
  rcases kind_cases k with rfl | rfl | rfl | rfl | rfl | rfl | rfl | rfl | ⟨h0, h1, h2, h3, h4, h5, h6, h7, h8⟩
  case inr.inr.inr.inr.inr.inr.inr.inr =>
    obtain ⟨e1, e2, e3, e4, e5⟩ := kind_none h1 h2 h3 h4 h5 h6 h7 h8
    have hr : RetVB (rowA k) (isK k) w = RetVB (.agg #[.int .u8 0, .string ⟨#[]⟩, .bool false, .bool false, .bool false]) false w := by rw [h0]; unfold rowA; rw [e1, e2, e3, e4, e5]
    rw [hr]
    clear hr e1 e2 e3 e4 e5 h0
    go_enter Tryz.func48, Tryz.ntmps48
    go_wp2
    (try rw [Exit.noGoto_ret])
    refine bodyPost_ret (v := .tuple #[.agg #[.int .u8 0, .string ⟨#[]⟩, .bool false, .bool false, .bool false], .bool false]) ?_ rfl ⟨rfl, ?_⟩
    · rw [results_cell_tmp rfl]; go_simp
    · repeat (first | exact ((Below.refl _ _).alloc (Nat.le_refl _) _) | refine Below.setCell ?_ (Nat.le_refl _) _)
  all_goals (go_enter Tryz.func48, Tryz.ntmps48)
  all_goals go_wp2
  all_goals (try rw [Exit.noGoto_ret])
  all_goals (refine bodyPost_ret (v := .tuple #[rowA _, .bool true]) ?_ rfl ⟨rfl, ?_⟩)
  all_goals first
    | (rw [results_cell_tmp rfl]; go_simp; done)
    | (rw [results_cell_tmp rfl]; go_simp; rfl)
    | (repeat (first | exact ((Below.refl _ _).alloc (Nat.le_refl _) _) | refine Below.setCell ?_ (Nat.le_refl _) _))

theorem rowof_agg (k : Int) (w : World) : Calls Tryz.prog 48 #[.int .u8 k] w (RetVB (.agg #[.int .u8 (kLet k), .string (kUnit k), .bool (kAb k), .bool (kFo k), .bool (kPh k)]) (isK k) w) := rowof_any k w
/-- The kind of a letter; 0: none. -/
def kindOf (c : Int) : Int := if c = 82 then 1 else if c = 76 then 2 else if c = 67 then 3 else if c = 73 then 4 else if c = 86 then 5 else if c = 71 then 6 else if c = 69 then 7 else if c = 80 then 8 else 0
theorem kindOf_let {n : Nat} (h1 : 1 ≤ n) (h2 : n ≤ 8) : kindOf (kLet n) = n := by
  have : ∀ m : Fin 9, 1 ≤ m.val → kindOf (kLet (m.val : Int)) = (m.val : Int) := by decide
  exact this ⟨n, by omega⟩ h1
theorem kindOf_none {c : Int} (h : ∀ j : Int, 1 ≤ j → j < 9 → ¬ kLet j = c) : kindOf c = 0 := by
  have e := fun j h1 h2 => h j h1 h2
  have a1 : ¬ c = 82 := fun e => h 1 (by decide) (by decide) (by rw [e]; rfl)
  have a2 : ¬ c = 76 := fun e => h 2 (by decide) (by decide) (by rw [e]; rfl)
  have a3 : ¬ c = 67 := fun e => h 3 (by decide) (by decide) (by rw [e]; rfl)
  have a4 : ¬ c = 73 := fun e => h 4 (by decide) (by decide) (by rw [e]; rfl)
  have a5 : ¬ c = 86 := fun e => h 5 (by decide) (by decide) (by rw [e]; rfl)
  have a6 : ¬ c = 71 := fun e => h 6 (by decide) (by decide) (by rw [e]; rfl)
  have a7 : ¬ c = 69 := fun e => h 7 (by decide) (by decide) (by rw [e]; rfl)
  have a8 : ¬ c = 80 := fun e => h 8 (by decide) (by decide) (by rw [e]; rfl)
  simp [kindOf, a1, a2, a3, a4, a5, a6, a7, a8]
def RetK (k : Int) (w : World) (en : Ending) (w' : World) : Prop := en = .returned (.tuple #[.int .u8 k, .bool (!decide (k = 0))]) ∧ Below w.heap.size w w'
set_option maxRecDepth 100000 in
set_option maxHeartbeats 1000000 in
theorem vof_any (c : Int) (w : World) : Calls Tryz.prog 73 #[.int .u8 c] w (RetK (kindOf c) w) := by
  go_enter Tryz.func73, Tryz.ntmps73
  go_wp2
  go_loopw [4] (fun k wr => ∃ n : Nat, 1 ≤ n ∧ n ≤ 9 ∧ k = .int .u8 n ∧ (∀ j : Int, 1 ≤ j → j < n → ¬ kLet j = c) ∧ Below w.heap.size w wr) (fun k _ => 9 - (intOf k).toNat)
  case atStart => exact ⟨1, by omega, by omega, rfl, fun j h1 h2 => by omega, Below.refl _ _⟩
  case round =>
    obtain ⟨n, h1, h9, rfl, hno, hb⟩ := hrel
    have HNO := hid hno
    have HB := hid hb
    clear hno hb
    by_cases hlt : n ≤ 8
    · cases he : (kLet n == c)
      · have HE := hid (show ¬ kLet n = c by simpa using he)
        go_wp2_with (go_at_call 48; refine (rowof_agg _ _).mono ?_; rintro e w1 ⟨rfl, hb1⟩)
        go_roundw
        case rel =>
          refine ⟨n + 1, by omega, by omega, by go_num, fun j k1 k2 => ?_, ?_⟩
          · rcases Int.lt_or_le j n with h | h
            · exact HNO.out j k1 h
            · obtain rfl : j = n := by omega
              exact HE.out
          · exact (HB.out.trans (hb1.mono HB.out.size)).alloc (by have := HB.out.size; have := hb1.size; omega) _
        case measure => simp [intOf]; omega
      · have HE := hid (show kLet n = c by simpa using he)
        go_wp2_with (go_at_call 48; refine (rowof_agg _ _).mono ?_; rintro e w1 ⟨rfl, hb1⟩)
        (try rw [Exit.noGoto_ret])
        go_ret2
        have hk : kindOf c = n := by rw [← HE.out]; exact kindOf_let h1 hlt
        refine ⟨?_, (HB.out.trans (hb1.mono HB.out.size)).alloc (by have := HB.out.size; have := hb1.size; omega) _⟩
        have hn0 : ¬ n = 0 := by omega
        rw [hk]
        simp [hn0]
    · obtain rfl : n = 9 := by omega
      have HK := hid (kindOf_none HNO.out)
      go_wp2
      go_ret2
      exact ⟨by rw [HK.out]; simp, HB.out⟩

/-- The reference's table. -/
def rows13 : List Int := [1, 2, 3, 4, 5, 6, 7, 8]
def rc13 (k : Int) : List Value := [.int .u8 k, .int .u8 (kLet k), .string (kUnit k), .bool (kAb k), .bool (kPh k), .bool (kFo k)]
def RetSl (size n : Nat) (xs : List Value) (w : World) (en : Ending) (w' : World) : Prop := ∃ v, en = .returned v ∧ IsSl w' size v n xs ∧ Below w.heap.size w w'
theorem sl_block {w : World} {n size : Nat} {cs : Array Value} {t : TypeId} {xs : List Value} (h : cs.toList = xs) (hn : xs.length = n * size) : IsSl (w.alloc (.cells cs t)) size (.slice (some ⟨w.heap.size, 0, none⟩) n n) n xs := by
  subst h
  refine ⟨hn, .inr ⟨w.heap.size, 0, n, rfl, Nat.le_refl _, by simp, fun j hj => ?_⟩⟩
  rw [Nat.zero_add, cell_of_row _ _ _ cs t (0, 0) (heap_alloc_new w _)]; simp
end

section
/- Walks of gridworkref13's Of, row; of Node, Name (both). -/
open Go.RowKit

theorem below_set0 {B o : Nat} {w wr : World} {v : Value} (h : Below B w wr) : Below B w (wr.setCell ⟨B, o, none⟩ v) := h.setCell (Nat.le_refl _) v
theorem rows13_get {k : Nat} (h : k < 8) : rows13[k]? = some ((k : Int) + 1) := by
  have : ∀ m : Fin 8, rows13[m.val]? = some ((m.val : Int) + 1) := by decide
  exact this ⟨k, h⟩
def row13A (k : Int) : Value := .agg #[.int .u8 k, .int .u8 (kLet k), .string (kUnit k), .bool (kAb k), .bool (kPh k), .bool (kFo k)]
/-- The row told of a kind; of none the zero row. -/
def kin (k : Int) : Int := if isK k then k else 0
theorem kin_yes {k : Int} (h : isK k = true) : kin k = k := by unfold kin; rw [if_pos h]
theorem kin_no {k : Int} (h : isK k = false) : kin k = 0 := by unfold kin; rw [if_neg (by rw [h]; simp)]
/-- May it be a node's name? -/
def nodeB (s : ByteArray) : Bool := decide (1 ≤ s.size) && decide (s.size ≤ 16) && smallB s
/-- The kind of which a text is an element's name; 0: none. -/
def nameK (s : ByteArray) : Int := if h : 2 ≤ s.size ∧ s.size ≤ 16 ∧ smallB (s.extract 1 s.size) = true then kindOf (s[0]'(by omega)).toNat else 0
theorem nodeB_cases (s : ByteArray) : (nodeB s = false ∧ (s.size < 1 ∨ (1 ≤ s.size ∧ 16 < s.size))) ∨ (1 ≤ s.size ∧ s.size ≤ 16 ∧ nodeB s = smallB s) := by
  by_cases h1 : 1 ≤ s.size
  · by_cases h2 : s.size ≤ 16
    · exact .inr ⟨h1, h2, by simp [nodeB, h1, h2]⟩
    · exact .inl ⟨by simp [nodeB, h2], .inr ⟨h1, by omega⟩⟩
  · exact .inl ⟨by simp [nodeB, h1], .inl (by omega)⟩
set_option maxHeartbeats 400000 in
theorem vnode_any (s : ByteArray) (w : World) (hs : s.size ≤ maxLen) :
    Calls Tryz.prog 50 #[.string s] w fun e w' => e = .returned (.bool (nodeB s)) ∧ Below w.heap.size w w' := by
  have hs2 := hs
  unfold maxLen at hs2
  rcases nodeB_cases s with ⟨h0, h1 | ⟨h1, h2⟩⟩ | ⟨h1, h2, h0⟩
  all_goals
    have H0 := hid h0
    clear h0
    go_enter Tryz.func50, Tryz.ntmps50
    go_wp2_with (go_at_call 72; refine (vsmall_any _ _ hs).mono ?_; rintro e w' ⟨rfl, hb⟩)
    go_ret
    first | exact ⟨by rw [H0.out]; rfl, Below.refl _ _⟩ | exact ⟨by rw [H0.out]; rfl, hb⟩
end
end Go.Proofs.YtlaibmeokghdmaaGreatDoor
