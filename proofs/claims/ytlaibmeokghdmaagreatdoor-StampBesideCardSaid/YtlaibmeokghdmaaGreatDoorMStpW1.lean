/- What netlist.Of leaves, by whether the net may be. -/
import Derived.Test.YtlaibmeokghdmaaGreatDoorOfN
import Derived.Test.YtlaibmeokghdmaaGreatDoorWth
import Derived.Test.YtlaibmeokghdmaaGreatDoorMNl
import Derived.Deep.QuietTactic
import Derived.BigQuiet
import Derived.StillTailTactics
namespace Go.Proofs.YtlaibmeokghdmaaGreatDoor

section
open Go.RowKit

theorem bad1_nz {l : List El} {k : Nat} {q : Nat × Int} : ∀ {r : List El}, firstBad l k r = some q → q.2 ≠ 0 := by
  intro r
  induction r generalizing k with
  | nil => intro h; cases h
  | cons x r ih =>
    intro h
    unfold firstBad at h
    split at h
    · exact ih h
    · rename_i h0
      obtain rfl := Option.some.inj h
      exact h0
theorem ofL_err {l : List El} (h : (ofL l).1 = false) : (ofL l).2.1 ≠ 0 := by
  unfold ofL at *
  split at h
  · rename_i h1; rw [if_pos h1]; decide
  · rename_i h1
    rw [if_neg h1]
    cases hf : firstBad l 0 l with
    | some q => exact bad1_nz hf
    | none =>
      rw [hf] at h
      dsimp only at h ⊢
      split at h
      · rename_i h2; rw [if_pos h2]; decide
      · cases h
theorem ofL_zero {l : List El} (h : (ofL l).1 = true) : (ofL l).2 = (0, 0) := by
  unfold ofL at *
  split at h
  · cases h
  · rename_i h1
    rw [if_neg h1]
    cases hf : firstBad l 0 l with
    | some q => rw [hf] at h; cases h
    | none =>
      rw [hf] at h
      dsimp only at h ⊢
      split at h
      · cases h
      · rename_i h2; rw [if_neg h2]
theorem retof_bad {R : World → Value → List El → Prop} {l : List El} {w w' : World} {e : Ending} (h : RetOf R l w e w') (h0 : (ofL l).1 = false) : ∃ x y : Int, e = .returned (.tuple #[.pointer none, .agg #[.int .i64 x, .int .i64 y]]) ∧ x ≠ 0 ∧ Below w.heap.size w w' := by
  obtain ⟨p, rfl, h, hb⟩ := h
  rcases h with ⟨_, rfl⟩ | ⟨h1, _⟩
  · exact ⟨_, _, rfl, ofL_err h0, hb⟩
  · rw [h0] at h1; cases h1
theorem retof_good {l : List El} {w w' : World} {e : Ending} (h : RetOf NN l w e w') (h0 : (ofL l).1 = true) : ∃ g : Nat, e = .returned (.tuple #[.pointer (some ⟨g, 0, none⟩), .agg #[.int .i64 0, .int .i64 0]]) ∧ NN w' (.pointer (some ⟨g, 0, none⟩)) l ∧ Below w.heap.size w w' := by
  obtain ⟨p, rfl, h, hb⟩ := h
  rcases h with ⟨h1, _⟩ | ⟨_, h2, h3⟩
  · rw [h0] at h1; cases h1
  · rw [ofL_zero h0]
    rcases h3 with ⟨h4, _⟩ | ⟨B, g, vl, vn, vb, bn, bp, bb, rfl, h4⟩
    · exact absurd h4 h2
    · exact ⟨g, rfl, .inr ⟨B, g, vl, vn, vb, bn, bp, bb, rfl, h4⟩, hb⟩
end

section
/- The package's board as it lies in memory. -/
open Go.RowKit

def boardCells (p : Value) (nd n : Nat) (ov : Bool) (M : List Cx) : Array Value := (p :: .int .i64 nd :: .int .i64 n :: .bool ov :: M.map mkC).toArray
theorem board_0 {p : Value} {nd n : Nat} {ov : Bool} {M : List Cx} : (boardCells p nd n ov M)[0]? = some p := by simp [boardCells]
theorem board_1 {p : Value} {nd n : Nat} {ov : Bool} {M : List Cx} : (boardCells p nd n ov M)[1]? = some (.int .i64 nd) := by simp [boardCells]
theorem board_2 {p : Value} {nd n : Nat} {ov : Bool} {M : List Cx} : (boardCells p nd n ov M)[2]? = some (.int .i64 n) := by simp [boardCells]
theorem board_3 {p : Value} {nd n : Nat} {ov : Bool} {M : List Cx} : (boardCells p nd n ov M)[3]? = some (.bool ov) := by simp [boardCells]
theorem board_z {p : Value} {nd n k : Nat} {ov : Bool} {M : List Cx} (h : k < M.length) : (boardCells p nd n ov M)[4 + k]? = some (mkC (M.getD k (0, 0))) := by
  unfold boardCells
  rw [List.getElem?_toArray, show 4 + k = k + 1 + 1 + 1 + 1 by omega]
  simp only [List.getElem?_cons_succ, List.getElem?_map, List.getD_eq_getElem?_getD]
  rw [List.getElem?_eq_getElem h]; rfl
theorem board_set_z {p : Value} {nd n k : Nat} {ov : Bool} {M : List Cx} (z : Cx) : (boardCells p nd n ov M).setIfInBounds (4 + k) (mkC z) = boardCells p nd n ov (M.set k z) := by
  unfold boardCells
  rw [List.setIfInBounds_toArray, show 4 + k = k + 1 + 1 + 1 + 1 by omega]
  simp only [List.set_cons_succ, List.map_set]
theorem board_set_ov {p : Value} {nd n : Nat} {ov b : Bool} {M : List Cx} : (boardCells p nd n ov M).setIfInBounds 3 (.bool b) = boardCells p nd n b M := by
  unfold boardCells
  rw [List.setIfInBounds_toArray]; rfl
/-- A board: its net, the number of its nodes, its order, what stands on it. -/
def BoardM (w : World) (g : Nat) (p : Value) (nd n : Nat) (m : Nat → Cx) (ov : Bool) (M : List Cx) : Prop :=
  M.length = 4096 ∧ w.heap[g]? = some (.cells (boardCells p nd n ov M) 81 (0, 0)) ∧ ∀ k, k < 4096 → ck (M.getD k (0, 0)) = m k
def BoardR (w : World) (g : Nat) (p : Value) (nd n : Nat) (s : StS) : Prop := ∃ M, BoardM w g p nd n s.1 s.2 M
theorem BoardM.below {w w' : World} {g nd n : Nat} {p : Value} {m : Nat → Cx} {ov : Bool} {M : List Cx} (h : BoardM w g p nd n m ov M) (hb : Below w.heap.size w w') : BoardM w' g p nd n m ov M :=
  ⟨h.1, heap_laterS hb h.2.1, h.2.2⟩
theorem BoardR.below {w w' : World} {g nd n : Nat} {p : Value} {s : StS} (h : BoardR w g p nd n s) (hb : Below w.heap.size w w') : BoardR w' g p nd n s := by
  obtain ⟨M, hM⟩ := h
  exact ⟨M, hM.below hb⟩
theorem BoardR.lt {w : World} {g nd n : Nat} {p : Value} {s : StS} (h : BoardR w g p nd n s) : g < w.heap.size := by
  obtain ⟨M, h1, h2, h3⟩ := h
  exact (Array.getElem?_eq_some_iff.1 h2).1
/-- A number put to its place. -/
theorem BoardM.put {w : World} {g nd n k : Nat} {p : Value} {m : Nat → Cx} {ov : Bool} {M : List Cx} (h : BoardM w g p nd n m ov M) (hk : k < 4096) (z : Cx) :
    BoardM (w.setCell ⟨g, 4 + k, none⟩ (mkC z)) g p nd n (upd m k (ck z)) ov (M.set k z) := by
  obtain ⟨h1, h2, h3⟩ := h
  refine ⟨by rw [List.length_set, h1], ?_, fun j hj => ?_⟩
  · have h4 := blk_setS (o := 4 + k) h2 (mkC z)
    rw [board_set_z] at h4
    exact h4
  · by_cases e : j = k
    · subst e
      rw [upd_same, List.getD_eq_getElem?_getD, List.getElem?_set_self (by omega)]; rfl
    · rw [upd_ne _ _ e, ← h3 j hj, List.getD_eq_getElem?_getD, List.getD_eq_getElem?_getD, List.getElem?_set_ne (Ne.symm e)]
theorem BoardM.mark {w : World} {g nd n : Nat} {p : Value} {m : Nat → Cx} {ov : Bool} {M : List Cx} (h : BoardM w g p nd n m ov M) (b : Bool) :
    BoardM (w.setCell ⟨g, 3, none⟩ (.bool b)) g p nd n m b M := by
  obtain ⟨h1, h2, h3⟩ := h
  have h4 := blk_setS (o := 3) h2 (.bool b)
  rw [board_set_ov] at h4
  exact ⟨h1, h4, h3⟩
/-- What a stamping function leaves. -/
def RetBd (g : Nat) (p : Value) (nd n : Nat) (s : StS) (w : World) (en : Ending) (w' : World) : Prop := en = .returned (.tuple #[]) ∧ BoardR w' g p nd n s ∧ w.grownBy w' (some g)
end

section
/- Walks of the package stamp's board: add, sub. -/
open Go.RowKit

set_option maxRecDepth 100000 in
set_option maxHeartbeats 1000000 in
theorem badd_any (g nd n : Nat) (p : Value) (s : StS) (i j : Int) (a b : Nat) (w : World) (h : BoardR w g p nd n s) (hn : n ≤ 64) (hi : i < n) (hj : j < n) :
    Calls Tryz.prog 76 #[.pointer (some ⟨g, 0, none⟩), .int .i64 i, .int .i64 j, .complex .f64 a b] w (RetBd g p nd n (st1 n s ⟨false, i, j, (fc a, fc b)⟩) w) := by
  by_cases hi0 : i < 0
  · have H := hid h
    clear h
    go_enter Tryz.func76, Tryz.ntmps76
    go_wp2
    (try rw [Exit.noGoto_ret])
    go_end0
    exact ⟨rfl, by rw [st1_no (.inl hi0)]; exact H.out, World.grownBy.refl _ _⟩
  by_cases hj0 : j < 0
  · have H := hid h
    clear h
    go_enter Tryz.func76, Tryz.ntmps76
    go_wp2
    (try rw [Exit.noGoto_ret])
    go_end0
    exact ⟨rfl, by rw [st1_no (.inr hj0)]; exact H.out, World.grownBy.refl _ _⟩
  rw [st1_yes (show ¬ (i < 0 ∨ j < 0) by omega)]
  obtain ⟨i, rfl⟩ := Int.eq_ofNat_of_zero_le (show 0 ≤ i by omega)
  obtain ⟨j, rfl⟩ := Int.eq_ofNat_of_zero_le (show 0 ≤ j by omega)
  have hk : i * n + j < 4096 := by
    have h1 : i ≤ 63 := by omega
    have h2 : i * n ≤ 63 * n := Nat.mul_le_mul_right n h1
    omega
  have hidx : (((i : Nat) : Int) * (n : Int) + ((j : Nat) : Int)).toNat = i * n + j := by
    rw [show (i : Int) * (n : Int) = ((i * n : Nat) : Int) by simp]; omega
  have HIDX := hid hidx
  obtain ⟨q, hq⟩ : ∃ q, i * n = q := ⟨_, rfl⟩
  obtain ⟨k, hkk⟩ : ∃ k, q + j = k := ⟨_, rfl⟩
  rw [hq, hkk] at hk
  have hw1 : IntKind.i64.wrap ((i : Int) * (n : Int)) = (q : Int) := by
    rw [show (i : Int) * (n : Int) = ((i * n : Nat) : Int) by simp, hq]
    rw [IntWalk.i64_in _ ⟨by omega, by omega⟩]
  have hw2 : IntKind.i64.wrap ((q : Int) + (j : Int)) = (k : Int) := by
    rw [IntWalk.i64_in _ ⟨by omega, by omega⟩]; omega
  have hkz : (k : Int) < 4096 := by omega
  have HQ := hid hq
  have HKK := hid hkk
  rw [hq, hkk] at HIDX
  clear hidx hq hkk
  obtain ⟨M, hM⟩ := h
  have HM := hid hM
  have HK := hid hk
  have hsc := cells_ofS HM.out.2.1
  have c2 := hsc.1 2 _ board_2
  clear hsc hM hk
  go_enter Tryz.func76, Tryz.ntmps76
  go_upto_region 1 with fail
  go_still_tail 12, (by kernel_rfl)
  change wpList _ _ _ _ _ w.drew
  have HD := hid (HM.out.below (Below.refl _ _).drew)
  have HG := hid (grown_of_below ((Below.refl w.heap.size w).drew) (some g))
  clear HM c2
  obtain ⟨hz, hfz⟩ := cells_ofS HD.out.2.1
  have cz := hz (4 + k) _ (board_z (by have := HD.out.1; have := HK.out; omega))
  have HFZ := hid hfz
  clear hz hfz
  have HZE := hid (HD.out.2.2 k HK.out)
  generalize w.drew = w1 at *
  generalize M.getD k (0, 0) = z at *
  obtain ⟨z1, z2⟩ := z
  go_upto_region 3 with (go_at_call 37; refine (padd_any z1 z2 a b _).mono ?_; rintro e w2 ⟨v, nn, rfl, he, r1, r2, rfl, hzz⟩; have hb2 : Below w1.heap.size w1 w2 := (by rw [he]; exact below_n (Below.refl _ _) nn); have HD2 := hid (HD.out.below hb2); have HG2 := hid (grown_trans HG.out (grown_of_below hb2 (some g))); have HZZ := hid hzz; have fz := (cells_ofS HD2.out.2.1).2 (4 + k); have cz2 := (hb2.cell (p := ⟨g, 4 + k, none⟩) (Array.getElem?_eq_some_iff.1 HD.out.2.1).1).trans cz; clear HD HG hzz HFZ he hb2 cz)
  have HD3 := hid (HD2.out.put HK.out (r1, r2))
  have HG3 := hid (grown_trans HG2.out (grown_setS w2 g (4 + k) (.complex .f64 r1 r2)))
  clear HD2 HG2 fz cz2
  have HD4 : Hid (BoardM (w2.setCell ⟨g, 4 + k, none⟩ (.complex .f64 r1 r2)) g p nd n (upd s.1 k (ck (r1, r2))) s.2 (M.set k (r1, r2))) := HD3
  clear HD3
  have HST := hid (show stZ n s.1 ⟨false, (i : Int), (j : Int), (fc a, fc b)⟩ = ck (r1, r2) by
    unfold stZ
    simp only [HIDX.out, Bool.false_eq_true, if_false]
    rw [← HZE.out]; exact HZZ.out.symm)
  generalize w2.setCell ⟨g, 4 + k, none⟩ (.complex .f64 r1 r2) = w3 at *
  have hsc := cells_ofS HD4.out.2.1
  have o3 := hsc.1 3 _ board_3
  have HZ3 := hid (hsc.1 (4 + k) _ (board_z (by have := HD4.out.1; have := HK.out; omega)))
  have z3 : w3.cell? ⟨g, 4 + k, none⟩ = some (.complex .f64 r1 r2) := by
    have h1 := HZ3.out
    rw [List.getD_eq_getElem?_getD, List.getElem?_set_self (by have := HD4.out.1; rw [List.length_set] at this; have := HK.out; omega)] at h1
    exact h1
  have f3 := hsc.2 3
  clear hsc HZ3
  rcases hov : s.2 with _ | _
  · rw [hov] at o3
    go_wp2_with (go_at_call 38; refine (pfin_any r1 r2 _).mono ?_; rintro e w4 ⟨v, nn4, rfl, he, rfl⟩; have hb4 : Below w3.heap.size w3 w4 := (by rw [he]; exact below_n (Below.refl _ _) nn4); have HD5 := hid (HD4.out.below hb4); have HG5 := hid (grown_trans HG3.out (grown_of_below hb4 (some g))); have o4 := (cells_ofS HD5.out.2.1).1 3 _ board_3; have f4 := (cells_ofS HD5.out.2.1).2 3; clear HD4 HG3 he hb4 o3 f3 z3)
    (try rw [Exit.noGoto_ret])
    go_end0
    refine ⟨rfl, ⟨M.set k (r1, r2), ?_⟩, grown_trans HG5.out (grown_setS _ _ _ _)⟩
    rw [HST.out, HIDX.out]
    rw [hov, Bool.false_or]
    exact HD5.out.mark _
  · rw [hov] at o3
    go_wp2
    (try rw [Exit.noGoto_ret])
    go_end0
    refine ⟨rfl, ⟨M.set k (r1, r2), ?_⟩, grown_trans HG3.out (grown_setS _ _ _ _)⟩
    rw [HST.out, HIDX.out]
    rw [hov, Bool.true_or]
    exact HD4.out.mark _
set_option maxRecDepth 100000 in
set_option maxHeartbeats 1000000 in
theorem bsub_any (g nd n : Nat) (p : Value) (s : StS) (i j : Int) (a b : Nat) (w : World) (h : BoardR w g p nd n s) (hn : n ≤ 64) (hi : i < n) (hj : j < n) :
    Calls Tryz.prog 77 #[.pointer (some ⟨g, 0, none⟩), .int .i64 i, .int .i64 j, .complex .f64 a b] w (RetBd g p nd n (st1 n s ⟨true, i, j, (fc a, fc b)⟩) w) := by
  by_cases hi0 : i < 0
  · have H := hid h
    clear h
    go_enter Tryz.func77, Tryz.ntmps77
    go_wp2
    (try rw [Exit.noGoto_ret])
    go_end0
    exact ⟨rfl, by rw [st1_no (.inl hi0)]; exact H.out, World.grownBy.refl _ _⟩
  by_cases hj0 : j < 0
  · have H := hid h
    clear h
    go_enter Tryz.func77, Tryz.ntmps77
    go_wp2
    (try rw [Exit.noGoto_ret])
    go_end0
    exact ⟨rfl, by rw [st1_no (.inr hj0)]; exact H.out, World.grownBy.refl _ _⟩
  rw [st1_yes (show ¬ (i < 0 ∨ j < 0) by omega)]
  obtain ⟨i, rfl⟩ := Int.eq_ofNat_of_zero_le (show 0 ≤ i by omega)
  obtain ⟨j, rfl⟩ := Int.eq_ofNat_of_zero_le (show 0 ≤ j by omega)
  have hk : i * n + j < 4096 := by
    have h1 : i ≤ 63 := by omega
    have h2 : i * n ≤ 63 * n := Nat.mul_le_mul_right n h1
    omega
  have hidx : (((i : Nat) : Int) * (n : Int) + ((j : Nat) : Int)).toNat = i * n + j := by
    rw [show (i : Int) * (n : Int) = ((i * n : Nat) : Int) by simp]; omega
  have HIDX := hid hidx
  obtain ⟨q, hq⟩ : ∃ q, i * n = q := ⟨_, rfl⟩
  obtain ⟨k, hkk⟩ : ∃ k, q + j = k := ⟨_, rfl⟩
  rw [hq, hkk] at hk
  have hw1 : IntKind.i64.wrap ((i : Int) * (n : Int)) = (q : Int) := by
    rw [show (i : Int) * (n : Int) = ((i * n : Nat) : Int) by simp, hq]
    rw [IntWalk.i64_in _ ⟨by omega, by omega⟩]
  have hw2 : IntKind.i64.wrap ((q : Int) + (j : Int)) = (k : Int) := by
    rw [IntWalk.i64_in _ ⟨by omega, by omega⟩]; omega
  have hkz : (k : Int) < 4096 := by omega
  have HQ := hid hq
  have HKK := hid hkk
  rw [hq, hkk] at HIDX
  clear hidx hq hkk
  obtain ⟨M, hM⟩ := h
  have HM := hid hM
  have HK := hid hk
  have hsc := cells_ofS HM.out.2.1
  have c2 := hsc.1 2 _ board_2
  clear hsc hM hk
  go_enter Tryz.func77, Tryz.ntmps77
  go_upto_region 1 with fail
  go_still_tail 12, (by kernel_rfl)
  change wpList _ _ _ _ _ w.drew
  have HD := hid (HM.out.below (Below.refl _ _).drew)
  have HG := hid (grown_of_below ((Below.refl w.heap.size w).drew) (some g))
  clear HM c2
  obtain ⟨hz, hfz⟩ := cells_ofS HD.out.2.1
  have cz := hz (4 + k) _ (board_z (by have := HD.out.1; have := HK.out; omega))
  have HFZ := hid hfz
  clear hz hfz
  have HZE := hid (HD.out.2.2 k HK.out)
  generalize w.drew = w1 at *
  generalize M.getD k (0, 0) = z at *
  obtain ⟨z1, z2⟩ := z
  go_upto_region 3 with (go_at_call 70; refine (psub_any z1 z2 a b _).mono ?_; rintro e w2 ⟨v, nn, rfl, he, r1, r2, rfl, hzz⟩; have hb2 : Below w1.heap.size w1 w2 := (by rw [he]; exact below_n (Below.refl _ _) nn); have HD2 := hid (HD.out.below hb2); have HG2 := hid (grown_trans HG.out (grown_of_below hb2 (some g))); have HZZ := hid hzz; have fz := (cells_ofS HD2.out.2.1).2 (4 + k); have cz2 := (hb2.cell (p := ⟨g, 4 + k, none⟩) (Array.getElem?_eq_some_iff.1 HD.out.2.1).1).trans cz; clear HD HG hzz HFZ he hb2 cz)
  have HD3 := hid (HD2.out.put HK.out (r1, r2))
  have HG3 := hid (grown_trans HG2.out (grown_setS w2 g (4 + k) (.complex .f64 r1 r2)))
  clear HD2 HG2 fz cz2
  have HD4 : Hid (BoardM (w2.setCell ⟨g, 4 + k, none⟩ (.complex .f64 r1 r2)) g p nd n (upd s.1 k (ck (r1, r2))) s.2 (M.set k (r1, r2))) := HD3
  clear HD3
  have HST := hid (show stZ n s.1 ⟨true, (i : Int), (j : Int), (fc a, fc b)⟩ = ck (r1, r2) by
    unfold stZ
    simp only [HIDX.out, if_true]
    rw [← HZE.out]; exact HZZ.out.symm)
  generalize w2.setCell ⟨g, 4 + k, none⟩ (.complex .f64 r1 r2) = w3 at *
  have hsc := cells_ofS HD4.out.2.1
  have o3 := hsc.1 3 _ board_3
  have HZ3 := hid (hsc.1 (4 + k) _ (board_z (by have := HD4.out.1; have := HK.out; omega)))
  have z3 : w3.cell? ⟨g, 4 + k, none⟩ = some (.complex .f64 r1 r2) := by
    have h1 := HZ3.out
    rw [List.getD_eq_getElem?_getD, List.getElem?_set_self (by have := HD4.out.1; rw [List.length_set] at this; have := HK.out; omega)] at h1
    exact h1
  have f3 := hsc.2 3
  clear hsc HZ3
  rcases hov : s.2 with _ | _
  · rw [hov] at o3
    go_wp2_with (go_at_call 38; refine (pfin_any r1 r2 _).mono ?_; rintro e w4 ⟨v, nn4, rfl, he, rfl⟩; have hb4 : Below w3.heap.size w3 w4 := (by rw [he]; exact below_n (Below.refl _ _) nn4); have HD5 := hid (HD4.out.below hb4); have HG5 := hid (grown_trans HG3.out (grown_of_below hb4 (some g))); have o4 := (cells_ofS HD5.out.2.1).1 3 _ board_3; have f4 := (cells_ofS HD5.out.2.1).2 3; clear HD4 HG3 he hb4 o3 f3 z3)
    (try rw [Exit.noGoto_ret])
    go_end0
    refine ⟨rfl, ⟨M.set k (r1, r2), ?_⟩, grown_trans HG5.out (grown_setS _ _ _ _)⟩
    rw [HST.out, HIDX.out]
    rw [hov, Bool.false_or]
    exact HD5.out.mark _
  · rw [hov] at o3
    go_wp2
    (try rw [Exit.noGoto_ret])
    go_end0
    refine ⟨rfl, ⟨M.set k (r1, r2), ?_⟩, grown_trans HG3.out (grown_setS _ _ _ _)⟩
    rw [HST.out, HIDX.out]
    rw [hov, Bool.true_or]
    exact HD4.out.mark _
end
end Go.Proofs.YtlaibmeokghdmaaGreatDoor
