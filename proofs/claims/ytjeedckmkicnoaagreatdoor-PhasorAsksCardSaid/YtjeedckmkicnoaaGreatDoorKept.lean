/- Walk of gridworkkit's KeptSolution. -/
import Derived.Test.YtjeedckmkicnoaaGreatDoorMParts2
import Derived.Test.YtjeedckmkicnoaaGreatDoorNumbers2
namespace Go.Proofs.YtjeedckmkicnoaaGreatDoor
open Go.RowKit

theorem IsSl.cap {w : World} {a : Option Addr} {m c : Nat} {xs : List Value} (h : IsSl w 1 (.slice a m c) m xs) : m ≤ c := by
  rcases h.2 with ⟨h0, h1⟩ | ⟨g, off, c', hv, hc, hg, hcell⟩
  · cases h0; omega
  · cases hv; exact hc
set_option maxRecDepth 100000 in
set_option maxHeartbeats 1000000 in
theorem keptsol_any (f0 f1 v1 v2 : Value) (o : Nat) (V A : List Cx) (w : World) (h0 : IsSl w 1 f0 (V.length + 6) ((V ++ marksNumbers 7 6).map mkC)) (hq : IsSl w 1 f1 (A.length + 6) ((A ++ marksNumbers 7 6).map mkC))
    (h1 : IsSl w 1 v1 V.length (V.map mkC)) (h2 : IsSl w 1 v2 A.length (A.map mkC)) (hlv : V.length * 16 ≤ 140737488351232) (hla : A.length * 16 ≤ 140737488351232) :
    Calls Tryz.prog 26 #[.agg #[f0, f1], .agg #[.float .f64 o, v1, v2]] w (RetB (fun r => r = .bool true) w) := by
  have hbw := ((Below.refl w.heap.size w).alloc (Nat.le_refl _) (.cells #[f0, f1] 51)).alloc (by simp) (.cells #[.float .f64 o, v1, v2] 50)
  have hs0 := heap_past_of (o' := (.cells #[.float .f64 o, v1, v2] 50)) (heap_alloc_new w (.cells #[f0, f1] 51))
  have hs1 := heap_alloc_new (w.alloc (.cells #[f0, f1] 51)) (.cells #[.float .f64 o, v1, v2] 50)
  rw [show (w.alloc (.cells #[f0, f1] 51)).heap.size = w.heap.size + 1 by simp] at hs1
  have H0 := hid (h0.below hbw (Nat.le_refl _))
  have HQ := hid (hq.below hbw (Nat.le_refl _))
  have H1 := hid (h1.below hbw (Nat.le_refl _))
  have H2 := hid (h2.below hbw (Nat.le_refl _))
  have HBW := hid hbw
  have HS0 := hid hs0
  have HS1 := hid hs1
  clear h0 hq h1 h2 hbw hs0 hs1
  go_enter Tryz.func26, Tryz.ntmps26
  go_upto_region 1 with fail
  generalize (w.alloc (.cells #[f0, f1] 51)).alloc (.cells #[.float .f64 o, v1, v2] 50) = w1 at *
  have e0 := (block_cells HS0.out).1
  have z0 := e0 0 _ rfl
  have z1 := e0 1 _ rfl
  have e1 := (block_cells HS1.out).1
  have y1 := e1 1 _ rfl
  have y2 := e1 2 _ rfl
  clear e0 e1
  have l0 : (V ++ marksNumbers 7 6).length = V.length + 6 := by rw [List.length_append, marksNumbers_len]
  have l1 : (A ++ marksNumbers 7 6).length = A.length + 6 := by rw [List.length_append, marksNumbers_len]
  have L0 := hid l0
  have L1 := hid l1
  clear l0 l1
  go_wp2_with (go_at_call 59; first | (refine (keptnumbers_any f0 v1 (V ++ marksNumbers 7 6) V _ (by rw [L0.out]; exact H0.out) H1.out (by rw [L0.out]; omega) (by omega) rfl).mono ?_; rintro e w2 ⟨v, rfl, hb, rfl⟩; have HB2 := hid (below_next HBW.out hb); have HQ2 := hid (HQ.out.below hb (Nat.le_refl _)); have H22 := hid (H2.out.below hb (Nat.le_refl _)); have q0 := (block_cells (heap_later2 hb HS0.out)).1 1 _ rfl; have q1 := (block_cells (heap_later2 hb HS1.out)).1 2 _ rfl; clear hb) | (refine (keptnumbers_any f1 v2 (A ++ marksNumbers 7 6) A _ (by rw [L1.out]; exact HQ2.out) H22.out (by rw [L1.out]; omega) (by omega) rfl).mono ?_; rintro e w3 ⟨v, rfl, hb, rfl⟩; have HB3 := hid (below_next HB2.out hb); clear hb))
  go_ret
  exact ⟨_, rfl, HB3.out, rfl⟩
end Go.Proofs.YtjeedckmkicnoaaGreatDoor
