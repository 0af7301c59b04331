/- Walks of wave.Row and gridworkref30.Row: what is heard at the first steps. -/
import Derived.Test.YtlgfpfjfoajjbaaPeriods
import Derived.Test.YtlgfpfjfoajjbaaReals2
namespace Go.Proofs.Ytlgfpfjfoajjbaa
open Go.RowKit

/-- What is heard at the first n steps. -/
def smps (l : List Tn) (n : Nat) : List Nat := (List.range n).map fun k : Nat => smp l k
theorem smps_succ (l : List Tn) (n : Nat) : smps l (n + 1) = smps l n ++ [smp l n] := range_succ_map _ _
theorem smps_len (l : List Tn) (n : Nat) : (smps l n).length = n := by simp [smps]
/-- A row: the reals, up to NaN's bits; or the error. -/
def rowSpec (l : List Tn) (n : Int) : List Nat × Int := if n < 0 ∨ 65536 < n then ([], 2) else (smps l n.toNat, 0)
/-- A slice of reals of its own, and an error. -/
def RetRe (S : List Nat × Int) (w : World) (en : Ending) (w' : World) : Prop :=
  ∃ (v : Value) (k : Int) (xs : List Nat), en = .returned (.tuple #[v, .int .i64 k]) ∧ w'.ownsRow w.heap.size 63 1 v xs.length (xs.map (Value.float .f64)) ∧ (xs.map fc, k) = S ∧ Below w.heap.size w w'

set_option maxRecDepth 100000 in
set_option maxHeartbeats 1000000 in
theorem rrow_any (v : Value) (l : List Tn) (n : Int) (w : World) (hv : IsSl w 3 v l.length (l.flatMap ta)) (hl : l.length ≤ 140737488355328) :
    Calls Try.prog 35 #[v, .int .i64 n] w (RetRe (rowSpec l n) w) := by
  obtain ⟨a, c, rfl⟩ := hv.form
  obtain ⟨i0, hi, hz0, hz1, hz2⟩ := info_parts infoF
  by_cases hbad : n < 0 ∨ 65536 < n
  · have hs : rowSpec l n = ([], 2) := if_pos hbad
    rw [hs]
    clear hs
    rcases hbad with hbad | hbad
    · go_enter Try.func35, Try.ntmps35
      go_wp2
      go_ret2
      exact ⟨_, _, [], rfl, World.ownsRow_nil _ _ _ _, rfl, Below.refl _ _⟩
    · have h0 : ¬ n < 0 := by omega
      go_enter Try.func35, Try.ntmps35
      go_wp2
      go_ret2
      exact ⟨_, _, [], rfl, World.ownsRow_nil _ _ _ _, rfl, Below.refl _ _⟩
  · have hs : rowSpec l n = (smps l n.toNat, 0) := if_neg hbad
    rw [hs]
    obtain ⟨m, rfl⟩ := Int.eq_ofNat_of_zero_le (show 0 ≤ n by omega)
    have hm : m ≤ 65536 := by omega
    have h0 : ¬ (m : Int) < 0 := by omega
    have h1 : ¬ 65536 < (m : Int) := by omega
    clear hs hbad
    rw [Int.toNat_natCast]
    go_enter Try.func35, Try.ntmps35
    go_wp2
    go_loopw [6, 7] (fun out i wr => ∃ (k : Nat) (xs : List Nat), k ≤ m ∧ i = .int .i64 k ∧ wr.ownsRow w.heap.size 63 1 out k (xs.map (Value.float .f64)) ∧ xs.map fc = smps l k ∧ Below w.heap.size w wr) (fun _ i _ => m - (intOf i).toNat)
    case atStart => exact ⟨0, [], Nat.zero_le _, rfl, World.ownsRow_nil _ _ _ _, rfl, Below.refl _ _⟩
    case round =>
      obtain ⟨k, xs, hk, rfl, hown, hxs, hb⟩ := hrel
      by_cases hlt : k < m
      · have hv1 := hv.below hb (Nat.le_refl _)
        have HB := hid hb
        have HXS := hid hxs
        have HO := hid hown
        clear hb hxs hown
        go_wp2_with fail
        refine (rsample_any _ l k _ hv1 hl).mono ?_
        rintro e w1 ⟨v1, rfl, hb1, r1, rfl, hr1⟩
        have HB1 := hid (below_step HB.out hb1)
        have hsz := HB1.out.size
        have hown : w1.ownsRow w.heap.size 63 1 u6 k (xs.map (Value.float .f64)) := own_none HO.out (grown_of_below hb1 _)
        have HR := hid hr1
        clear hb1 hr1 hv1
        go_wp2_with (refine wpList_push rfl rfl _ rfl _ _ _ rfl rfl w.heap.size 63 1 8 i0 (.float .f64 0) Try.underlying24 hi hz0 hz1 hz2 rfl (by decide) (by decide) _ k _ hown hsz _ rfl rfl (by simp [go_sem, Value.oneCell']) rfl rfl (by simp [maxLen]; omega) (by omega) ?_; intro g1 cap1 w2 hown1 hgr1 hat1 hlt1)
        go_roundw
        case rel =>
          refine ⟨k + 1, xs ++ [r1], by omega, by go_num, ?_, ?_, below_grown HB1.out hgr1 fun _ e => (hown.lt _ e).1⟩
          · rw [List.map_append]; exact hown1
          · rw [List.map_append, HXS.out, smps_succ, List.map_cons, List.map_nil, HR.out]
        case measure => simp [intOf]; omega
      · go_wp2
        go_ret2
        obtain rfl : k = m := by omega
        have hlen : xs.length = k := by have := congrArg List.length hxs; simpa [smps_len] using this
        exact ⟨_, _, xs, rfl, by rw [hlen]; exact hown, by rw [hxs], hb⟩

theorem set_fill (xs : List Nat) (k m r : Nat) (h : xs.length = k) (hk : k < m) :
    (xs.map (Value.float .f64) ++ List.replicate (m - k) (Value.float .f64 0)).set k (.float .f64 r) = (xs ++ [r]).map (Value.float .f64) ++ List.replicate (m - (k + 1)) (Value.float .f64 0) := by
  have hl : (xs.map (Value.float .f64)).length = k := by rw [List.length_map, h]
  rw [List.set_append_right _ _ (by omega), hl, Nat.sub_self, show m - k = (m - (k + 1)) + 1 by omega, List.replicate_succ, List.set_cons_zero, List.map_append, List.append_assoc]
  rfl
set_option maxRecDepth 100000 in
set_option maxHeartbeats 1000000 in
theorem wrow_any (v : Value) (l : List Tn) (n : Int) (w : World) (hv : IsSl w 3 v l.length (l.flatMap ta)) (hl : l.length ≤ 140737488355328) :
    Calls Try.prog 34 #[v, .int .i64 n] w (RetRe (rowSpec l n) w) := by
  obtain ⟨a, c, rfl⟩ := hv.form
  obtain ⟨i0, hi, hz0, hz1, hz2⟩ := info_parts infoF
  by_cases hbad : n < 0 ∨ 65536 < n
  · have hs : rowSpec l n = ([], 2) := if_pos hbad
    rw [hs]
    clear hs
    rcases hbad with hbad | hbad
    · go_enter Try.func34, Try.ntmps34
      go_wp2
      go_ret2
      exact ⟨_, _, [], rfl, World.ownsRow_nil _ _ _ _, rfl, Below.refl _ _⟩
    · have h0 : ¬ n < 0 := by omega
      go_enter Try.func34, Try.ntmps34
      go_wp2
      go_ret2
      exact ⟨_, _, [], rfl, World.ownsRow_nil _ _ _ _, rfl, Below.refl _ _⟩
  · have hs : rowSpec l n = (smps l n.toNat, 0) := if_neg hbad
    rw [hs]
    obtain ⟨m, rfl⟩ := Int.eq_ofNat_of_zero_le (show 0 ≤ n by omega)
    have hm : m ≤ 65536 := by omega
    have h0 : ¬ (m : Int) < 0 := by omega
    have h1 : ¬ 65536 < (m : Int) := by omega
    clear hs hbad
    rw [Int.toNat_natCast]
    go_enter Try.func34, Try.ntmps34
    go_wp2_with (refine wpList_make_full _ rfl _ _ _ rfl w.heap.size 63 i0 (.float .f64 0) 1 Try.underlying24 hi hz0 hz1 .i64 .i64 _ _ m rfl rfl rfl rfl (by rw [hz2]; omega) (by simp [maxLen]; omega) (Nat.le_refl _) ?_; intro w1 hown1 hgr1)
    have hown0 : w1.ownsRow w.heap.size 63 1 (.slice (some ⟨w.heap.size, 0, none⟩) m m) m (List.replicate m (Value.float .f64 0)) := by
      have h := hown1
      rw [Nat.mul_one, show (Value.float .f64 0).cells = #[.float .f64 0] from rfl, toList_madeCells_one] at h
      exact h
    have HB0 := hid (show Below w.heap.size w w1 from (Below.refl _ _).grown hgr1 (Nat.le_refl _) (by intro k e; cases e))
    clear hown1 hgr1
    generalize (some ⟨w.heap.size, 0, none⟩ : Option Addr) = a1 at *
    have HOWN := hid hown0
    clear hown0
    go_wp2
    go_loopw [17] (fun i wr => ∃ (k : Nat) (xs : List Nat), k ≤ m ∧ i = .int .i64 k ∧ xs.length = k ∧ wr.ownsRow w.heap.size 63 1 (.slice a1 m m) m (xs.map (Value.float .f64) ++ List.replicate (m - k) (.float .f64 0)) ∧ xs.map fc = smps l k ∧ Below w.heap.size w wr) (fun i _ => m - (intOf i).toNat)
    case atStart => exact ⟨0, [], Nat.zero_le _, rfl, rfl, by simpa using HOWN.out, rfl, HB0.out⟩
    case round =>
      obtain ⟨k, xs, hk, rfl, hlen, hown, hxs, hb⟩ := hrel
      by_cases hlt : k < m
      · have hv1 := hv.below hb (Nat.le_refl _)
        have HB := hid hb
        have HXS := hid hxs
        have HO := hid hown
        have HLEN := hid hlen
        clear hb hxs hown hlen
        go_wp2_with fail
        refine (wsample_any _ l k _ hv1 hl).mono ?_
        rintro e w1 ⟨v1, rfl, hb1, r1, rfl, hr1⟩
        have HB1 := hid (below_step HB.out hb1)
        have hown : w1.ownsRow w.heap.size 63 1 (.slice a1 m m) m (xs.map (Value.float .f64) ++ List.replicate (m - k) (.float .f64 0)) := own_none HO.out (grown_of_below hb1 _)
        have HR := hid hr1
        clear hb1 hr1 hv1
        obtain ⟨g, x, hidx, hB, hg, hcell, hx, hfr, hob, hst⟩ := own_at1 Try.underlying24 hi hz1 hown hlt
        have HO1 := hid (hst w1 hown (.float .f64 r1)).1
        have HGB := hid hB
        clear hx hob hst hown
        go_wp2_with fail
        go_roundw
        case rel =>
          refine ⟨k + 1, xs ++ [r1], by omega, by go_num, by simp [HLEN.out], ?_, ?_, HB1.out.setCell HGB.out _⟩
          · rw [← set_fill xs k m r1 HLEN.out hlt]; exact HO1.out
          · rw [List.map_append, HXS.out, smps_succ, List.map_cons, List.map_nil, HR.out]
        case measure => simp [intOf]; omega
      · go_wp2
        go_ret2
        obtain rfl : k = m := by omega
        exact ⟨_, _, xs, rfl, by rw [hlen]; simpa using hown, by rw [hxs], hb⟩
end Go.Proofs.Ytlgfpfjfoajjbaa
