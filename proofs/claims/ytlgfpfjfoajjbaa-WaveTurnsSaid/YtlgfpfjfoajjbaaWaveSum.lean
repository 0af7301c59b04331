/- Walks of Sum: of the package wave and of the reference. -/
import Derived.Test.YtlgfpfjfoajjbaaApartReals
namespace Go.Proofs.Ytlgfpfjfoajjbaa
open Go.RowKit

/-- The sum of a column, row by row from the first on. -/
def colsum (ls : List (List Nat)) (k : Nat) : Nat := ls.foldl (fun s r => fadd s (fc (r.getD k 0))) 0
theorem colsum_snoc (ls : List (List Nat)) (r : List Nat) (k : Nat) : colsum (ls ++ [r]) k = fadd (colsum ls k) (fc (r.getD k 0)) := by simp [colsum]
/-- What Sum tells: the reals, up to a NaN's bits; the error. -/
def sumSpec (ls : List (List Nat)) : List Nat × Int :=
  if ls.length = 0 then ([], 0)
  else if ls.all (fun r => r.length == (ls.getD 0 []).length) then
    if (ls.getD 0 []).length > 65536 then ([], 3) else ((List.range (ls.getD 0 []).length).map (colsum ls), 0)
  else ([], 4)

/-- A list of slices of reals. -/
structure RRows (w : World) (v0 : Value) (m : Nat) (V : Nat → Value) (L : Nat → List Nat) : Prop where
  list : IsSl w 1 v0 m ((List.range m).map V)
  rows : ∀ j, j < m → IsSl w 1 (V j) (L j).length ((L j).map (Value.float .f64))
theorem RRows.below {w w' : World} {v0 : Value} {m : Nat} {V : Nat → Value} {L : Nat → List Nat} (h : RRows w v0 m V L) (hb : Below w.heap.size w w') : RRows w' v0 m V L :=
  ⟨h.list.below hb (Nat.le_refl _), fun j hj => (h.rows j hj).below hb (Nat.le_refl _)⟩
/-- What a function tells that tells reals and an error. -/
def RetFE (z : List Nat × Int) (w : World) (en : Ending) (w' : World) : Prop := ∃ v k, ∃ xs : List Nat, en = .returned (.tuple #[v, .int .i64 k]) ∧ w'.ownsRow w.heap.size 63 1 v xs.length (xs.map (Value.float .f64)) ∧ (xs.map fc, k) = z ∧ Below w.heap.size w w'
def lsOf (m : Nat) (L : Nat → List Nat) : List (List Nat) := (List.range m).map L
theorem lsOf_get {m : Nat} {L : Nat → List Nat} {j : Nat} (h : j < m) : (lsOf m L)[j]? = some (L j) := by simp [lsOf, h]
theorem lsOf_take {m : Nat} {L : Nat → List Nat} {j : Nat} (h : j ≤ m) : (lsOf m L).take j = lsOf j L := by
  unfold lsOf
  rw [← List.map_take, List.take_range, Nat.min_eq_left h]
theorem lsOf_succ (m : Nat) (L : Nat → List Nat) : lsOf (m + 1) L = lsOf m L ++ [L m] := range_succ_map _ _
theorem sum_0 {L : Nat → List Nat} : sumSpec (lsOf 0 L) = ([], 0) := by simp [sumSpec, lsOf]
theorem lsOf_head {m : Nat} {L : Nat → List Nat} (h : 0 < m) : (lsOf m L).getD 0 [] = L 0 := by simp [List.getD, lsOf_get h]
theorem sum_4 {m : Nat} {L : Nat → List Nat} {j : Nat} (hj : j < m) (h : ¬ (L j).length = (L 0).length) : sumSpec (lsOf m L) = ([], 4) := by
  have h0 : ¬ (lsOf m L).length = 0 := by simp [lsOf]; omega
  rw [sumSpec, if_neg h0, lsOf_head (by omega), if_neg]
  intro hall
  have := List.all_eq_true.1 hall (L j) (List.mem_of_getElem? (lsOf_get hj))
  simp at this; exact h this
theorem sum_all {m : Nat} {L : Nat → List Nat} (hm : 0 < m) (h : ∀ j, j < m → (L j).length = (L 0).length) : sumSpec (lsOf m L) = if (L 0).length > 65536 then ([], 3) else ((List.range (L 0).length).map (colsum (lsOf m L)), 0) := by
  have h0 : ¬ (lsOf m L).length = 0 := by simp [lsOf]; omega
  rw [sumSpec, if_neg h0, lsOf_head hm, if_pos]
  rw [List.all_eq_true]
  intro x hx
  obtain ⟨j, hj, rfl⟩ := List.mem_map.1 hx
  simp [h j (List.mem_range.1 hj)]

theorem cols_0 (L : Nat → List Nat) (n : Nat) : (List.replicate n 0).map fc = (List.range n).map (colsum (lsOf 0 L)) := by
  apply List.ext_getElem?
  intro i
  by_cases h : i < n
  · simp [h, fc_zero, colsum, lsOf]
  · simp [h]

theorem cols_step {L : Nat → List Nat} {n q j x y r : Nat} {ys : List Nat} (hys : ys.map fc = (List.range n).map (fun c => colsum (lsOf (if c < q then j + 1 else j) L) c)) (hq : q < n)
    (hx : ys[q]? = some x) (hy : (L j)[q]? = some y) (hr : fc r = fop .add (fc x) (fc y)) :
    (ys.set q r).map fc = (List.range n).map (fun c => colsum (lsOf (if c < q + 1 then j + 1 else j) L) c) := by
  have hlen : ys.length = n := by simpa using congrArg List.length hys
  have hxq : fc x = colsum (lsOf j L) q := by
    have := congrArg (fun l : List Nat => l[q]?) hys
    simpa [hx, hq] using this
  apply List.ext_getElem?
  intro i
  by_cases hi : i < n
  · by_cases hiq : i = q
    · subst hiq
      simp only [List.map_set, List.getElem?_map, List.getElem?_range hi, Option.map_some]
      rw [List.getElem?_set_self (by simp [hlen, hi]), if_pos (by omega), lsOf_succ, colsum_snoc, ← hxq, hr, List.getD, hy]
      rfl
    · have := congrArg (fun l : List Nat => l[i]?) hys
      simp only [List.getElem?_map, List.getElem?_range hi, Option.map_some] at this
      simp only [List.map_set, List.getElem?_map, List.getElem?_range hi, Option.map_some]
      rw [List.getElem?_set_ne (by omega), List.getElem?_map, this]
      by_cases h1 : i < q
      · rw [if_pos h1, if_pos (by omega)]
      · rw [if_neg h1, if_neg (by omega)]
  · simp [hi, hlen]

set_option maxRecDepth 100000 in
set_option maxHeartbeats 1000000 in
theorem wsum_any (v0 : Value) (m : Nat) (V : Nat → Value) (L : Nat → List Nat) (w : World) (hR : RRows w v0 m V L) (hm : m ≤ 140737488355328) (hn : ∀ j, j < m → (L j).length ≤ 140737488355328) :
    Calls Try.prog 10 #[v0] w (RetFE (sumSpec (lsOf m L)) w) := by
  obtain ⟨a0, c0, rfl⟩ := hR.list.form
  obtain ⟨i0, hi, hz0, hz1, hz2⟩ := info_parts infoF
  obtain ⟨iS, hiS, hS0, hS1, hS2⟩ := info_parts infoFs
  have HR := hid hR
  have HN := hid hn
  clear hR hn
  by_cases hm0 : m = 0
  · subst hm0
    go_enter Try.func10, Try.ntmps10
    go_wp2
    go_ret2
    exact ⟨_, _, [], rfl, World.ownsRow_nil _ _ _ _, sum_0.symm, Below.refl _ _⟩
  · have hmB : ((m : Int) == 0) = false := by simp [hm0]
    obtain ⟨ar, cr, hV0⟩ := (HR.out.rows 0 (by omega)).form
    have hL0 : (L 0).length ≤ 140737488355328 := HN.out 0 (by omega)
    obtain ⟨g0, o0, hidx0, hg0, hcell0, hob0⟩ := HR.out.list.atV Try.underlying23 hiS hS1 (show 0 < m by omega) hV0
    have HV0 := hid hV0
    have hidx00 : ∀ w', (Instr.indexAt 23 (.slice a0 m c0) (.int .i64 0)).run Try.prog w' = .ok (.pointer (some ⟨g0, o0, none⟩)) w' := hidx0
    clear hob0 hV0 hidx0
    go_enter Try.func10, Try.ntmps10
    go_wp2
    clear hidx00 hg0 hcell0
    go_loop [20] (fun i => ∃ k : Nat, k ≤ m ∧ i = .int .i64 k ∧ ∀ j, j < k → (L j).length = (L 0).length) (fun i => m - (intOf i).toNat)
    case atStart => exact ⟨0, by omega, rfl, fun j hj => by omega⟩
    case round =>
      obtain ⟨k, hk, rfl, hlen⟩ := hrel
      have HLEN := hid hlen
      clear hlen
      by_cases hlt : k < m
      · obtain ⟨aj, cj, hVj⟩ := (HR.out.rows k hlt).form
        obtain ⟨g0, o0, hidx0, hg0, hcell0, hob0⟩ := HR.out.list.atV Try.underlying23 hiS hS1 hlt hVj
        clear hob0 hVj
        by_cases hle : (L k).length = (L 0).length
        · have hb : (((L k).length : Int) != ((L 0).length : Int)) = false := by simp [hle]
          have HLE := hid hle
          clear hle
          go_wp2
          go_round
          case rel =>
            refine ⟨k + 1, by omega, by go_num, fun j hj => ?_⟩
            by_cases hjk : j = k
            · rw [hjk]; exact HLE.out
            · exact HLEN.out j (by omega)
          case measure => simp [intOf]; omega
        · have hb : (((L k).length : Int) != ((L 0).length : Int)) = true := by rw [bne_iff_ne]; omega
          have hsp := sum_4 (L := L) hlt hle
          have HSP := hid hsp
          clear hle hsp
          go_wp2
          go_ret2
          exact ⟨_, _, [], rfl, World.ownsRow_nil _ _ _ _, HSP.out.symm, Below.refl _ _⟩
      · have hall : ∀ j, j < m → (L j).length = (L 0).length := fun j hj => HLEN.out j (by omega)
        have hsp := sum_all (L := L) (by omega) hall
        have HALL := hid hall
        clear hall
        by_cases hbig : (L 0).length > 65536
        · have hgt : (65536 : Int) < ((L 0).length : Int) := by omega
          rw [if_pos hbig] at hsp
          have HSP := hid hsp
          clear hsp hbig
          go_wp2
          go_ret2
          exact ⟨_, _, [], rfl, World.ownsRow_nil _ _ _ _, HSP.out.symm, Below.refl _ _⟩
        · have hgt : ((L 0).length : Int) ≤ 65536 := by omega
          rw [if_neg hbig] at hsp
          have HSP := hid hsp
          clear hsp hbig
          go_wp2_with (refine wpList_make_full _ rfl _ _ _ rfl w.heap.size 63 i0 (.float .f64 0) 1 Try.underlying24 hi hz0 hz1 .i64 .i64 _ _ (L 0).length rfl rfl rfl rfl (by rw [hz2]; omega) (by simp [maxLen]; omega) (Nat.le_refl _) ?_; intro w1 hown1 hgr1)
          have hb1 : Below w.heap.size w w1 := (Below.refl _ _).grown hgr1 (Nat.le_refl _) (by intro k e; cases e)
          have hown2 : w1.ownsRow w.heap.size 63 1 (.slice (some ⟨w.heap.size, 0, none⟩) (L 0).length (L 0).length) (L 0).length ((List.replicate (L 0).length 0).map (Value.float .f64)) := by
            have h := hown1
            rw [Nat.mul_one, show (Value.float .f64 0).cells = #[.float .f64 0] from rfl, toList_madeCells_one] at h
            rwa [List.map_replicate]
          clear hown1
          generalize (some ⟨w.heap.size, 0, none⟩ : Option Addr) = a7 at *
          have HOWN := hid hown2
          have HB1 := hid hb1
          clear hown2 hb1 hgr1
          go_wp2
          go_loopw [35] (fun i wr => ∃ (j : Nat) (xs : List Nat), j ≤ m ∧ i = .int .i64 j ∧ wr.ownsRow w.heap.size 63 1 (.slice a7 (L 0).length (L 0).length) (L 0).length (xs.map (Value.float .f64)) ∧ xs.map fc = (List.range (L 0).length).map (colsum (lsOf j L)) ∧ Below w.heap.size w wr) (fun i _ => m - (intOf i).toNat)
          case atStart => exact ⟨0, _, by omega, rfl, HOWN.out, cols_0 L _, HB1.out⟩
          case round =>
            obtain ⟨j, xs, hj, rfl, hown, hxs, hb⟩ := hrel
            have HO := hid hown
            have HX := hid hxs
            have HB := hid hb
            clear hown hxs hb HOWN HB1
            by_cases hjl : j < m
            · obtain ⟨aj, cj, hVj⟩ := (HR.out.rows j hjl).form
              have hR2 := HR.out.below (HB.out)
              obtain ⟨g0, o0, hidx0, hg0, hcell0, hob0⟩ := hR2.list.atV Try.underlying23 hiS hS1 hjl hVj
              have HVJ := hid hVj
              have HLJ := hid (HALL.out j hjl)
              clear hob0 hVj hR2
              obtain ⟨wo, hwo⟩ : ∃ wo : World, wo = wr := ⟨_, rfl⟩
              subst hwo
              go_wp2
              clear hidx0 hg0 hcell0
              go_loopw [40] (fun i wr => ∃ (q : Nat) (xs : List Nat), q ≤ (L 0).length ∧ i = .int .i64 q ∧ wr.ownsRow w.heap.size 63 1 (.slice a7 (L 0).length (L 0).length) (L 0).length (xs.map (Value.float .f64)) ∧ xs.map fc = (List.range (L 0).length).map (fun c => colsum (lsOf (if c < q then j + 1 else j) L) c) ∧ Below w.heap.size w wr) (fun i _ => (L 0).length - (intOf i).toNat)
              case atStart => exact ⟨0, xs, by omega, rfl, HO.out, by simpa using HX.out, HB.out⟩
              case round =>
                obtain ⟨q, ys, hq, rfl, hown, hys, hb⟩ := hrel
                have HO2 := hid hown
                have HY := hid hys
                have HB2 := hid hb
                clear hown hys hb
                by_cases hql : q < (L 0).length
                · obtain ⟨g, x, hidx, hB, hg, hcell, hx, hfr, hob, hst⟩ := own_at1 Try.underlying24 hi hz1 HO2.out hql
                  obtain ⟨x, hx0, rfl⟩ := map_getElem? hx
                  have HX0 := hid hx0
                  have HST := hid hst
                  have hrow := (HR.out.below HB2.out).rows j hjl
                  rw [HVJ.out] at hrow
                  obtain ⟨g2, o2, y, hidx2, hg2, hcell2, hy⟩ := IsSl.at1 Try.underlying24 hi hz1 hrow (show q < (L j).length by have := HLJ.out; omega)
                  obtain ⟨y, hy0, rfl⟩ := map_getElem? hy
                  have HY0 := hid hy0
                  clear hx hx0 hst hrow hy hy0 hob
                  have hfa := @run_fadd Try.prog
                  go_wp2
                  go_region
                  go_wp2
                  go_roundw
                  case rel =>
                    refine ⟨q + 1, ys.set q (fval .add x y wr.drew), by omega, by go_num, ?_, cols_step HY.out hql HX0.out HY0.out (fc_fval _ _ _ _), (below_n HB2.out _).setCell hB _⟩
                    rw [List.map_set]
                    exact (HST.out (wr.drewN _) HO2.out _).1
                  case measure => simp [intOf]; omega
                · go_wp2
                  go_roundw
                  case rel =>
                    obtain rfl : q = (L 0).length := by omega
                    refine ⟨j + 1, ys, by omega, by go_num, HO2.out, ?_, HB2.out⟩
                    rw [HY.out]
                    refine List.map_congr_left fun c hc => ?_
                    rw [if_pos (List.mem_range.1 hc)]
                  case measure => simp [intOf]; omega
            · go_wp2
              go_ret2
              obtain rfl : j = m := by omega
              have hlen : xs.length = (L 0).length := by have := HO.out.1; simpa using this
              exact ⟨_, _, xs, rfl, by rw [hlen]; exact HO.out, by rw [HX.out, HSP.out], HB.out⟩

set_option maxRecDepth 100000 in
set_option maxHeartbeats 1000000 in
theorem rsum_any (v0 : Value) (m : Nat) (V : Nat → Value) (L : Nat → List Nat) (w : World) (hR : RRows w v0 m V L) (hm : m ≤ 140737488355328) (hn : ∀ j, j < m → (L j).length ≤ 140737488355328) :
    Calls Try.prog 11 #[v0] w (RetFE (sumSpec (lsOf m L)) w) := by
  obtain ⟨a0, c0, rfl⟩ := hR.list.form
  obtain ⟨i0, hi, hz0, hz1, hz2⟩ := info_parts infoF
  obtain ⟨iS, hiS, hS0, hS1, hS2⟩ := info_parts infoFs
  have HR := hid hR
  have HN := hid hn
  clear hR hn
  by_cases hm0 : m = 0
  · subst hm0
    go_enter Try.func11, Try.ntmps11
    go_wp2
    go_ret2
    exact ⟨_, _, [], rfl, World.ownsRow_nil _ _ _ _, sum_0.symm, Below.refl _ _⟩
  · have hmB : ((m : Int) == 0) = false := by simp [hm0]
    obtain ⟨ar, cr, hV0⟩ := (HR.out.rows 0 (by omega)).form
    have hL0 : (L 0).length ≤ 140737488355328 := HN.out 0 (by omega)
    have HV0 := hid hV0
    clear hV0
    go_enter Try.func11, Try.ntmps11
    go_wp2
    go_loopw [4] (fun i wr => ∃ k : Nat, k ≤ m ∧ i = .int .i64 k ∧ (∀ j, j < k → (L j).length = (L 0).length) ∧ Below w.heap.size w wr) (fun i _ => m - (intOf i).toNat)
    case atStart => exact ⟨0, by omega, rfl, fun j hj => by omega, Below.refl _ _⟩
    case round =>
      obtain ⟨k, hk, rfl, hlen, hb⟩ := hrel
      have HLEN := hid hlen
      have HB := hid hb
      clear hlen hb
      obtain ⟨g0, o0, hidx0, hg0, hcell0, hob0⟩ := (HR.out.below HB.out).list.atV Try.underlying23 hiS hS1 (show 0 < m by omega) HV0.out
      have hidx00 : ∀ w', (Instr.indexAt 23 (.slice a0 m c0) (.int .i64 0)).run Try.prog w' = .ok (.pointer (some ⟨g0, o0, none⟩)) w' := hidx0
      clear hob0 hidx0
      by_cases hlt : k < m
      · obtain ⟨aj, cj, hVj⟩ := (HR.out.rows k hlt).form
        obtain ⟨g1, o1, hidx1, hg1, hcell1, hob1⟩ := (HR.out.below HB.out).list.atV Try.underlying23 hiS hS1 hlt hVj
        clear hob1 hVj
        by_cases hle : (L k).length = (L 0).length
        · have hb : (((L k).length : Int) != ((L 0).length : Int)) = false := by simp [hle]
          have HLE := hid hle
          clear hle
          go_wp2_with fail
          go_quiet (fail)
          go_wp2
          go_roundw
          case rel =>
            refine ⟨k + 1, by omega, by go_num, fun j hj => ?_, below_n HB.out _⟩
            by_cases hjk : j = k
            · rw [hjk]; exact HLE.out
            · exact HLEN.out j (by omega)
          case measure => simp [intOf]; omega
        · have hb : (((L k).length : Int) != ((L 0).length : Int)) = true := by rw [bne_iff_ne]; omega
          have hsp := sum_4 (L := L) hlt hle
          have HSP := hid hsp
          clear hle hsp
          go_wp2_with fail
          go_quiet (fail)
          go_wp2
          go_ret2
          exact ⟨_, _, [], rfl, World.ownsRow_nil _ _ _ _, HSP.out.symm, below_n HB.out _⟩
      · have hall : ∀ j, j < m → (L j).length = (L 0).length := fun j hj => HLEN.out j (by omega)
        have hsp := sum_all (L := L) (by omega) hall
        have HALL := hid hall
        clear hall
        by_cases hbig : (L 0).length > 65536
        · have hgt : (65536 : Int) < ((L 0).length : Int) := by omega
          rw [if_pos hbig] at hsp
          have HSP := hid hsp
          clear hsp hbig
          go_wp2
          go_ret2
          exact ⟨_, _, [], rfl, World.ownsRow_nil _ _ _ _, HSP.out.symm, HB.out⟩
        · have hgt : ((L 0).length : Int) ≤ 65536 := by omega
          rw [if_neg hbig] at hsp
          have HSP := hid hsp
          clear hsp hbig
          go_wp2
          clear hidx00 hg0 hcell0
          go_loopw [5, 6] (fun out i wr => ∃ (q : Nat) (xs : List Nat), q ≤ (L 0).length ∧ i = .int .i64 q ∧ xs.length = q ∧ wr.ownsRow w.heap.size 63 1 out q (xs.map (Value.float .f64)) ∧ xs.map fc = (List.range q).map (colsum (lsOf m L)) ∧ Below w.heap.size w wr) (fun _ i _ => (L 0).length - (intOf i).toNat)
          case atStart => exact ⟨0, [], by omega, rfl, rfl, World.ownsRow_nil _ _ _ _, rfl, HB.out⟩
          case round =>
            obtain ⟨q, xs, hq, rfl, hxl, hown, hxs, hb⟩ := hrel
            have HXL := hid hxl
            have HO := hid hown
            have HX := hid hxs
            have HB2 := hid hb
            clear hxl hown hxs hb HB
            obtain ⟨g0, o0, hidx0, hg0, hcell0, hob0⟩ := (HR.out.below HB2.out).list.atV Try.underlying23 hiS hS1 (show 0 < m by omega) HV0.out
            have hidx00 : ∀ w', (Instr.indexAt 23 (.slice a0 m c0) (.int .i64 0)).run Try.prog w' = .ok (.pointer (some ⟨g0, o0, none⟩)) w' := hidx0
            clear hob0 hidx0
            by_cases hql : q < (L 0).length
            · obtain ⟨wo, hwo⟩ : ∃ wo : World, wo = wr := ⟨_, rfl⟩
              subst hwo
              go_wp2
              clear hidx00 hg0 hcell0
              go_loopw [7, 8] (fun s i wr => ∃ (j b n : Nat), j ≤ m ∧ i = .int .i64 j ∧ s = .float .f64 b ∧ fc b = colsum (lsOf j L) q ∧ wr = wo.drewN n) (fun _ i _ => m - (intOf i).toNat)
              case atStart => exact ⟨0, 0, 0, by omega, rfl, rfl, by rw [fc_zero]; rfl, rfl⟩
              case round =>
                obtain ⟨j, b, n, hj, rfl, rfl, hb, hw⟩ := hrel
                have HBB := hid hb
                have hb3 : Below w.heap.size w wr := by rw [hw]; exact below_n HB2.out _
                have HW := hid hw
                have HB3 := hid hb3
                clear hb hw hb3
                by_cases hjl : j < m
                · obtain ⟨aj, cj, hVj⟩ := (HR.out.rows j hjl).form
                  have hR3 := HR.out.below HB3.out
                  obtain ⟨g1, o1, hidx1, hg1, hcell1, hob1⟩ := hR3.list.atV Try.underlying23 hiS hS1 hjl hVj
                  have hrow := hR3.rows j hjl
                  rw [hVj] at hrow
                  obtain ⟨g2, o2, y, hidx2, hg2, hcell2, hy⟩ := IsSl.at1 Try.underlying24 hi hz1 hrow (show q < (L j).length by have := HALL.out j hjl; omega)
                  obtain ⟨y, hy0, rfl⟩ := map_getElem? hy
                  have HY0 := hid hy0
                  clear hy hy0 hrow hR3 hob1 hVj
                  have hfa := @run_fadd Try.prog
                  go_wp2
                  go_roundw
                  case rel =>
                    refine ⟨j + 1, _, n + fdr .add b y, by omega, by go_num, rfl, ?_, by rw [HW.out]; simp [World.drewN_drewN]⟩
                    rw [fc_fval, lsOf_succ, colsum_snoc, HBB.out, List.getD, HY0.out]
                    rfl
                  case measure => simp [intOf]; omega
                · obtain rfl : j = m := by omega
                  have hown := HO.out
                  have hsz := HB3.out.size
                  have hown : wr.ownsRow w.heap.size 63 1 u5 q (xs.map (Value.float .f64)) := by rw [HW.out]; exact HO.out
                  go_wp2_with (refine wpList_push rfl rfl _ rfl _ _ _ rfl rfl w.heap.size 63 1 8 i0 (.float .f64 0) Try.underlying24 hi hz0 hz1 hz2 rfl (by decide) (by decide) _ q _ hown hsz _ rfl rfl (by simp [go_sem, Value.oneCell']) rfl rfl (by simp [maxLen]; omega) (by omega) ?_; intro g1 cap1 w1 hown1 hgr1 hat1 hlt1)
                  go_roundw
                  case rel =>
                    refine ⟨q + 1, xs ++ [b], by omega, by go_num, by simp [HXL.out], by rw [List.map_append]; exact hown1, ?_, below_grown HB3.out hgr1 fun _ e => (hown.lt _ e).1⟩
                    rw [range_succ_map, List.map_append, HX.out, ← HBB.out]; rfl
                  case measure => simp [intOf]; omega
            · go_wp2
              go_ret2
              obtain rfl : q = (L 0).length := by omega
              exact ⟨_, _, xs, rfl, by rw [HXL.out]; exact HO.out, by rw [HX.out, HSP.out], HB2.out⟩
end Go.Proofs.Ytlgfpfjfoajjbaa
