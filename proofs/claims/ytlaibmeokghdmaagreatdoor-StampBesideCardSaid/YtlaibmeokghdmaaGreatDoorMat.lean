/- Matrices: matrix.Check, stamp.Add, the reference's Add, gridworkkit's LentMatrix and SameMatrix. -/
import Derived.Test.YtlaibmeokghdmaaGreatDoorMElements
import Derived.Test.YtlaibmeokghdmaaGreatDoorMParts2
import Derived.Laws.ResultCell
import Derived.Deep.DeepCutAuto
import Derived.Deep.Onto
namespace Go.Proofs.YtlaibmeokghdmaaGreatDoor
open Go.RowKit

/-- A matrix' value. -/
abbrev matV (r c : Int) (v : Value) : Value := .agg #[.int .i64 r, .int .i64 c, v]
/-- No matrix. -/
def mbad (r c : Int) (n : Nat) : Bool := decide (r < 0) || decide (64 < r) || decide (c < 0) || decide (64 < c) || !decide ((n : Int) = r * c)
theorem mbad_no {r c : Int} {n : Nat} (h : mbad r c n = false) : 0 ≤ r ∧ r ≤ 64 ∧ 0 ≤ c ∧ c ≤ 64 ∧ (n : Int) = r * c := by
  simp [mbad] at h; omega
theorem mul_64 {r c : Int} (h1 : 0 ≤ r) (h2 : r ≤ 64) (h3 : 0 ≤ c) (h4 : c ≤ 64) : 0 ≤ r * c ∧ r * c ≤ 4096 := by
  refine ⟨Int.mul_nonneg h1 h3, ?_⟩
  calc r * c ≤ 64 * c := Int.mul_le_mul_of_nonneg_right h2 h3
    _ ≤ 64 * 64 := by omega
    _ = 4096 := rfl

/-- .. as it is computed. -/
def mbadw (r c : Int) (n : Nat) : Bool := decide (r < 0) || decide (64 < r) || decide (c < 0) || decide (64 < c) || ((n : Int) != wrap64 (r * c))
theorem mbadw_eq (r c : Int) (n : Nat) : mbadw r c n = mbad r c n := by
  by_cases h : 0 ≤ r ∧ r ≤ 64 ∧ 0 ≤ c ∧ c ≤ 64
  · obtain ⟨h1, h2, h3, h4⟩ := h
    have := mul_64 h1 h2 h3 h4
    have hw : wrap64 (r * c) = r * c := by
      generalize r * c = x at this
      unfold wrap64; omega
    unfold mbadw mbad
    rw [hw]
    congr 1
  · have : (decide (r < 0) || decide (64 < r) || decide (c < 0) || decide (64 < c)) = true := by simp; omega
    simp only [mbadw, mbad, this, Bool.true_or]
/-- The error of no matrix. -/
def mchk (r c : Int) (n : Nat) : Int := if mbad r c n then 4 else 0
theorem mchk_yes {r c : Int} {n : Nat} (h : mbad r c n = true) : mchk r c n = 4 := by simp [mchk, h]
theorem mchk_no {r c : Int} {n : Nat} (h : mbad r c n = false) : mchk r c n = 0 := by simp [mchk, h]

set_option maxRecDepth 100000 in
set_option maxHeartbeats 400000 in
theorem mchk_any (r c : Int) (a : Option Addr) (n k : Nat) (w : World) :
    Calls Tryz.prog 36 #[matV r c (.slice a n k)] w (RetB (fun x => x = .int .i64 (mchk r c n)) w) := by
  go_enter Tryz.func36, Tryz.ntmps36
  go_wp2
  all_goals go_ret
  all_goals refine ⟨_, rfl, Below.alloc (Below.refl _ _) (Nat.le_refl _) _, congrArg (Value.int .i64) ?_⟩
  all_goals first
    | (refine (mchk_yes ?_).symm; rw [← mbadw_eq]; simp_all [mbadw]; done)
    | (refine (mchk_no ?_).symm; rw [← mbadw_eq]; simp_all [mbadw]; done)

/-- The cells of a block of three. -/
theorem mat_at {w1 : World} {g t : Nat} {x y z : Value} (h : w1.heap[g]? = some (.cells #[x, y, z] t (0, 0))) :
    w1.cell? ⟨g, 0, none⟩ = some x ∧ w1.cell? ⟨g, 1, none⟩ = some y ∧ w1.cell? ⟨g, 2, none⟩ = some z ∧ w1.frozen? ⟨g, 0, none⟩ = false ∧ w1.frozen? ⟨g, 1, none⟩ = false ∧ w1.frozen? ⟨g, 2, none⟩ = false := by
  refine ⟨cell_of_row _ _ _ _ _ _ h, cell_of_row _ _ _ _ _ _ h, cell_of_row _ _ _ _ _ _ h, ?_, ?_, ?_⟩ <;> simp [World.frozen?, h]
theorem cell_past {w : World} {g j : Nat} {x : Value} {o : Obj} (hg : g < w.heap.size) (h : w.cell? ⟨g, j, none⟩ = some x) : (w.alloc o).cell? ⟨g, j, none⟩ = some x := by
  rw [World.cell?_of_block (w := w) (heap_alloc_old w o hg)]; exact h
theorem below_allocdrew (w : World) (o : Obj) : Below w.heap.size w (w.alloc o).drew := ((Below.refl _ w).alloc (Nat.le_refl _) o).drew
theorem below_allocdrew_left {w w2 : World} {o : Obj} (h : Below (w.alloc o).drew.heap.size (w.alloc o).drew w2) : Below w.heap.size w w2 := (below_allocdrew w o).trans (h.mono (by simp))
theorem alloc2_0 (w : World) (a b : Obj) : ((w.alloc a).alloc b).heap[w.heap.size]? = some a := (heap_alloc_old (w.alloc a) b (by simp)).trans (heap_alloc_new w a)
theorem alloc2_1 (w : World) (a b : Obj) : ((w.alloc a).alloc b).heap[w.heap.size + 1]? = some b := by
  have := heap_alloc_new (w.alloc a) b
  simpa using this
theorem below_alloc2m {w w1 : World} {a b : Obj} (h : Below ((w.alloc a).alloc b).heap.size ((w.alloc a).alloc b) w1) : Below w.heap.size w w1 :=
  ((Below.refl _ w).alloc (Nat.le_refl _) a |>.alloc (by simp) b).trans (h.mono (by simp; omega))

/-- A matrix with a number added at a place, or the error. -/
def maddC (r c i j : Int) : Bool := decide (i < 0) || decide (r ≤ i) || decide (j < 0) || decide (c ≤ j)
def madd (r c : Int) (l : List Cx) (i j : Int) (y : Cx) : (Int × Int × List Cx) × Int :=
  if mbad r c l.length then ((0, 0, []), 4) else if maddC r c i j then ((0, 0, []), 2)
  else if cfin (cadd (l.getD (i * c + j).toNat (0, 0)) y) then ((r, c, l.set (i * c + j).toNat (cadd (l.getD (i * c + j).toNat (0, 0)) y)), 0) else ((0, 0, []), 6)
theorem maddC_no {r c i j : Int} (h : maddC r c i j = false) : 0 ≤ i ∧ i < r ∧ 0 ≤ j ∧ j < c := by
  simp [maddC] at h; omega
theorem place_of {r c i j : Int} {n : Nat} (h1 : 0 ≤ i) (h2 : i < r) (h3 : 0 ≤ j) (h4 : j < c) (h5 : r ≤ 64) (h6 : c ≤ 64) (h7 : (n : Int) = r * c) : ∃ k : Nat, i * c + j = k ∧ k < n ∧ i * c ≤ 4096 := by
  have h8 : 0 ≤ i * c := Int.mul_nonneg h1 (by omega)
  have h9 : (i + 1) * c ≤ r * c := Int.mul_le_mul_of_nonneg_right (by omega) (by omega)
  have h10 := mul_64 (r := r) (c := c) (by omega) h5 (by omega) h6
  rw [Int.add_mul, Int.one_mul] at h9
  exact ⟨(i * c + j).toNat, by omega, by omega, by omega⟩
/-- A matrix in a block of its own, its numbers in another. -/
def BoxOk (r c : Int) (n : Nat) (xs : List Value) (w1 wx : World) (v : Value) : Prop :=
  ∃ (g2 c2 : Nat) (a2 : Option Addr), v = .pointer (some ⟨g2, 0, none⟩) ∧ w1.heap.size ≤ g2 ∧ Below w1.heap.size w1 wx ∧ wx.heap[g2]? = some (.cells #[.int .i64 r, .int .i64 c, .slice a2 n c2] 38 (0, 0)) ∧
    wx.ownsRow w1.heap.size 47 1 (.slice a2 n c2) n xs ∧ (Value.slice a2 n c2).ownBlock ≠ some g2
theorem box_a {r c : Int} {n B : Nat} {xs : List Value} {w1 w2 : World} {a2 : Option Addr} {c2 : Nat} (hb : Below w1.heap.size w1 w2) (hB : w1.heap.size ≤ B) (h : w2.ownsRow B 47 1 (.slice a2 n c2) n xs) :
    BoxOk r c n xs w1 (w2.alloc (.cells #[.int .i64 r, .int .i64 c, .slice a2 n c2] 38)) (.pointer (some ⟨w2.heap.size, 0, none⟩)) :=
  ⟨_, c2, a2, rfl, hb.size, hb.alloc hb.size _, heap_alloc_new _ _, (World.ownsRow.mono h hB).alloc _, fun e => by have := (h.lt _ e).2; omega⟩
theorem set3_heap {w2 : World} {g t : Nat} {x y z a b c : Value} (h : w2.heap[g]? = some (.cells #[x, y, z] t (0, 0))) :
    (((w2.setCell ⟨g, 0, none⟩ a).setCell ⟨g, 1, none⟩ b).setCell ⟨g, 2, none⟩ c).heap[g]? = some (.cells #[a, b, c] t (0, 0)) := by
  have h1 := Go.heap_setCell_same w2 g 0 _ t a h
  have h2 := Go.heap_setCell_same _ g 1 _ t b h1
  exact Go.heap_setCell_same _ g 2 _ t c h2
theorem box_b {r c : Int} {n B : Nat} {xs : List Value} {w1 w2 : World} {a2 : Option Addr} {c2 : Nat} {x y z : Value} (hb : Below w1.heap.size w1 w2) (hB : w1.heap.size < B) (h : w2.ownsRow B 47 1 (.slice a2 n c2) n xs)
    (hz : w2.heap[w1.heap.size]? = some (.cells #[x, y, z] 38 (0, 0))) :
    BoxOk r c n xs w1 (((w2.setCell ⟨w1.heap.size, 0, none⟩ (.int .i64 r)).setCell ⟨w1.heap.size, 1, none⟩ (.int .i64 c)).setCell ⟨w1.heap.size, 2, none⟩ (.slice a2 n c2)) (.pointer (some ⟨w1.heap.size, 0, none⟩)) :=
  ⟨_, c2, a2, rfl, Nat.le_refl _, ((hb.setCell (Nat.le_refl _) _).setCell (Nat.le_refl _) _).setCell (Nat.le_refl _) _, set3_heap hz,
    World.ownsRow.mono (ownsRow_setCell_below (ownsRow_setCell_below (ownsRow_setCell_below h hB _) hB _) hB _) (Nat.le_of_lt hB), fun e => by have := (h.lt _ e).1; omega⟩
/-- A matrix of its own, and an error. -/
def RetMat (S : (Int × Int × List Cx) × Int) (w : World) (en : Ending) (w' : World) : Prop :=
  ∃ (r c : Int) (v : Value) (k : Int) (xs : List Cx), en = .returned (.tuple #[matV r c v, .int .i64 k]) ∧ w'.ownsRow w.heap.size 47 1 v xs.length (xs.map mkC) ∧ ((r, c, xs.map ck), k) = S ∧ Below w.heap.size w w'

set_option maxRecDepth 100000 in
set_option maxHeartbeats 1000000 in
theorem sadd_any (r c i j : Int) (v : Value) (l : List Cx) (y : Cx) (w : World) (hv : IsSl w 1 v l.length (l.map mkC)) (hl : l.length * 16 ≤ 140737488351232) :
    Calls Tryz.prog 19 #[matV r c v, .int .i64 i, .int .i64 j, mkC y] w (RetMat (madd r c (l.map ck) i j (ck y)) w) := by
  obtain ⟨a, k0, rfl⟩ := hv.form
  obtain ⟨i0, hi, hz0, hz1, hz2⟩ := info_parts infoC
  cases hbad : mbad r c l.length
  · have hm := mchk_no hbad
    cases hC : maddC r c i j
    · obtain ⟨r0, r64, q0, q64, hlen⟩ := mbad_no hbad
      obtain ⟨i0', ir, j0, jc⟩ := maddC_no hC
      obtain ⟨k, hk, hkl, hic⟩ := place_of i0' ir j0 jc r64 q64 hlen
      have hki : (i * c + j).toNat = k := by omega
      have hw1 : wrap64 (i * c) = i * c := by
        have h1 := Int.mul_nonneg i0' q0
        generalize i * c = x at *
        unfold wrap64; omega
      have hw2 : wrap64 (i * c + j) = (k : Int) := by rw [hk]; unfold wrap64; omega
      have hs : madd r c (l.map ck) i j (ck y) = if cfin (cadd ((l.map ck).getD k (0, 0)) (ck y)) then ((r, c, (l.map ck).set k (cadd ((l.map ck).getD k (0, 0)) (ck y))), 0) else ((0, 0, []), 6) := by
        simp only [madd, List.length_map, hbad, hC, hki, Bool.false_eq_true, if_false]
      have HV := hid hv
      have HS := hid hs
      have HM := hid hm
      have HL := hid hlen
      clear hv hs hm hC hbad hlen hk hki
      go_enter Tryz.func19, Tryz.ntmps19
      go_upto_region 6 with (go_at_call 36; refine (mchk_any _ _ _ _ _ _).mono ?_; rintro e w1 ⟨v1, rfl, hb1, rfl⟩; rw [HM.out]; have hB1 := below_alloc2m hb1; have q0 := mat_at ((hb1.block _ (by simp; omega)).trans (alloc2_0 _ _ _)); have HQ1 := hid ((hb1.block _ (by simp)).trans (alloc2_1 _ _ _)); have HB1 := hid hB1; have HBL := hid hb1; clear hb1 hB1; obtain ⟨c00, c01, c02, f00, f01, f02⟩ := q0)
      have hsl1 := HV.out.below HB1.out (Nat.le_refl _)
      have HSL := hid hsl1
      clear hsl1
      have hlt1 : w.heap.size + 2 ≤ w1.heap.size := by have := HBL.out.size; simpa using this
      have HLT1 := hid (show w.heap.size < w1.heap.size by omega)
      have HNE := hid (show ¬ w.heap.size = w1.heap.size by omega)
      go_cut [11] (fun s11 wx => BoxOk r c l.length (l.map mkC) w1 wx s11)
      case first =>
        go_region_held3 (fun w' => Below w1.heap.size w1 w' ∧ w'.cell? ⟨w.heap.size, 0, none⟩ = some (.int .i64 r) ∧ w'.cell? ⟨w.heap.size, 1, none⟩ = some (.int .i64 c) ∧ w'.cell? ⟨w.heap.size, 2, none⟩ = some (.slice a l.length k0))
          (((try dsimp only); (try go_split_ands); refine ⟨?_, ?_, ?_, ?_⟩ <;> (first | with_reducible exact (Below.refl _ _).drew | with_reducible exact below_allocdrew _ _ | with_reducible exact HBK.out | with_reducible exact (HBK.out.alloc HBK.out.size _) | with_reducible exact ((((HBK.out.alloc HBK.out.size _).setCell HBK.out.size _).setCell HBK.out.size _).setCell HBK.out.size _) | with_reducible exact (((HBK.out.setCell (Nat.le_refl _) _).setCell (Nat.le_refl _) _).setCell (Nat.le_refl _) _) | with_reducible exact cell_past HLT1.out c00 | with_reducible exact cell_past HLT1.out c01 | with_reducible exact cell_past HLT1.out c02 | with_reducible exact D0.out | with_reducible exact D1.out | with_reducible exact D2.out | with_reducible exact cell_past HLT2.out D0.out | with_reducible exact cell_past HLT2.out D1.out | with_reducible exact cell_past HLT2.out D2.out | with_reducible exact cell_store_ne HNE.out (cell_store_ne HNE.out (cell_store_ne HNE.out D0.out)) | with_reducible exact cell_store_ne HNE.out (cell_store_ne HNE.out (cell_store_ne HNE.out D1.out)) | with_reducible exact cell_store_ne HNE.out (cell_store_ne HNE.out (cell_store_ne HNE.out D2.out)) | (go_keep; done))))
          ((refine step_append_all rfl _ _ _ rfl 47 1 16 i0 (.complex .f64 0 0) Tryz.underlying36 hi hz0 hz1 hz2 rfl (by decide) _ l.length (l.map mkC) (by exact HSL.out.below (by first | exact (Below.refl _ _).drew | exact below_allocdrew _ _ | assumption) (Nat.le_refl _)) rfl rfl (by intro u hu; obtain ⟨z, _, rfl⟩ := List.mem_map.1 hu; rfl) (by simp [maxLen]; omega) (by omega) ?_; intro v2 w2 hown2 hgr2; have hbk : Below w1.heap.size w1 w2 := (by first | exact below_drew_left (below_of_grown hgr2) | exact below_allocdrew_left (below_of_grown hgr2)); obtain ⟨a2, c2, h2⟩ := (IsSl.of_own hown2).form; subst h2; have HO2 := hid hown2; have HBK := hid hbk; have HLT2 := hid (show w.heap.size < w2.heap.size by have := HBK.out.size; omega); have D0 := hid (cell_later HBK.out c00); have D1 := hid (cell_later HBK.out c01); have D2 := hid (cell_later HBK.out c02); (try (have hz := (below_of_grown hgr2).block w1.heap.size (by simp) |>.trans (heap_alloc_new w1 _); have HZ := hid hz; have qz := mat_at hz; clear hz; obtain ⟨z0, z1, z2, y0, y1, y2⟩ := qz)); clear hown2 hgr2))
        all_goals (go_wp2_with fail)
        all_goals go_meet
        all_goals first
          | exact box_a HBK.out (Nat.le_refl _) HO2.out
          | exact box_b HBK.out (by simp) HO2.out HZ.out
      case rest =>
        obtain ⟨g2, c2, a2, rfl, hg2, hbx, hblk2, hown, hne⟩ := hcut
        obtain ⟨g, x, hidx, hB, hg, hcell, hx, hfr, hob, hst⟩ := own_at1 Tryz.underlying36 hi hz1 hown hkl
        obtain ⟨z, hz, rfl⟩ := map_getElem? hx
        have hgg : ¬ (g2 = g) := fun e => hne (by rw [hob, e])
        have hgg2 : ¬ (g = g2) := fun e => hgg e.symm
        obtain ⟨d0, d1, d2, e0, e1, e2⟩ := mat_at hblk2
        have b1 := cell_later hbx c01
        have q1 := mat_at ((hbx.block _ (by omega)).trans HQ1.out)
        obtain ⟨c10, c11, c12, f10, f11, f12⟩ := q1
        have hzd : (l.map ck).getD k (0, 0) = ck z := by simp [List.getD, hz]
        rw [hzd] at HS
        have HX := hid hx
        have HZ := hid hz
        have HOB := hid hob
        have HST := hid hst
        have HNE := hid hne
        have HBX := hid hbx
        have HOWN := hid hown
        have HB2 := hid hblk2
        clear hx hz hob hst hne hbx hown hblk2 hzd c00 c01 c02 f00 f01 f02 HQ1 HV HSL
        have hbw : Below w.heap.size w wc := HB1.out.trans (HBX.out.mono (by omega))
        have HBW := hid hbw
        clear hbw
        go_wp2_with (first | (go_at_call 37; refine (padd_any _ _ _ _ _).mono ?_; rintro e w' ⟨v, n1, rfl, rfl, x1, x2, rfl, hx12⟩; have HX12 := hid hx12; clear hx12) | (go_at_call 38; refine (pfin_any _ _ _).mono ?_; rintro e w' ⟨v, n2, rfl, rfl, rfl⟩; rw [HX12.out]))
        all_goals (try simp only [Exit.inBlock, Exit.then])
        · rename_i t
          have hE := HS.out.trans (if_neg (by have t' := t; revert t'; simp [ck]))
          refine bodyPost_ret (v := .tuple #[matV 0 0 (.slice none 0 0), .int .i64 6]) ?_ rfl ⟨0, 0, _, 6, [], rfl, World.ownsRow_nil _ _ _ _, hE.symm,
            (((below_n ((below_n HBW.out _).setCell (by show _ ≤ g; omega) _) _).setCell (Nat.le_succ _) _).setCell (Nat.le_succ _) _).setCell (Nat.le_succ _) _⟩
          rw [results_cell_tmp rfl]; go_simp
        · rename_i t
          have hE := HS.out.trans (if_pos (by have t' := t; revert t'; simp [ck]))
          refine bodyPost_ret (v := .tuple #[matV r c (.slice a2 l.length c2), .int .i64 0]) ?_ rfl ⟨r, c, _, 0, l.set k (x1, x2), rfl, ?_, ?_,
            (((below_n ((below_n HBW.out _).setCell (by show _ ≤ g; omega) _) _).setCell (Nat.le_succ _) _).setCell (Nat.le_succ _) _).setCell (Nat.le_succ _) _⟩
          · rw [results_cell_tmp rfl]; go_simp
          · rw [List.length_set, List.map_set]
            have h1 := (HST.out (wc.drewN n1) HOWN.out (mkC (x1, x2))).1
            exact World.ownsRow.mono (ownsRow_setCell_below (ownsRow_setCell_below (ownsRow_setCell_below h1 (by show w.heap.size + 1 < _; omega) _) (by show w.heap.size + 1 < _; omega) _) (by show w.heap.size + 1 < _; omega) _) (by omega)
          · rw [hE, List.map_set, show ck (x1, x2) = cadd (ck z) (ck y) from HX12.out]
    · have hs : madd r c (l.map ck) i j (ck y) = ((0, 0, []), 2) := by simp [madd, hbad, hC]
      rw [hs]
      have HV := hid hv
      have HS := hid hs
      have HM := hid hm
      have HC := hid hC
      have HB := hid hbad
      clear hv hs hm hC hbad
      go_enter Tryz.func19, Tryz.ntmps19
      go_wp2_with (go_at_call 36; refine (mchk_any _ _ _ _ _ _).mono ?_; rintro e w1 ⟨v1, rfl, hb1, rfl⟩; rw [HM.out]; have hB1 := below_alloc2m hb1; have q0 := mat_at ((hb1.block _ (by simp; omega)).trans (alloc2_0 _ _ _)); have q1 := mat_at ((hb1.block _ (by simp)).trans (alloc2_1 _ _ _)); have HB1 := hid hB1; clear hb1 hB1; obtain ⟨c00, c01, c02, f00, f01, f02⟩ := q0; obtain ⟨c10, c11, c12, f10, f11, f12⟩ := q1)
      all_goals (try simp only [Exit.inBlock, Exit.then])
      all_goals first
        | (refine bodyPost_ret (v := .tuple #[matV 0 0 (.slice none 0 0), .int .i64 2]) ?_ rfl ⟨0, 0, _, 2, [], rfl, World.ownsRow_nil _ _ _ _, rfl, ((HB1.out.setCell (Nat.le_succ _) _).setCell (Nat.le_succ _) _).setCell (Nat.le_succ _) _⟩; rw [results_cell_tmp rfl]; go_simp; done)
        | (exfalso; have hx := HC.out; clear HC HB HV HM HS; simp only [maddC, Bool.or_eq_true, decide_eq_true_eq] at hx; omega)
  · have hm := mchk_yes hbad
    have hs : madd r c (l.map ck) i j (ck y) = ((0, 0, []), 4) := by simp [madd, hbad]
    rw [hs]
    have HV := hid hv
    have HS := hid hs
    have HM := hid hm
    clear hv hs hm hbad
    go_enter Tryz.func19, Tryz.ntmps19
    go_wp2_with (go_at_call 36; refine (mchk_any _ _ _ _ _ _).mono ?_; rintro e w1 ⟨v1, rfl, hb1, rfl⟩; rw [HM.out]; have hB1 := below_alloc2m hb1; have q0 := mat_at ((hb1.block _ (by simp; omega)).trans (alloc2_0 _ _ _)); have q1 := mat_at ((hb1.block _ (by simp)).trans (alloc2_1 _ _ _)); have HB1 := hid hB1; clear hb1 hB1; obtain ⟨c00, c01, c02, f00, f01, f02⟩ := q0; obtain ⟨c10, c11, c12, f10, f11, f12⟩ := q1)
    (try simp only [Exit.inBlock, Exit.then])
    refine bodyPost_ret (v := .tuple #[matV 0 0 (.slice none 0 0), .int .i64 4]) ?_ rfl ⟨0, 0, _, 4, [], rfl, World.ownsRow_nil _ _ _ _, rfl, ((HB1.out.setCell (Nat.le_succ _) _).setCell (Nat.le_succ _) _).setCell (Nat.le_succ _) _⟩
    rw [results_cell_tmp rfl]; go_simp
end Go.Proofs.YtlaibmeokghdmaaGreatDoor
