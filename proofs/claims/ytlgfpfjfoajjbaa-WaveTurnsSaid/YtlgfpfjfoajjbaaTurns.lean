/- WaveTurns: small walks and the loop that lays the tones out. -/
import Derived.Test.YtlgfpfjfoajjbaaMidd
import Derived.Test.YtlgfpfjfoajjbaaRowsW
import Derived.Deep.Onto
import Derived.BigRegion
namespace Go.Proofs.Ytlgfpfjfoajjbaa
open Go.RowKit

/-- What fc tells of a number is that number. -/
theorem eq_of_fc {r z : Nat} (h : fc r = z) (hz : FV.fin z = true) : r = z := by
  have hn : fnan r = false := by rw [← fnan_fc, h]; exact fin_fnan hz
  rw [← h, fc_of_not hn]
/-- A tone, its Phase and Harmonic cut. -/
def norm (t : Tn) : Tn := (t.1, t.2.1.tmod 1099511627776, t.2.2.tmod 1048576)
/-- The tones behind k rounds. -/
def al (l : List Tn) (k : Nat) : List Tn := (l.take k).map norm ++ l.drop k
theorem al_len (l : List Tn) (k : Nat) : (al l k).length = l.length := by unfold al; simp; omega
theorem al_zero (l : List Tn) : al l 0 = l := by simp [al]
theorem al_all (l : List Tn) (k : Nat) (h : l.length ≤ k) : al l k = l.map norm := by unfold al; rw [List.take_of_length_le h, List.drop_of_length_le h, List.append_nil]
theorem al_get (l : List Tn) (k : Nat) : (al l k)[k]? = l[k]? := by
  unfold al
  by_cases h : k ≤ l.length
  · rw [List.getElem?_append_right (by simp; omega)]; simp [Nat.min_eq_left h]
  · rw [List.getElem?_eq_none (by simp; omega), List.getElem?_eq_none (by omega)]
theorem al_succ (l : List Tn) (k : Nat) (x : Tn) (h : l[k]? = some x) : al l (k + 1) = (al l k).set k (norm x) := by
  obtain ⟨hk, hx⟩ := List.getElem?_eq_some_iff.1 h
  unfold al
  have hl : ((l.take k).map norm).length = k := by simp; omega
  rw [List.take_succ_eq_append_getElem hk, List.map_append, List.set_append_right _ _ (by omega), hl, Nat.sub_self, List.drop_eq_getElem_cons hk, List.set_cons_zero, hx]
  simp
/-- Two cells of an element written. -/
theorem flat_set2 (l : List Tn) (k : Nat) (x : Tn) (p h : Int) (hx : l[k]? = some x) :
    ((l.flatMap ta).set (k * 3 + 1) (.int .i64 p)).set (k * 3 + 2) (.int .i64 h) = (l.set k (x.1, p, h)).flatMap ta := by
  obtain ⟨hk, hx⟩ := List.getElem?_eq_some_iff.1 hx
  have hl : ((l.take k).flatMap ta).length = k * 3 := by rw [flat_len (s := 3) (fun _ => rfl)]; simp; omega
  have e : l = l.take k ++ x :: l.drop (k + 1) := by
    rw [← hx, List.getElem_cons_drop, List.take_append_drop]
  have e2 : l.set k (x.1, p, h) = l.take k ++ (x.1, p, h) :: l.drop (k + 1) := by
    conv => lhs; rw [e]
    have : (l.take k).length = k := by simp; omega
    rw [List.set_append_right _ _ (by omega), this, Nat.sub_self, List.set_cons_zero]
  rw [e2]
  conv => lhs; rw [e]
  rw [List.flatMap_append, List.flatMap_append, List.flatMap_cons, List.flatMap_cons, List.set_append_right _ _ (by omega), hl, List.set_append_right _ _ (by omega), hl]
  rw [show k * 3 + 1 - k * 3 = 1 by omega, show k * 3 + 2 - k * 3 = 2 by omega]
  rfl
/-- An element of three cells of a slice of the call's own. -/
theorem own_at3 {P : Program} {t e : TypeId} {i : TypeInfo} (ht : P.underlying t = some (.slice e)) (hi : P.info? e = some i) (hs : i.size = 3)
    {w : World} {B : Nat} {a : Option Addr} {n c : Nat} {l : List Tn} (h : w.ownsRow B e 3 (.slice a n c) n (l.flatMap ta)) (hl : l.length = n) {k : Nat} (hk : k < n) :
    ∃ g x, (∀ w', (Instr.indexAt t (.slice a n c) (.int .i64 k)).run P w' = .ok (.pointer (some ⟨g, k * 3, none⟩)) w') ∧ B ≤ g ∧ g < w.heap.size ∧ l[k]? = some x ∧
      w.cell? ⟨g, k * 3, none⟩ = some (.float .f64 x.1) ∧ w.cell? ⟨g, k * 3 + 1, none⟩ = some (.int .i64 x.2.1) ∧ w.cell? ⟨g, k * 3 + 2, none⟩ = some (.int .i64 x.2.2) ∧
      (∀ j, w.frozen? ⟨g, j, none⟩ = false) ∧ (Value.slice a n c).ownBlock = some g ∧
      (∀ p q, ((w.setCell ⟨g, k * 3 + 1, none⟩ (.int .i64 p)).setCell ⟨g, k * 3 + 2, none⟩ (.int .i64 q)).ownsRow B e 3 (.slice a n c) n ((l.set k (x.1, p, q)).flatMap ta) ∧ w.grownBy ((w.setCell ⟨g, k * 3 + 1, none⟩ (.int .i64 p)).setCell ⟨g, k * 3 + 2, none⟩ (.int .i64 q)) (some g)) ∧
      (∀ p q, ((w.setCell ⟨g, k * 3 + 2, none⟩ (.int .i64 q)).setCell ⟨g, k * 3 + 1, none⟩ (.int .i64 p)).ownsRow B e 3 (.slice a n c) n ((l.set k (x.1, p, q)).flatMap ta) ∧ w.grownBy ((w.setCell ⟨g, k * 3 + 2, none⟩ (.int .i64 q)).setCell ⟨g, k * 3 + 1, none⟩ (.int .i64 p)) (some g)) := by
  rcases h.2 with ⟨_, h0⟩ | ⟨g, cap, cur, hv, hb, hg, hn, hm, hsz, htk⟩
  · omega
  · cases hv
    have hlk : l[k]? = some l[k] := List.getElem?_eq_getElem (by omega)
    have hlt := (Array.getElem?_eq_some_iff.1 hg).1
    have hc : ∀ j u, j < 3 → (ta l[k])[j]? = some u → w.cell? ⟨g, k * 3 + j, none⟩ = some u := by
      intro j u hj hu
      rw [h.cellAt _ (by omega), flat_get (s := 3) (fun _ => rfl) l k j hj, hlk]; exact hu
    refine ⟨g, l[k], fun w' => ?_, hb, hlt, hlk, hc 0 _ (by decide) rfl, hc 1 _ (by decide) rfl, hc 2 _ (by decide) rfl, h.frozenAt, rfl, fun p q => ?_, fun p q => ?_⟩
    · have he : P.elem t = e := by simp [Program.elem, ht]
      rw [run_indexAt_slice w' t _ n c .i64 k (by rw [he]; exact ht), if_pos ⟨by omega, by omega⟩, he]
      simp [sizeOf, typeInfo, hi, hs, Result.andThen, Addr.add]
      omega
    · have h1 := h.stored (k * 3 + 1) (.int .i64 p)
      have h2 := h1.1.stored (k * 3 + 2) (.int .i64 q)
      rw [← flat_set2 l k _ p q hlk]
      exact ⟨h2.1, grown_trans h1.2 h2.2⟩
    · have h1 := h.stored (k * 3 + 2) (.int .i64 q)
      have h2 := h1.1.stored (k * 3 + 1) (.int .i64 p)
      rw [← flat_set2 l k _ p q hlk, List.set_comm _ _ (by omega)]
      exact ⟨h2.1, grown_trans h1.2 h2.2⟩

set_option maxHeartbeats 400000 in
theorem pick_any (i : Int) (n : Nat) (w : World) (hn : 0 < n) (h2 : n ≤ 1000) :
    Calls Try.prog 40 #[.int .i64 i, .int .i64 n] w fun e w' => e = .returned (.int .i64 (i % n)) ∧ w = w' := by
  have h0 : ¬ (n : Int) = 0 := by omega
  have ht : Int.tmod i n = _ := Int.tmod_eq_emod
  have h3 := Int.emod_nonneg i h0
  have h4 := Int.emod_lt_of_pos i (show (0 : Int) < n by omega)
  obtain ⟨m, hm⟩ : ∃ m, i % (n : Int) = m := ⟨_, rfl⟩
  have hc : (Int.tmod i n = m ∧ ¬ m < 0) ∨ (Int.tmod i n = m - n ∧ m - n < 0) := by
    rw [hm] at h3 h4 ht
    split at ht
    · exact .inl ⟨by omega, by omega⟩
    · rw [Int.natAbs_natCast] at ht; exact .inr ⟨by omega, by omega⟩
  rw [hm] at h3 h4 ⊢
  clear hm ht
  rcases hc with ⟨ht, hl⟩ | ⟨ht, hl⟩
  all_goals (go_enter Try.func40, Try.ntmps40)
  all_goals go_wp2
  all_goals go_ret
  all_goals exact ⟨by simp, rfl⟩

theorem pick_int (i k : Int) (w : World) (hn : 0 < k) (h2 : k ≤ 1000) :
    Calls Try.prog 40 #[.int .i64 i, .int .i64 k] w fun e w' => e = .returned (.int .i64 (i % k)) ∧ w = w' := by
  obtain ⟨n, rfl⟩ := Int.eq_ofNat_of_zero_le (show 0 ≤ k by omega)
  exact pick_any i n w (by omega) (by omega)
set_option maxRecDepth 100000 in
set_option maxHeartbeats 400000 in
theorem gridtones_any (v : Value) (l : List Tn) (w : World) (hv : IsSl w 3 v l.length (l.flatMap ta)) (hl : l.length * 24 ≤ 140737488355328) :
    Calls Try.prog 39 #[v] w (RetRow 71 3 l.length (fun xs => xs = l.flatMap ta) w) := by
  obtain ⟨a, c, rfl⟩ := hv.form
  obtain ⟨i0, hi, hz0, hz1, hz2⟩ := info_parts infoTa
  go_enter Try.func39, Try.ntmps39
  go_wp2_with (refine wpList_appendAll rfl _ _ _ rfl w.heap.size 71 3 24 i0 (.agg #[.float .f64 0, .int .i64 0, .int .i64 0]) Try.underlying60 hi hz0 hz1 hz2 rfl (by decide) _ 0 [] (World.ownsRow_nil _ _ _ _) (Nat.le_refl _) _ _ _ hv rfl rfl (by intro u hu; obtain ⟨z, _, hz⟩ := List.mem_flatMap.1 hu; exact ta_one z u hz) (by simp [maxLen]; omega) (by omega) ?_; intro v1 w1 hown1 hgr1 hat1)
  go_ret
  refine ⟨_, _, rfl, ?_, rfl, (Below.refl _ _).grown hgr1 (Nat.le_refl _) (by intro k e; cases e)⟩
  simpa using hown1

def aw1 : List Tn := [(two64, 0, 1)]
def aw2 : List Tn := [(0, 0, 2), (0, 0, 3)]
theorem aw_0 : smp aw1 0 = 4611686018427387904 := by decide +kernel
theorem aw_4 : smp aw1 4 = 4607182418800017408 := by decide +kernel
theorem aw_12 : smp aw1 12 = 13835058055282163712 := by decide +kernel
theorem aw_per {p : Int} (h : IsPer aw2 p) : p = 24 :=
  h.eq ⟨by decide, by decide, fun r h1 h2 => by
    have hr : r = 1 ∨ r = 2 ∨ r = 3 ∨ r = 4 ∨ r = 5 ∨ r = 6 ∨ r = 7 ∨ r = 8 ∨ r = 9 ∨ r = 10 ∨ r = 11 ∨ r = 12 ∨ r = 13 ∨ r = 14 ∨ r = 15 ∨ r = 16 ∨ r = 17 ∨ r = 18 ∨ r = 19 ∨ r = 20 ∨ r = 21 ∨ r = 22 ∨ r = 23 := by omega
    rcases hr with rfl | rfl | rfl | rfl | rfl | rfl | rfl | rfl | rfl | rfl | rfl | rfl | rfl | rfl | rfl | rfl | rfl | rfl | rfl | rfl | rfl | rfl | rfl <;> decide, by decide⟩
/-- A block that was just laid, read as a slice. -/
theorem sl_new {w : World} {n size : Nat} {cs : Array Value} {t : TypeId} {xs : List Value} (h : cs.toList = xs) (hn : xs.length = n * size) : IsSl (w.alloc (.cells cs t)) size (.slice (some ⟨w.heap.size, 0, none⟩) n n) n xs := by
  subst h
  refine ⟨hn, .inr ⟨w.heap.size, 0, n, rfl, Nat.le_refl _, by simp, fun j hj => ?_⟩⟩
  rw [Nat.zero_add, cell_of_row _ _ _ cs t (0, 0) (heap_alloc_new w _)]; simp
theorem sample_lit (v : Value) (l : List Tn) (n : Int) (z : Nat) (w : World) (hv : IsSl w 3 v l.length (l.flatMap ta)) (hl : l.length ≤ 140737488355328) (hz : smp l n = z) (hf : FV.fin z = true) :
    Calls Try.prog 30 #[v, .int .i64 n] w fun e w' => e = .returned (.float .f64 z) ∧ Below w.heap.size w w' :=
  (wsample_any v l n w hv hl).mono fun _ _ ⟨_, he, hb, r, hv, hr⟩ => ⟨by rw [he, hv, eq_of_fc (hr.trans hz) hf], hb⟩
set_option maxRecDepth 100000 in
set_option maxHeartbeats 1000000 in
theorem awake_any (w : World) : Calls Try.prog 37 #[] w fun e w' => e = .returned (.bool true) ∧ Below w.heap.size w w' := by
  obtain ⟨i0, hi, hz0, hz1, hz2⟩ := info_parts infoTa
  have h1 : FloatKind.f64.format.order 4611686018427387904 4611686018427387904 = some .eq := by decide +kernel
  have h2 : FloatKind.f64.format.order 4607182418800017408 4607182418800017408 = some .eq := by decide +kernel
  have h3 : FloatKind.f64.format.order 13835058055282163712 13835058055282163712 = some .eq := by decide +kernel
  have S1 := hid (sl_new (w := w) (size := 3) (n := 1) (cs := #[.float .f64 4611686018427387904, .int .i64 0, .int .i64 1]) (t := 71) (xs := aw1.flatMap ta) rfl rfl)
  have B1 := hid ((Below.refl _ w).alloc (Nat.le_refl _) (.cells #[.float .f64 4611686018427387904, .int .i64 0, .int .i64 1] 71))
  go_enter Try.func37, Try.ntmps37
  go_wp2_with fail
  refine (sample_lit _ aw1 0 _ _ S1.out (by decide) aw_0 (by decide)).mono ?_
  rintro e w1 ⟨rfl, hb1⟩
  have S2 := hid (S1.out.below hb1 (Nat.le_refl _))
  have B2 := hid (B1.out.trans (hb1.mono (by simp)))
  clear hb1
  go_wp2_with fail
  refine (sample_lit _ aw1 4 _ _ S2.out (by decide) aw_4 (by decide)).mono ?_
  rintro e w2 ⟨rfl, hb2⟩
  have S3 := hid (S2.out.below hb2 (Nat.le_refl _))
  have B3 := hid (below_step B2.out hb2)
  clear hb2
  go_wp2_with fail
  refine (sample_lit _ aw1 12 _ _ S3.out (by decide) aw_12 (by decide)).mono ?_
  rintro e w3 ⟨rfl, hb3⟩
  have B4 := hid (below_step B3.out hb3)
  clear hb3
  have hbs : (Instr.buildSlice 60 2 #[(0, .agg #[.float .f64 0, .int .i64 0, .int .i64 2]), (1, .agg #[.float .f64 0, .int .i64 0, .int .i64 3])]).run Try.prog w3 = .ok (.slice (some ⟨w3.heap.size, 0, none⟩) 2 2) (w3.alloc (.cells #[.float .f64 0, .int .i64 0, .int .i64 2, .float .f64 0, .int .i64 0, .int .i64 3] 71)) := by
    kernel_rfl
  have S5 := hid (sl_new (w := w3) (size := 3) (n := 2) (cs := #[.float .f64 0, .int .i64 0, .int .i64 2, .float .f64 0, .int .i64 0, .int .i64 3]) (t := 71) (xs := aw2.flatMap ta) rfl rfl)
  go_wp2_with fail
  refine (wperiod_any _ aw2 _ S5.out (by decide)).mono ?_
  rintro e w5 ⟨v5, rfl, hb5, p, rfl, hp⟩
  rw [aw_per hp]
  go_wp2_with fail
  go_ret
  exact ⟨by simp, (B4.out.alloc B4.out.size _).trans (hb5.mono (by have := B4.out.size; simp; omega))⟩
end Go.Proofs.Ytlgfpfjfoajjbaa
