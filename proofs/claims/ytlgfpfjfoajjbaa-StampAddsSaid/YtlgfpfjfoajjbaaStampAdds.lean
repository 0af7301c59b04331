/- StampAdds walked: of every matrix, place and number the package and the reference give the same. -/
import Derived.Test.YtlgfpfjfoajjbaaMat3
import Derived.Test.YtlgfpfjfoajjbaaMatKit
import Derived.Test.YtlgfpfjfoajjbaaApartNumbers
namespace Go.Proofs.Ytlgfpfjfoajjbaa
open Go.RowKit

theorem heap_past {w : World} {g : Nat} {o o' : Obj} (h : w.heap[g]? = some o) : (w.alloc o').heap[g]? = some o := (heap_alloc_old w o' (Array.getElem?_eq_some_iff.1 h).1).trans h
theorem heap_later {w w' : World} {g : Nat} {o : Obj} (hb : Below w.heap.size w w') (h : w.heap[g]? = some o) : w'.heap[g]? = some o := (hb.block g (Array.getElem?_eq_some_iff.1 h).1).trans h
theorem pair_at {w1 : World} {g t : Nat} {x y : Value} (h : w1.heap[g]? = some (.cells #[x, y] t (0, 0))) : w1.cell? ⟨g, 0, none⟩ = some x ∧ w1.cell? ⟨g, 1, none⟩ = some y :=
  ⟨cell_of_row _ _ _ _ _ _ h, cell_of_row _ _ _ _ _ _ h⟩
/-- A list of numbers of the call's own. -/
def nrow (v : Value) (l : List Cx) : ORow := ⟨v, 45, 1, l.length, l.map mkC⟩
/-- So many of them, by number. -/
def nrows (o : Nat → ORow) (i : Nat × Nat) : ORow := o i.1
def ndom (n : Nat) (i : Nat × Nat) : Prop := i.1 < n ∧ i.2 = 0
theorem Owns.more {B n : Nat} {o : Nat → ORow} {w w1 : World} (h : Owns B (ndom n) (nrows o) w) (hb : Below w.heap.size w w1) {v : Value} {l : List Cx} (hr : w1.ownsRow w.heap.size 45 1 v l.length (l.map mkC)) :
    Owns B (ndom (n + 1)) (nrows (fun j => if j = n then nrow v l else o j)) w1 := by
  refine h.new hb (n, 0) ?_ (fun j hj => ?_)
  · simpa [nrows, ORow.ok, nrow] using hr
  · obtain ⟨p, q⟩ := j
    obtain ⟨h1, h2⟩ := hj
    simp only at h1 h2
    subst h2
    by_cases hp : p = n
    · subst hp; exact .inl rfl
    · exact .inr ⟨⟨by show p < n; omega, rfl⟩, by simp [nrows, hp]⟩
theorem Owns.over {B n : Nat} {o : Nat → ORow} {w w1 : World} (h : Owns B (ndom n) (nrows o) w) {k : Nat} (hk : k < n) {l' : List Cx} (hr : w1.ownsRow B 45 1 (o k).v l'.length (l'.map mkC)) (hg : w.grownBy w1 (o k).v.ownBlock) :
    Owns B (ndom n) (nrows (fun j => if j = k then nrow (o k).v l' else o j)) w1 := by
  refine h.write (k, 0) ⟨hk, rfl⟩ hg (by simp [nrows, nrow]) (by simpa [nrows, ORow.ok, nrow] using hr) (fun j hj => ?_)
  obtain ⟨p, q⟩ := j
  obtain ⟨h1, h2⟩ := hj
  simp only at h1 h2
  subst h2
  by_cases hp : p = k
  · subst hp; exact .inl rfl
  · exact .inr ⟨⟨h1, rfl⟩, by simp [nrows, hp]⟩
theorem Owns.alloc1 {B : Nat} {dom : Nat × Nat → Prop} {row : Nat × Nat → ORow} {w : World} (h : Owns B dom row w) (o : Obj) : Owns B dom row (w.alloc o) := h.later ((Below.refl _ w).alloc (Nat.le_refl _) o)

theorem madd_len (r c : Int) (l : List Cx) (i j : Int) (y : Cx) : (madd r c l i j y).1.2.2.length ≤ l.length := by
  unfold madd
  split
  · simp
  · split
    · simp
    · split <;> simp
theorem heap_grown {w w' : World} {g : Nat} {o : Obj} {row : Option Nat} (hg : w.grownBy w' row) (hne : row ≠ some g) (h : w.heap[g]? = some o) : w'.heap[g]? = some o := (hg.block g (Array.getElem?_eq_some_iff.1 h).1 (by first | exact hne | exact fun e => hne e | exact fun e => hne e.symm)).trans h

set_option maxRecDepth 100000 in
set_option maxHeartbeats 1000000 in
theorem adds_walk (r c : Int) (v : Value) (l : List Cx) (i j : Int) (zx zy : Nat) (w : World) (hv : InSl w 2 v l.length (l.flatMap zc)) (hl : l.length * 16 ≤ 140737488351232) :
    Calls Try.prog 4 #[.int .i64 r, .int .i64 c, v, .int .i64 i, .int .i64 j, .agg #[.int .u64 zx, .int .u64 zy]] w fun e w' => e = .returned (.bool true) ∧ Below w.heap.size w w' := by
  obtain ⟨a, k0, rfl⟩ := hv.form
  have hbw : Below w.heap.size w (w.alloc (.cells #[.int .u64 zx, .int .u64 zy] 38)) := (Below.refl _ w).alloc (Nat.le_refl _) _
  have HV := hid (hv.below hbw (Nat.le_refl _))
  have HO := hid (Owns.none (B := w.heap.size) hbw.size (nrows fun _ => nrow (.slice none 0 0) []))
  have HZ0 := hid (heap_alloc_new w (.cells #[.int .u64 zx, .int .u64 zy] 38))
  have HB0 := hid hbw
  clear hv hbw
  go_enter Try.func4, Try.ntmps4
  go_wp2_with fail
  refine (numbers_any _ l _ HV.out hl).mono ?_
  rintro e w1 ⟨v1, xs, rfl, hown1, rfl, hb1⟩
  have HO1 := hid (Owns.more (n := 0) (HO.out.sub (dom' := ndom 0) (row' := nrows fun _ => nrow (.slice none 0 0) []) (fun j hj => absurd hj.1 (by omega))) hb1 hown1)
  have HB1 := hid (below_step HB0.out hb1)
  have HZ1 := hid (heap_later hb1 HZ0.out)
  have hsl1 := IsSl.of_own hown1
  obtain ⟨a1, c1, h1⟩ := hsl1.form
  subst h1
  have HS1 := hid (hsl1.below ((Below.refl _ w1).alloc (Nat.le_refl _) (.cells #[.int .i64 r, .int .i64 c, .slice a1 l.length c1] 42)) (Nat.le_refl _))
  clear hown1 hb1 hsl1 HO HV HZ0 HB0
  go_wp2_with fail
  refine (lentmatrix_any r c _ l _ HS1.out hl).mono ?_
  rintro e w2 ⟨a2, c2, rfl, hown2, hb2⟩
  have hl6 : (l ++ marksNumbers 7 6).length = l.length + 6 := by rw [List.length_append, marksNumbers_len]
  have hown2' : w2.ownsRow (w1.alloc (.cells #[.int .i64 r, .int .i64 c, .slice a1 l.length c1] 42)).heap.size 45 1 (.slice a2 (l.length + 6) c2) (l ++ marksNumbers 7 6).length ((l ++ marksNumbers 7 6).map mkC) := by rw [hl6]; exact hown2
  have HO2 := hid (Owns.more (n := 1) (HO1.out.alloc1 _) hb2 hown2')
  have HB2 := hid ((HB1.out.alloc HB1.out.size _).trans (hb2.mono (by have := HB1.out.size; simp; omega)))
  have HZ2 := hid (heap_later hb2 (heap_past HZ1.out))
  have HM2 := hid (heap_later hb2 (heap_alloc_new w1 _))
  have hsl2 := (IsSl.of_own hown2).take (k := l.length) (by omega)
  rw [Nat.mul_one, List.map_append, List.take_left' (by simp)] at hsl2
  have HL6 := hid hl6
  have HS2 := hid hsl2
  have hz := pair_at (heap_past (o' := .cells #[.int .i64 r, .int .i64 c, .slice a2 l.length c2] 42) HZ2.out)
  obtain ⟨z0, z1⟩ := hz
  clear hown2 hown2' hb2 hl6 hsl2 HO1 HZ1 HS1
  go_wp2_with fail
  refine (number_c zx zy _).mono ?_
  rintro e w3 ⟨rfl, hb3⟩
  have HO3 := hid ((HO2.out.alloc1 _).later hb3)
  have HB3 := hid ((HB2.out.alloc HB2.out.size _).trans (hb3.mono (by have := HB2.out.size; simp; omega)))
  have HM3 := hid (heap_later hb3 (heap_past HM2.out))
  have hin := heap_later hb3 (heap_alloc_new w2 _)
  obtain ⟨m0, m1, m2, _, _, _⟩ := mat_at hin
  have HS3 := hid ((HS2.out.below ((Below.refl _ w2).alloc (Nat.le_refl _) _) (Nat.le_refl _)).below hb3 (Nat.le_refl _))
  clear hb3 hin z0 z1 HO2 HM2 HZ2 HS2
  go_wp2_with fail
  refine (sadd_any r c i j _ l (zx, zy) _ HS3.out hl).mono ?_
  rintro e w4 ⟨r4, q4, v4, k4, x4, rfl, hown4, hsp4, hb4⟩
  obtain ⟨a4, c4, h4⟩ := (IsSl.of_own hown4).form
  subst h4
  have HO4 := hid (Owns.more (n := 2) HO3.out hb4 hown4)
  have HB4 := hid (HB3.out.trans (hb4.mono HB3.out.size))
  have HM4 := hid (heap_later hb4 HM3.out)
  have HSP4 := hid hsp4
  have hq := mat_at HM4.out
  obtain ⟨c0, c1', c2', _, _, _⟩ := hq
  have hsl4 : IsSl w4 1 (.slice a1 l.length c1) l.length (l.map mkC) := HO4.out.sl (i := (0, 0)) ⟨by decide, rfl⟩
  have HS4 := hid (hsl4.below ((Below.refl _ w4).alloc (Nat.le_refl _) (.cells #[.int .i64 r4, .int .i64 q4, .slice a4 x4.length c4] 42)) (Nat.le_refl _))
  have hlt13 : w1.heap.size < w4.heap.size := (Array.getElem?_eq_some_iff.1 HM4.out).1
  clear hown4 hb4 hsp4 hsl4 HO3 HM3 HS3 m0 m1 m2
  go_wp2_with fail
  refine (radd18_any r c i j _ l (zx, zy) _ HS4.out hl).mono ?_
  rintro e w5 ⟨r5, q5, v5, k5, x5, rfl, hown5, hsp5, hb5⟩
  obtain ⟨a5, c5, h5⟩ := (IsSl.of_own hown5).form
  subst h5
  have hee := HSP4.out.trans hsp5.symm
  obtain ⟨hee1, hee2⟩ := Prod.mk.inj hee
  obtain ⟨hee3, hee4⟩ := Prod.mk.inj hee1
  obtain ⟨hee5, hee6⟩ := Prod.mk.inj hee4
  subst hee2 hee3 hee5
  have HE := hid hee6
  have hx4 : x4.length ≤ l.length := by
    have := madd_len r c (l.map ck) i j (ck (zx, zy))
    rw [← HSP4.out] at this; simpa using this
  have hx5 : x5.length = x4.length := by have := congrArg List.length hee6; simpa using this.symm
  have HX5 := hid hx5
  clear hx5
  have HO5 := hid (Owns.more (n := 3) (HO4.out.alloc1 _) hb5 hown5)
  have HB5 := hid ((HB4.out.alloc HB4.out.size _).trans (hb5.mono (by have := HB4.out.size; simp; omega)))
  have HM5 := hid (heap_later hb5 (heap_past HM4.out))
  have HA5 := hid (heap_later hb5 (heap_alloc_new w4 _))
  have hf4 := fun e => (HO4.out.lt (i := (1, 0)) ⟨by decide, rfl⟩ (g := w4.heap.size) e).2
  have hf5 := fun e => (HO5.out.lt (i := (1, 0)) ⟨by decide, rfl⟩ (g := w5.heap.size) e).2
  have HF4 := hid (show (Value.slice a2 (l.length + 6) c2).ownBlock ≠ some w4.heap.size from fun e => Nat.lt_irrefl _ (hf4 e))
  have HF5 := hid (show (Value.slice a2 (l.length + 6) c2).ownBlock ≠ some w5.heap.size from fun e => Nat.lt_irrefl _ (hf5 e))
  obtain ⟨p0, p1, p2, _, _, _⟩ := mat_at HM5.out
  have HO5' := hid (HO5.out.alloc1 (.cells #[.int .i64 r4, .int .i64 q4, .slice a5 x5.length c5] 42))
  have hlt15 : w1.heap.size < w5.heap.size := (Array.getElem?_eq_some_iff.1 HM5.out).1
  clear hlt13 hown5 hb5 hsp5 hee hee1 hee4 hee6 hf4 hf5 c0 c1' c2' HS4 HO4 HM4 HB4 HB3 HB2 HB1
  go_wp2_with fail
  refine (keptnumbers_any (.slice a2 (l.length + 6) c2) (.slice a1 l.length c1) (l ++ marksNumbers 7 6) l _ (by exact HO5'.out.sl (i := (1, 0)) ⟨by decide, rfl⟩) (by exact HO5'.out.sl (i := (0, 0)) ⟨by decide, rfl⟩) (by rw [HL6.out]; omega) (by omega) rfl).mono ?_
  rintro e w6 ⟨v6, rfl, hb6, rfl⟩
  have HO6 := hid (HO5'.out.later hb6)
  have HB6 := hid ((HB5.out.alloc HB5.out.size _).trans (hb6.mono (by have := HB5.out.size; simp; omega)))
  have HA6 := hid (heap_later hb6 (heap_past HA5.out))
  have HW6 := hid (heap_later hb6 (heap_alloc_new w5 _))
  clear hb6 p0 p1 p2 hlt15 HM5 HA5 HO5 HO5' HB5
  go_wp2_with fail
  refine (overnumbers_any w.heap.size (.slice a2 (l.length + 6) c2) (l ++ marksNumbers 7 6).length (l ++ marksNumbers 7 6) _ (by exact HO6.out.ok (1, 0) ⟨by decide, rfl⟩) (by rw [HL6.out]; omega)).mono ?_
  rintro e w7 ⟨rfl, hov, hgr⟩
  have hov' : w7.ownsRow w.heap.size 45 1 (.slice a2 (l.length + 6) c2) (marksNumbers 9 (l ++ marksNumbers 7 6).length).length ((marksNumbers 9 (l ++ marksNumbers 7 6).length).map mkC) := by rw [marksNumbers_len]; exact hov
  have HO7 := hid (HO6.out.over (k := 1) (by decide) (by exact hov') (by exact hgr))
  have HB7 := hid (HB6.out.trans (HO6.out.below_write (i := (1, 0)) ⟨by decide, rfl⟩ (by exact hgr)))
  have HA7 := hid (heap_grown hgr HF4.out HA6.out)
  have HW7 := hid (heap_grown hgr HF5.out HW6.out)
  obtain ⟨p0, p1, p2, _, _, _⟩ := mat_at HA7.out
  obtain ⟨q0, q1, q2, _, _, _⟩ := mat_at HW7.out
  clear hov hov' hgr HO6 HB6 HA6 HW6 HF4 HF5
  go_wp2_with fail
  refine (samematrix_true r4 q4 (.slice a4 x4.length c4) (.slice a5 x5.length c5) x4 x5 _ (by exact HO7.out.sl (i := (2, 0)) ⟨by decide, rfl⟩) (by exact HO7.out.sl (i := (3, 0)) ⟨by decide, rfl⟩) (by omega) (by rw [HX5.out]; omega) HE.out).mono ?_
  rintro e w8 ⟨v8, rfl, hb8, rfl⟩
  have HO8 := hid (HO7.out.later hb8)
  have HB8 := hid (HB7.out.trans (hb8.mono HB7.out.size))
  have HA8 := hid (heap_later hb8 HA7.out)
  obtain ⟨p0', p1', p2', _, _, _⟩ := mat_at HA8.out
  clear hb8 p0 p1 p2 q0 q1 q2 HO7 HB7 HA7 HW7
  go_wp2_with fail
  have hfam := fam2 (mk := mkC) (ST := 39) (w1 := w8) HB8.out HO8.out.size (la := marksNumbers 9 (l ++ marksNumbers 7 6).length) (lb := x4) (va := .slice a2 (l.length + 6) c2) (vb := .slice a4 x4.length c4)
    (by exact HO8.out.ok (1, 0) ⟨by decide, rfl⟩) (by exact HO8.out.ok (2, 0) ⟨by decide, rfl⟩) (by exact HO8.out.dis (1, 0) (2, 0) ⟨by decide, rfl⟩ ⟨by decide, rfl⟩ (by decide))
  refine (apartnumbers_any w.heap.size 2 _ _ _ _ _ w (by omega) (fun j hj => ?_) hfam.1 hfam.2).mono ?_
  · obtain rfl | rfl : j = 0 ∨ j = 1 := by omega
    · show ((marksNumbers 9 (l ++ marksNumbers 7 6).length).length + 6) * 16 ≤ _
      rw [marksNumbers_len, HL6.out]; omega
    · show (x4.length + 6) * 16 ≤ _; omega
  · rintro e w' ⟨rfl, hbf⟩
    go_wp2_with fail
    go_ret
    exact ⟨ret_bool (by simp), hbf⟩
end Go.Proofs.Ytlgfpfjfoajjbaa
