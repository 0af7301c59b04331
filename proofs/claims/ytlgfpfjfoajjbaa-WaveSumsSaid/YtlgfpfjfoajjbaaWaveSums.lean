/- WaveSums: of every rows of reals (by their bits) Sum of the package wave gives what the reference gives; what was handed in stays; each answer is new memory. No condition. -/
import Derived.Test.YtlgfpfjfoajjbaaWaveSum
import Derived.Test.YtlgfpfjfoajjbaaOwns
namespace Go.Proofs.Ytlgfpfjfoajjbaa
open Go.RowKit

/-- The first n elements of a slice. -/
def cutTo (v : Value) (n : Nat) : Value := match v with | .slice a _ c => .slice a n c | v => v
/-- The slices that the law holds: the list of beginnings (0), of the rows of its own (1), of the rows that are lent (2); these rows (3, 4). -/
def srow (t3 t4 t5 : Value) (k3 k4 k5 : Nat) (U F : Nat → Value) (L : Nat → List Nat) (p : Nat × Nat) : ORow :=
  match p.1 with
  | 0 => ⟨t3, 24, 1, k3, (List.range k3).map fun j => cutTo (F j) (L j).length⟩
  | 1 => ⟨t4, 24, 1, k4, (List.range k4).map U⟩
  | 2 => ⟨t5, 24, 1, k5, (List.range k5).map F⟩
  | 3 => ⟨U p.2, 63, 1, (L p.2).length, (L p.2).map (Value.float .f64)⟩
  | _ => ⟨F p.2, 63, 1, (L p.2).length + 6, (L p.2 ++ marksReals 7 6).map (Value.float .f64)⟩
def sdom (ku kf : Nat) (p : Nat × Nat) : Prop := (p.1 < 3 ∧ p.2 = 0) ∨ (p.1 = 3 ∧ p.2 < ku) ∨ (p.1 = 4 ∧ p.2 < kf)
/-- A function changed at one place. -/
def upd {α : Type} (U : Nat → α) (k : Nat) (v : α) (j : Nat) : α := if j = k then v else U j
theorem upd_same {α : Type} (U : Nat → α) (k : Nat) (v : α) : upd U k v k = v := by simp [upd]
theorem upd_ne {α : Type} (U : Nat → α) {k j : Nat} (v : α) (h : ¬ j = k) : upd U k v j = U j := by simp [upd, h]
theorem map_upd {α β : Type} (f : Nat → α → β) (U : Nat → α) {n k : Nat} (v : α) (h : n ≤ k) : ((List.range n).map fun j => f j (upd U k v j)) = (List.range n).map fun j => f j (U j) := by
  refine List.map_congr_left fun j hj => ?_
  have := List.mem_range.1 hj
  rw [upd_ne _ _ (by omega)]
theorem map_upd' {α : Type} (U : Nat → α) {n k : Nat} (v : α) (h : n ≤ k) : (List.range n).map (upd U k v) = (List.range n).map U := map_upd (fun _ x => x) U v h
/-- A list of slices of 64-bit words. -/
structure URows (w : World) (v0 : Value) (m : Nat) (V : Nat → Value) (L : Nat → List Nat) : Prop where
  list : InSl w 1 v0 m ((List.range m).map V)
  rows : ∀ j, j < m → InSl w 1 (V j) (L j).length ((L j).map fun b : Nat => Value.int .u64 b)
theorem URows.below {w w' : World} {v0 : Value} {m : Nat} {V : Nat → Value} {L : Nat → List Nat} (h : URows w v0 m V L) (hb : Below w.heap.size w w') : URows w' v0 m V L :=
  ⟨h.list.below hb (Nat.le_refl _), fun j hj => (h.rows j hj).below hb (Nat.le_refl _)⟩
theorem infoUs : (Try.prog.info? 26).map (fun i => (i.zero, i.size, i.bytes)) = some (some (.slice none 0 0), 1, 24) := by kernel_rfl


section
variable {B k : Nat} {t3 t4 t5 : Value} {U F : Nat → Value} {L : Nat → List Nat} {w w1 : World}
theorem s_new_u {v1 : Value} (h : Owns B (sdom k k) (srow t3 t4 t5 k k k U F L) w) (hb : Below w.heap.size w w1) (hr : w1.ownsRow w.heap.size 63 1 v1 (L k).length ((L k).map (Value.float .f64))) :
    Owns B (sdom (k + 1) k) (srow t3 t4 t5 k k k (upd U k v1) F L) w1 := by
  refine h.new hb (3, k) (by show w1.ownsRow _ _ _ (upd U k v1 k) _ _; rw [upd_same]; exact hr) ?_
  rintro ⟨p, q⟩ hd
  rcases hd with ⟨h1, h2⟩ | ⟨h1, h2⟩ | ⟨h1, h2⟩
  · refine .inr ⟨.inl ⟨h1, h2⟩, ?_⟩
    obtain rfl | rfl | rfl : p = 0 ∨ p = 1 ∨ p = 2 := by simp only at h1; omega
    · rfl
    · simp only [srow, map_upd' U v1 (Nat.le_refl k)]
    · rfl
  · simp only at h1 h2; subst h1
    by_cases hq : q = k
    · exact .inl (by rw [hq])
    · exact .inr ⟨.inr (.inl ⟨rfl, by simp only; omega⟩), by simp only [srow, upd_ne U v1 hq]⟩
  · simp only at h1 h2; subst h1
    exact .inr ⟨.inr (.inr ⟨rfl, h2⟩), rfl⟩
theorem s_new_f {v1 : Value} (h : Owns B (sdom (k + 1) k) (srow t3 t4 t5 k k k U F L) w) (hb : Below w.heap.size w w1) (hr : w1.ownsRow w.heap.size 63 1 v1 ((L k).length + 6) ((L k ++ marksReals 7 6).map (Value.float .f64))) :
    Owns B (sdom (k + 1) (k + 1)) (srow t3 t4 t5 k k k U (upd F k v1) L) w1 := by
  refine h.new hb (4, k) (by show w1.ownsRow _ _ _ (upd F k v1 k) _ _; rw [upd_same]; exact hr) ?_
  rintro ⟨p, q⟩ hd
  rcases hd with ⟨h1, h2⟩ | ⟨h1, h2⟩ | ⟨h1, h2⟩
  · refine .inr ⟨.inl ⟨h1, h2⟩, ?_⟩
    obtain rfl | rfl | rfl : p = 0 ∨ p = 1 ∨ p = 2 := by simp only at h1; omega
    · simp only [srow]; rw [map_upd (fun j x => cutTo x (L j).length) F v1 (Nat.le_refl k)]
    · rfl
    · simp only [srow, map_upd' F v1 (Nat.le_refl k)]
  · simp only at h1 h2; subst h1
    exact .inr ⟨.inr (.inl ⟨rfl, h2⟩), rfl⟩
  · simp only at h1 h2; subst h1
    by_cases hq : q = k
    · exact .inl (by rw [hq])
    · exact .inr ⟨.inr (.inr ⟨rfl, by simp only; omega⟩), by simp only [srow, upd_ne F v1 hq]⟩
variable {g cap k3 k4 k5 : Nat}
theorem s_push {i : Nat} (hi : i < 3) {t3' t4' t5' : Value} {k3' k4' k5' : Nat} {n : Nat → Nat} (h : Owns B (sdom k k) (srow t3 t4 t5 k3 k4 k5 U F L) w)
    (he : ∀ p, p ≠ (i, 0) → srow t3' t4' t5' k3' k4' k5' U F L p = srow t3 t4 t5 k3 k4 k5 U F L p ∨ 3 ≤ p.1 ∨ p.2 ≠ 0)
    (hg : (srow t3' t4' t5' k3' k4' k5' U F L (i, 0)).v.ownBlock = some g)
    (h2 : ((srow t3 t4 t5 k3 k4 k5 U F L (i, 0)).v.ownBlock = some g ∧ w.grownBy w1 (some g)) ∨ (w.heap.size ≤ g ∧ w.grownBy w1 none))
    (hr : (srow t3' t4' t5' k3' k4' k5' U F L (i, 0)).ok B w1) : Owns B (sdom k k) (srow t3' t4' t5' k3' k4' k5' U F L) w1 := by
  refine h.push (i, 0) (.inl ⟨hi, rfl⟩) hg h2 hr fun p hp => ?_
  by_cases hpi : p = (i, 0)
  · exact .inl hpi
  · refine .inr ⟨hp, ?_⟩
    rcases he p hpi with e | e | e
    · exact e
    · rcases hp with ⟨h1, _⟩ | ⟨h1, _⟩ | ⟨h1, _⟩
      · omega
      · unfold srow; rw [h1]; rfl
      · unfold srow; rw [h1]; rfl
    · rcases hp with ⟨_, h1⟩ | ⟨h1, _⟩ | ⟨h1, _⟩
      · exact absurd h1 e
      · unfold srow; rw [h1]; rfl
      · unfold srow; rw [h1]; rfl
theorem s_push4 {cap : Nat} {y : Value} (h : Owns B (sdom (k + 1) (k + 1)) (srow t3 t4 t5 k3 k k5 U F L) w) (hy : y = U k)
    (hr : w1.ownsRow B 24 1 (.slice (some ⟨g, 0, none⟩) (k + 1) cap) (k + 1) ((List.range k).map U ++ [y]))
    (h2 : (t4.ownBlock = some g ∧ w.grownBy w1 (some g)) ∨ (w.heap.size ≤ g ∧ w.grownBy w1 none)) :
    Owns B (sdom (k + 1) (k + 1)) (srow t3 (.slice (some ⟨g, 0, none⟩) (k + 1) cap) t5 k3 (k + 1) k5 U F L) w1 := by
  refine s_push (i := 1) (n := id) (by decide) h (fun p hp => ?_) (g := g) rfl h2 (by show w1.ownsRow _ _ _ _ _ ((List.range (k + 1)).map U); rw [range_succ_map, ← hy]; exact hr)
  obtain ⟨a, b⟩ := p
  match a, b with
  | 0, _ => exact .inl rfl
  | 1, 0 => exact absurd rfl hp
  | 1, b + 1 => exact .inr (.inr (by simp))
  | 2, _ => exact .inl rfl
  | a + 3, _ => exact .inr (.inl (by simp))
theorem s_push5 {cap : Nat} {y : Value} (h : Owns B (sdom (k + 1) (k + 1)) (srow t3 t4 t5 k3 k4 k U F L) w) (hy : y = F k)
    (hr : w1.ownsRow B 24 1 (.slice (some ⟨g, 0, none⟩) (k + 1) cap) (k + 1) ((List.range k).map F ++ [y]))
    (h2 : (t5.ownBlock = some g ∧ w.grownBy w1 (some g)) ∨ (w.heap.size ≤ g ∧ w.grownBy w1 none)) :
    Owns B (sdom (k + 1) (k + 1)) (srow t3 t4 (.slice (some ⟨g, 0, none⟩) (k + 1) cap) k3 k4 (k + 1) U F L) w1 := by
  refine s_push (i := 2) (n := id) (by decide) h (fun p hp => ?_) (g := g) rfl h2 (by show w1.ownsRow _ _ _ _ _ ((List.range (k + 1)).map F); rw [range_succ_map, ← hy]; exact hr)
  obtain ⟨a, b⟩ := p
  match a, b with
  | 0, _ => exact .inl rfl
  | 1, _ => exact .inl rfl
  | 2, 0 => exact absurd rfl hp
  | 2, b + 1 => exact .inr (.inr (by simp))
  | a + 3, _ => exact .inr (.inl (by simp))
theorem s_push3 {cap : Nat} {y : Value} (h : Owns B (sdom (k + 1) (k + 1)) (srow t3 t4 t5 k k4 k5 U F L) w) (hy : y = cutTo (F k) (L k).length)
    (hr : w1.ownsRow B 24 1 (.slice (some ⟨g, 0, none⟩) (k + 1) cap) (k + 1) ((List.range k).map (fun j => cutTo (F j) (L j).length) ++ [y]))
    (h2 : (t3.ownBlock = some g ∧ w.grownBy w1 (some g)) ∨ (w.heap.size ≤ g ∧ w.grownBy w1 none)) :
    Owns B (sdom (k + 1) (k + 1)) (srow (.slice (some ⟨g, 0, none⟩) (k + 1) cap) t4 t5 (k + 1) k4 k5 U F L) w1 := by
  refine s_push (i := 0) (n := id) (by decide) h (fun p hp => ?_) (g := g) rfl h2 (by show w1.ownsRow _ _ _ _ _ ((List.range (k + 1)).map (fun j => cutTo (F j) (L j).length)); rw [range_succ_map, ← hy]; exact hr)
  obtain ⟨a, b⟩ := p
  match a, b with
  | 0, 0 => exact absurd rfl hp
  | 0, b + 1 => exact .inr (.inr (by simp))
  | 1, _ => exact .inl rfl
  | 2, _ => exact .inl rfl
  | a + 3, _ => exact .inr (.inl (by simp))
end

theorem own_cap {w : World} {B e size n c : Nat} {a : Option Addr} {xs : List Value} (h : w.ownsRow B e size (.slice a n c) n xs) : n ≤ c := by
  rcases h.2 with ⟨h0, h1⟩ | ⟨g, cap, cur, hv, _, _, hn, _⟩
  · omega
  · cases hv; exact hn
theorem rr_in {B m : Nat} {t3 t4 t5 : Value} {U F : Nat → Value} {L : Nat → List Nat} {w : World} (h : Owns B (sdom m m) (srow t3 t4 t5 m m m U F L) w) : RRows w t3 m (fun j => cutTo (F j) (L j).length) L := by
  refine ⟨IsSl.of_own (h.ok (0, 0) (.inl ⟨by decide, rfl⟩)), fun j hj => ?_⟩
  have ho : w.ownsRow B 63 1 (F j) ((L j).length + 6) ((L j ++ marksReals 7 6).map (Value.float .f64)) := h.ok (4, j) (.inr (.inr ⟨rfl, hj⟩))
  obtain ⟨a, c, e⟩ := (IsSl.of_own ho).form
  have hs := IsSl.of_own ho
  rw [e] at hs
  simp only [e, cutTo]
  have := hs.take (k := (L j).length) (by omega)
  rwa [Nat.mul_one, List.map_append, List.take_left' (by simp)] at this
theorem rr_own {B m : Nat} {t3 t4 t5 : Value} {U F : Nat → Value} {L : Nat → List Nat} {w : World} (h : Owns B (sdom m m) (srow t3 t4 t5 m m m U F L) w) : RRows w t4 m U L :=
  ⟨IsSl.of_own (h.ok (1, 0) (.inl ⟨by decide, rfl⟩)), fun j hj => IsSl.of_own (h.ok (3, j) (.inr (.inl ⟨rfl, hj⟩)))⟩

/-- The slices of the law's second half: of the rows that are lent the first i are written over; the three answers (5, 6, 7). -/
def srow2 (t3 t4 t5 : Value) (m : Nat) (U F : Nat → Value) (L : Nat → List Nat) (i : Nat) (va vb vc : Value) (xa xb xc : List Nat) (p : Nat × Nat) : ORow :=
  match p.1 with
  | 0 => ⟨t3, 24, 1, m, (List.range m).map fun j => cutTo (F j) (L j).length⟩
  | 1 => ⟨t4, 24, 1, m, (List.range m).map U⟩
  | 2 => ⟨t5, 24, 1, m, (List.range m).map F⟩
  | 3 => ⟨U p.2, 63, 1, (L p.2).length, (L p.2).map (Value.float .f64)⟩
  | 4 => ⟨F p.2, 63, 1, (L p.2).length + 6, (if p.2 < i then marksReals 9 ((L p.2).length + 6) else L p.2 ++ marksReals 7 6).map (Value.float .f64)⟩
  | 5 => ⟨va, 63, 1, xa.length, xa.map (Value.float .f64)⟩
  | 6 => ⟨vb, 63, 1, xb.length, xb.map (Value.float .f64)⟩
  | _ => ⟨vc, 63, 1, xc.length, xc.map (Value.float .f64)⟩
def sdom2 (m : Nat) (p : Nat × Nat) : Prop := sdom m m p ∨ (5 ≤ p.1 ∧ p.1 < 8 ∧ p.2 = 0)
section
variable {B m : Nat} {t3 t4 t5 va vb vc : Value} {U F : Nat → Value} {L : Nat → List Nat} {xa xb xc : List Nat} {w w1 w2 w3 : World}
theorem srow2_old {i : Nat} {p : Nat × Nat} (h : sdom m m p) (hi : ∀ j, p = (4, j) → ¬ j < i) : srow2 t3 t4 t5 m U F L i va vb vc xa xb xc p = srow t3 t4 t5 m m m U F L p := by
  obtain ⟨a, b⟩ := p
  rcases h with ⟨h1, h2⟩ | ⟨h1, h2⟩ | ⟨h1, h2⟩
  · obtain rfl | rfl | rfl : a = 0 ∨ a = 1 ∨ a = 2 := by simp only at h1; omega
    all_goals rfl
  · simp only at h1; subst h1; rfl
  · simp only at h1; subst h1
    simp only [srow2, srow, if_neg (hi b rfl)]
theorem s_three (h : Owns B (sdom m m) (srow t3 t4 t5 m m m U F L) w) (ha : Below w.heap.size w w1) (hoa : w1.ownsRow w.heap.size 63 1 va xa.length (xa.map (Value.float .f64)))
    (hb : Below w1.heap.size w1 w2) (hob : w2.ownsRow w1.heap.size 63 1 vb xb.length (xb.map (Value.float .f64)))
    (hc : Below w2.heap.size w2 w3) (hoc : w3.ownsRow w2.heap.size 63 1 vc xc.length (xc.map (Value.float .f64))) :
    Owns B (sdom2 m) (srow2 t3 t4 t5 m U F L 0 va vb vc xa xb xc) w3 := by
  have h0 : Owns B (sdom m m) (srow2 t3 t4 t5 m U F L 0 va vb vc xa xb xc) w := h.sub fun p hp => ⟨hp, srow2_old hp (fun j _ => Nat.not_lt_zero j)⟩
  have h1 : Owns B (fun p => sdom m m p ∨ p = (5, 0)) (srow2 t3 t4 t5 m U F L 0 va vb vc xa xb xc) w1 := h0.new ha (5, 0) hoa fun p hp => hp.elim (fun x => .inr ⟨x, rfl⟩) .inl
  have h2 : Owns B (fun p => sdom m m p ∨ p = (5, 0) ∨ p = (6, 0)) (srow2 t3 t4 t5 m U F L 0 va vb vc xa xb xc) w2 := h1.new hb (6, 0) hob fun p hp => hp.elim (fun x => .inr ⟨.inl x, rfl⟩) (fun x => x.elim (fun y => .inr ⟨.inr y, rfl⟩) .inl)
  have h3 : Owns B (fun p => sdom m m p ∨ p = (5, 0) ∨ p = (6, 0) ∨ p = (7, 0)) (srow2 t3 t4 t5 m U F L 0 va vb vc xa xb xc) w3 := h2.new hc (7, 0) hoc fun p hp => hp.elim (fun x => .inr ⟨.inl x, rfl⟩) (fun x => x.elim (fun y => .inr ⟨.inr (.inl y), rfl⟩) (fun y => y.elim (fun z => .inr ⟨.inr (.inr z), rfl⟩) .inl))
  refine h3.sub fun p hp => ⟨hp.imp id ?_, rfl⟩
  obtain ⟨a, b⟩ := p
  rintro ⟨e1, e2, e3⟩
  simp only at e1 e2 e3
  subst e3
  obtain rfl | rfl | rfl : a = 5 ∨ a = 6 ∨ a = 7 := by omega
  · exact .inl rfl
  · exact .inr (.inl rfl)
  · exact .inr (.inr rfl)
theorem s_over {i : Nat} (hi : i < m) (h : Owns B (sdom2 m) (srow2 t3 t4 t5 m U F L i va vb vc xa xb xc) w) (hg : w.grownBy w1 (F i).ownBlock)
    (hr : w1.ownsRow B 63 1 (F i) ((L i).length + 6) ((marksReals 9 ((L i).length + 6)).map (Value.float .f64))) : Owns B (sdom2 m) (srow2 t3 t4 t5 m U F L (i + 1) va vb vc xa xb xc) w1 := by
  refine h.write (4, i) (.inl (.inr (.inr ⟨rfl, hi⟩))) hg rfl ?_ fun p hp => ?_
  · show w1.ownsRow _ _ _ _ _ (List.map _ (if i < i + 1 then _ else _))
    rw [if_pos (by omega)]; exact hr
  · obtain ⟨a, b⟩ := p
    by_cases hp4 : (a, b) = ((4, i) : Nat × Nat)
    · exact .inl hp4
    · refine .inr ⟨hp, ?_⟩
      match a with
      | 0 => rfl
      | 1 => rfl
      | 2 => rfl
      | 3 => rfl
      | 4 =>
        have : ¬ b = i := fun e => hp4 (by rw [e])
        by_cases hb : b < i
        · simp only [srow2, if_pos hb, if_pos (show b < i + 1 by omega)]
        · simp only [srow2, if_neg hb, if_neg (show ¬ b < i + 1 by omega)]
      | 5 => rfl
      | 6 => rfl
      | a + 7 => rfl
end
theorem below_drew_left {w w' : World} (h : Below w.drew.heap.size w.drew w') : Below w.heap.size w w' := ⟨h.os, h.tape, h.output, h.size, h.block⟩
theorem sumSpec_len (ls : List (List Nat)) : (sumSpec ls).1.length ≤ 65536 := by
  unfold sumSpec
  split
  · simp
  · split
    · split
      · simp
      · simp only [List.length_map, List.length_range]; omega
    · simp
/-- Two lists that are the same. -/
theorem samereals_true (v u : Value) (l m : List Nat) (w : World) (hv : IsSl w 1 v l.length (l.map (Value.float .f64))) (hu : IsSl w 1 u m.length (m.map (Value.float .f64)))
    (hl : l.length ≤ 140737488355328) (hm : m.length ≤ 140737488355328) (he : l.map fc = m.map fc) :
    Calls Try.prog 13 #[v, u] w fun e w' => e = .returned (.bool true) ∧ Below w.heap.size w w' :=
  (samereals_any v u l m w hv hu hl hm).mono fun _ _ ⟨v, n, h1, h2, h3⟩ => ⟨by rw [h1, h3, he]; simp, by rw [h2]; exact below_n (Below.refl _ _) n⟩
theorem keptreals_true (v u : Value) (n : Nat) (l m : List Nat) (w : World) (hn : l.length = n) (hv : IsSl w 1 v n (l.map (Value.float .f64))) (hu : IsSl w 1 u m.length (m.map (Value.float .f64)))
    (hl : l.length ≤ 140737488355328) (hm : m.length * 8 ≤ 140737488351232) (he : l.map fc = (m ++ marksReals 7 6).map fc) :
    Calls Try.prog 12 #[v, u] w fun e w' => e = .returned (.bool true) ∧ Below w.heap.size w w' :=
  (keptreals_any v u l m w (by rw [hn]; exact hv) hu hl hm he).mono fun _ _ ⟨v, h1, h2, h3⟩ => ⟨by rw [h1, h3], h2⟩

set_option maxRecDepth 100000 in
set_option maxHeartbeats 1000000 in
theorem sums_walk (v0 : Value) (m : Nat) (V : Nat → Value) (L : Nat → List Nat) (w : World) (hR : URows w v0 m V L) (hm : m * 24 ≤ 140737488351232) (hn : ∀ j, j < m → (L j).length * 8 ≤ 140737488351232) :
    Calls Try.prog 3 #[v0] w fun e w' => e = .returned (.bool true) ∧ Below w.heap.size w w' := by
  obtain ⟨a0, c0, rfl⟩ := hR.list.form
  obtain ⟨i0, hi, hz0, hz1, hz2⟩ := info_parts infoF
  obtain ⟨iS, hiS, hS0, hS1, hS2⟩ := info_parts infoFs
  obtain ⟨iU, hiU, hU0, hU1, hU2⟩ := info_parts infoUs
  have HR := hid hR
  have HN := hid hn
  clear hR hn
  go_enter Try.func3, Try.ntmps3
  go_wp2_with fail
  go_loopw [3, 4, 5, 6] (fun t3 t4 t5 i wr => ∃ (k : Nat) (U F : Nat → Value), k ≤ m ∧ i = .int .i64 k ∧ Owns w.heap.size (sdom k k) (srow t3 t4 t5 k k k U F L) wr ∧ Below w.heap.size w wr) (fun _ _ _ i _ => m - (intOf i).toNat)
  case atStart =>
    refine ⟨0, V, V, by omega, rfl, ⟨Nat.le_refl _, fun i hi => ?_, fun i j hi hj hij g hg => ?_⟩, Below.refl _ _⟩
    · obtain ⟨p, q⟩ := i
      rcases hi with ⟨h1, h2⟩ | ⟨_, h2⟩ | ⟨_, h2⟩
      · obtain rfl | rfl | rfl : p = 0 ∨ p = 1 ∨ p = 2 := by simp only at h1; omega
        all_goals exact World.ownsRow_nil _ _ _ _
      · omega
      · omega
    · exfalso
      obtain ⟨p, q⟩ := i
      rcases hi with ⟨h1, h2⟩ | ⟨_, h2⟩ | ⟨_, h2⟩
      · obtain rfl | rfl | rfl : p = 0 ∨ p = 1 ∨ p = 2 := by simp only at h1; omega
        all_goals cases hg
      · omega
      · omega
  case round =>
    obtain ⟨k, U, F, hk, rfl, hown, hb⟩ := hrel
    have HO := hid hown
    have HB := hid hb
    clear hown hb
    by_cases hlt : k < m
    · obtain ⟨ak, ck, hVk⟩ := (HR.out.rows k hlt).form
      have hR1 := HR.out.below HB.out
      obtain ⟨g0, o0, hidx0, hg0, hcell0, hob0⟩ := hR1.list.atV Try.underlying22 hiU hU1 hlt hVk
      have hrow := hR1.rows k hlt
      rw [hVk] at hrow
      have hLk := HN.out k hlt
      clear hob0 hVk hR1
      go_wp2_with fail
      refine (floats_any _ (L k) _ hrow hLk).mono ?_
      rintro e w1 ⟨v1, xs1, rfl, hown1, rfl, hb1⟩
      clear hrow hidx0 hg0 hcell0
      have HO1 := hid (s_new_u HO.out hb1 hown1)
      have HB1 := hid (below_step HB.out hb1)
      have hsl1 := IsSl.of_own hown1
      obtain ⟨a1, c1, h1⟩ := hsl1.form
      clear hown1 hb1
      subst h1
      go_wp2_with fail
      refine (lentreals_any _ (L k) _ hsl1 (by omega)).mono ?_
      rintro e w2 ⟨v2, xs2, rfl, hown2, rfl, hb2⟩
      have HO2 := hid (s_new_f HO1.out hb2 hown2)
      have HB2 := hid (below_step HB1.out hb2)
      obtain ⟨g2, cap2, h2, _⟩ := hown2.form (by omega)
      subst h2
      have hc2 : ((L k).length : Int) ≤ (cap2 : Int) := by have := own_cap hown2; omega
      clear hown2 hb2 hsl1
      go_upto_region 7 with (fail)
      have hown4 : w2.ownsRow w.heap.size 24 1 u4 k ((List.range k).map (upd U k (.slice a1 (L k).length c1))) := HO2.out.ok (1, 0) (.inl ⟨by decide, rfl⟩)
      have hsz4 := HB2.out.size
      go_upto_region 8 with (refine wpList_push2 rfl rfl _ rfl _ _ _ rfl rfl w.heap.size 24 1 24 iS (.slice none 0 0) Try.underlying23 hiS hS0 hS1 hS2 rfl (by decide) (by decide) _ k _ hown4 hsz4 _ rfl rfl (by simp [go_sem, Value.oneCell']) rfl rfl (by simp [maxLen]; omega) (by omega) ?_; intro g4 cap4 x4 hown4' hlt4 h24)
      have HO3 := hid (s_push4 HO2.out (upd_same U k _).symm hown4' h24)
      have HB3 := hid (HB2.out.trans (HO2.out.below_push (i := (1, 0)) (.inl ⟨by decide, rfl⟩) h24))
      have hown5 : x4.ownsRow w.heap.size 24 1 u5 k ((List.range k).map (upd F k (.slice (some ⟨g2, 0, none⟩) ((L k).length + 6) cap2))) := HO3.out.ok (2, 0) (.inl ⟨by decide, rfl⟩)
      have hsz5 := HB3.out.size
      clear hown4 hown4' h24
      go_upto_region 9 with (refine wpList_push2 rfl rfl _ rfl _ _ _ rfl rfl w.heap.size 24 1 24 iS (.slice none 0 0) Try.underlying23 hiS hS0 hS1 hS2 rfl (by decide) (by decide) _ k _ hown5 hsz5 _ rfl rfl (by simp [go_sem, Value.oneCell']) rfl rfl (by simp [maxLen]; omega) (by omega) ?_; intro g5 cap5 x5 hown5' hlt5 h25)
      have HO4 := hid (s_push5 HO3.out (upd_same F k _).symm hown5' h25)
      have HB4 := hid (HB3.out.trans (HO3.out.below_push (i := (2, 0)) (.inl ⟨by decide, rfl⟩) h25))
      have hown3 : x5.ownsRow w.heap.size 24 1 u3 k ((List.range k).map fun j => cutTo (upd F k (.slice (some ⟨g2, 0, none⟩) ((L k).length + 6) cap2) j) (L j).length) := HO4.out.ok (0, 0) (.inl ⟨by decide, rfl⟩)
      have hsz3 := HB4.out.size
      clear hown5 hown5' h25
      go_wp2_with (refine wpList_push2 rfl rfl _ rfl _ _ _ rfl rfl w.heap.size 24 1 24 iS (.slice none 0 0) Try.underlying23 hiS hS0 hS1 hS2 rfl (by decide) (by decide) _ k _ hown3 hsz3 _ rfl rfl (by simp [go_sem, Value.oneCell']) rfl rfl (by simp [maxLen]; omega) (by omega) ?_; intro g3 cap3 x3 hown3' hlt3 h23)
      go_roundw
      case rel =>
        have HO5 := s_push3 HO4.out (by rw [upd_same]; rfl) hown3' h23
        exact ⟨k + 1, _, _, by omega, by go_num, HO5, HB4.out.trans (HO4.out.below_push (i := (0, 0)) (.inl ⟨by decide, rfl⟩) h23)⟩
      case measure => simp [intOf]; omega
    · obtain rfl : k = m := by omega
      have hn1 : ∀ j, j < k → (L j).length ≤ 140737488355328 := fun j hj => by have := HN.out j hj; omega
      have HN1 := hid hn1
      clear hn1
      go_wp2_with fail
      refine (wsum_any u3 k _ L _ (rr_in HO.out) (by omega) HN1.out).mono ?_
      rintro e w1 ⟨va, ka, xa, rfl, hoa, hsa, hba⟩
      have HOA := hid hoa
      have HSA := hid hsa
      have HBA := hid hba
      have HO1 := hid (HO.out.later hba)
      have HB1 := hid (below_step HB.out hba)
      clear hoa hsa hba
      go_wp2_with fail
      refine (wsum_any u3 k _ L _ (rr_in HO1.out) (by omega) HN1.out).mono ?_
      rintro e w2 ⟨vb, kb, xb, rfl, hob, hsb, hbb⟩
      have HOB := hid hob
      have HSB := hid hsb
      have HBB := hid hbb
      have HO2 := hid (HO1.out.later hbb)
      have HB2 := hid (below_step HB1.out hbb)
      clear hob hsb hbb
      go_wp2_with fail
      refine (rsum_any u4 k _ L _ (rr_own HO2.out) (by omega) HN1.out).mono ?_
      rintro e w3 ⟨vc, kc, xc, rfl, hoc, hsc, hbc⟩
      have HSC := hid hsc
      have HO3 := hid (s_three HO.out HBA.out HOA.out HBB.out HOB.out hbc hoc)
      have HB3 := hid (below_step HB2.out hbc)
      obtain ⟨a3, c3, h3⟩ := (IsSl.of_own (HO3.out.ok (0, 0) (.inl (.inl ⟨by decide, rfl⟩)))).form
      obtain ⟨a4, c4, h4⟩ := (IsSl.of_own (HO3.out.ok (1, 0) (.inl (.inl ⟨by decide, rfl⟩)))).form
      obtain ⟨a5, c5, h5⟩ := (IsSl.of_own (HO3.out.ok (2, 0) (.inl (.inl ⟨by decide, rfl⟩)))).form
      simp only [srow2] at h3 h4 h5
      clear hoc hsc hbc HO HO1 HO2 HB HB1 HB2 HOA HOB HBA HBB
      subst h3 h4 h5
      go_wp2_with fail
      go_loopw [15] (fun i wr => ∃ q : Nat, q ≤ k ∧ i = .int .i64 q ∧ Owns w.heap.size (sdom2 k) (srow2 (.slice a3 k c3) (.slice a4 k c4) (.slice a5 k c5) k U F L q va vb vc xa xb xc) wr ∧ Below w.heap.size w wr) (fun i _ => k - (intOf i).toNat)
      case atStart => exact ⟨0, by omega, rfl, HO3.out, HB3.out⟩
      case round =>
        obtain ⟨q, hq, rfl, hown, hb⟩ := hrel
        have HO := hid hown
        have HB := hid hb
        clear hown hb HO3 HB3
        by_cases hql : q < k
        · have hF : wr.ownsRow w.heap.size 63 1 (F q) ((L q).length + 6) ((L q ++ marksReals 7 6).map (Value.float .f64)) := by
            have := HO.out.ok (4, q) (.inl (.inr (.inr ⟨rfl, hql⟩)))
            simp only [srow2, if_neg (Nat.lt_irrefl q)] at this
            exact this
          have hU : wr.ownsRow w.heap.size 63 1 (U q) (L q).length ((L q).map (Value.float .f64)) := HO.out.ok (3, q) (.inl (.inr (.inl ⟨rfl, hql⟩)))
          have hsF := IsSl.of_own hF
          have hsU := IsSl.of_own hU
          obtain ⟨aF, cF, hFv⟩ := hsF.form
          obtain ⟨aU, cU, hUv⟩ := hsU.form
          have hLq := HN.out q hql
          have hl5 : IsSl wr 1 (.slice a5 k c5) k ((List.range k).map F) := HO.out.sl (i := (2, 0)) (.inl (.inl ⟨by decide, rfl⟩))
          have hl4 : IsSl wr 1 (.slice a4 k c4) k ((List.range k).map U) := HO.out.sl (i := (1, 0)) (.inl (.inl ⟨by decide, rfl⟩))
          have hl3 : IsSl wr 1 (.slice a3 k c3) k ((List.range k).map fun j => cutTo (F j) (L j).length) := HO.out.sl (i := (0, 0)) (.inl (.inl ⟨by decide, rfl⟩))
          obtain ⟨g5, o5, hidx5, hg5, hcell5, hob5⟩ := hl5.atV Try.underlying23 hiS hS1 hql hFv
          obtain ⟨g4, o4, hidx4, hg4, hcell4, hob4⟩ := hl4.atV Try.underlying23 hiS hS1 hql hUv
          obtain ⟨g3, o3, hidx3, hg3, hcell3, hob3⟩ := hl3.atV Try.underlying23 hiS hS1 hql (x := .slice aF (L q).length cF) (by rw [hFv]; rfl)
          rw [hFv] at hsF hF
          rw [hUv] at hsU
          have hsI := hsF.take (k := (L q).length) (by omega)
          rw [Nat.mul_one, List.map_append, List.take_left' (by simp)] at hsI
          have hl6 : (L q ++ marksReals 7 6).length = (L q).length + 6 := by rw [List.length_append, marksReals_len]
          have HFV := hid hFv
          have HSF := hid hsF
          have HSU := hid hsU
          have HSI := hid hsI
          have HF := hid hF
          have HL6 := hid hl6
          clear hFv hUv hsF hsU hsI hF hU hl5 hl4 hl3 hob5 hob4 hob3 hl6
          have hq0 : (0 : Int) ≤ (q : Int) := by omega
          have hqk : (q : Int) < (k : Int) := by omega
          go_wp2_with fail
          go_region_held3 (fun w' => Below wr.heap.size wr w' ∧ w'.cell? ⟨g5, o5, none⟩ = some (.slice aF ((L q).length + 6) cF) ∧ w'.cell? ⟨g4, o4, none⟩ = some (.slice aU (L q).length cU) ∧ w'.cell? ⟨g3, o3, none⟩ = some (.slice aF (L q).length cF))
            (((try dsimp only); (try go_split_ands); refine ⟨?_, ?_, ?_, ?_⟩ <;> (first | exact below_step (by assumption) hbk | exact cell_later hbk (by assumption) | exact (Below.refl _ _).drew | (go_keep; done))))
            (first | (go_at_call 12; refine (keptreals_true _ _ ((L q).length + 6) (L q ++ marksReals 7 6) (L q) _ HL6.out (by exact HSF.out) (by exact HSU.out) (by rw [HL6.out]; omega) (by omega) rfl).mono ?_; rintro e w' ⟨rfl, hbk⟩; have HBK := hid (below_drew_left hbk)) | (go_at_call 13; refine (samereals_true _ _ (L q) (L q) _ (by exact HSI.out.below HBK.out (Nat.le_refl _)) (by exact HSU.out.below HBK.out (Nat.le_refl _)) (by omega) (by omega) rfl).mono ?_; rintro e w' ⟨rfl, hbk⟩))
          rename_i hH
          have hH1 := hid hH.1
          have hF' : w'.ownsRow w.heap.size 63 1 (.slice aF ((L q).length + 6) cF) ((L q).length + 6) ((L q ++ marksReals 7 6).map (Value.float .f64)) := own_none HF.out (grown_of_below hH.1 _)
          go_wp2_with fail
          refine (overreals_any w.heap.size _ _ (L q ++ marksReals 7 6) _ hF' (by omega)).mono ?_
          rintro e w4 ⟨rfl, hov, hgr⟩
          have HOV := hid hov
          have HGR := hid hgr
          clear hF' hH hov hgr hcell5 hcell4 hcell3 hidx5 hidx4 hidx3
          go_wp2_with fail
          go_roundw
          case rel =>
            have hO := HO.out.later hH1.out
            have hgr : w'.grownBy w4 (F q).ownBlock := by rw [HFV.out]; exact HGR.out
            exact ⟨q + 1, by omega, by go_num, s_over hql hO hgr (by rw [HFV.out]; exact HOV.out), (below_step HB.out hH1.out).trans (hO.below_write (i := (4, q)) (.inl (.inr (.inr ⟨rfl, hql⟩))) hgr)⟩
          case measure => simp [intOf]; omega
        · have ea := HSA.out.trans HSC.out.symm
          have eb := HSB.out.trans HSC.out.symm
          obtain ⟨ea1, ea2⟩ := Prod.mk.inj ea
          obtain ⟨eb1, eb2⟩ := Prod.mk.inj eb
          subst ea2 eb2
          have EA := hid ea1
          have EB := hid eb1
          have hoa : wr.ownsRow w.heap.size 63 1 va xa.length (xa.map (Value.float .f64)) := HO.out.ok (5, 0) (.inr ⟨by decide, by decide, rfl⟩)
          have hob : wr.ownsRow w.heap.size 63 1 vb xb.length (xb.map (Value.float .f64)) := HO.out.ok (6, 0) (.inr ⟨by decide, by decide, rfl⟩)
          have hoc : wr.ownsRow w.heap.size 63 1 vc xc.length (xc.map (Value.float .f64)) := HO.out.ok (7, 0) (.inr ⟨by decide, by decide, rfl⟩)
          have hdis : Dis va vb := HO.out.dis (5, 0) (6, 0) (.inr ⟨by decide, by decide, rfl⟩) (.inr ⟨by decide, by decide, rfl⟩) (by decide)
          have hlc : xc.length ≤ 65536 := by have := sumSpec_len (lsOf k L); rw [← HSC.out] at this; simpa using this
          have hla : xa.length ≤ 65536 := by have := congrArg List.length ea1; simp at this; omega
          have hlb : xb.length ≤ 65536 := by have := congrArg List.length eb1; simp at this; omega
          clear ea eb ea1 eb1 HSA HSB HSC
          obtain ⟨aa, ca, ha⟩ := (IsSl.of_own hoa).form
          obtain ⟨ab, cb, hb2⟩ := (IsSl.of_own hob).form
          obtain ⟨ac, cc, hc2⟩ := (IsSl.of_own hoc).form
          subst ha hb2 hc2
          have HOA := hid hoa
          have HOB := hid hob
          have HOC := hid hoc
          have HD := hid hdis
          clear hoa hob hoc hdis
          go_wp2_with (first
            | (go_at_call 13; refine (samereals_any _ _ xa xc _ (by exact IsSl.of_own HOA.out) (by exact IsSl.of_own HOC.out) (by omega) (by omega)).mono ?_; rintro e w' ⟨v, n1, rfl, rfl, rfl⟩; rw [EA.out]; rw [beq_self_eq_true])
            | (go_at_call 13; refine (samereals_any _ _ xb xc _ (by exact IsSl.of_own HOB.out) (by exact IsSl.of_own HOC.out) (by omega) (by omega)).mono ?_; rintro e w' ⟨v, n2, rfl, rfl, rfl⟩; rw [EB.out]; rw [beq_self_eq_true]))
          have hfam := fam2 (mk := Value.float .f64) (ST := 24) (w1 := wr.drewN (n1 + n2)) (below_n HB.out _) HO.out.size (la := xa) (lb := xb) (by exact HOA.out) (by exact HOB.out) HD.out
          refine (apartreals_any w.heap.size 2 _ _ _ _ _ w (by omega) (fun j hj => ?_) hfam.1 hfam.2).mono ?_
          · obtain rfl | rfl : j = 0 ∨ j = 1 := by omega
            · show (xa.length + 6) * 8 ≤ _; omega
            · show (xb.length + 6) * 8 ≤ _; omega
          · rintro e w' ⟨rfl, hbf⟩
            go_wp2_with fail
            go_ret
            exact ⟨ret_bool (by simp), hbf⟩

end Go.Proofs.Ytlgfpfjfoajjbaa
