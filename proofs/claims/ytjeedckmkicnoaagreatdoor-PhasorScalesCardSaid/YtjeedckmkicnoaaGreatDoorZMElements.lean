/- a part of the proof of the last text -/
import Derived.Test.YtjeedckmkicnoaaGreatDoorZApart
import Derived.Test.YtjeedckmkicnoaaGreatDoorZNumbers2
import Derived.StillTailTactics
namespace Go.Proofs.YtjeedckmkicnoaaGreatDoor
set_option linter.all false
set_option maxHeartbeats 4000000
set_option maxRecDepth 100000
section
open Go.RowKit
theorem below_drew_left {w w' : World} (h : Below w.drew.heap.size w.drew w') : Below w.heap.size w w' := ⟨h.os, h.tape, h.output, h.size, h.block⟩
theorem own_cap {w : World} {B e size n c : Nat} {a : Option Addr} {xs : List Value} (h : w.ownsRow B e size (.slice a n c) n xs) : n ≤ c := by
  rcases h.2 with ⟨h0, h1⟩ | ⟨g, cap, cur, hv, _, _, hn, _⟩
  · omega
  · cases hv; exact hn
/-- No block is both of a and of b. -/
def Dis (a b : Value) : Prop := ∀ g, a.ownBlock = some g → b.ownBlock ≠ some g
theorem Dis.symm {a b : Value} (h : Dis a b) : Dis b a := fun g hb ha => h g ha hb
/-- A slice of the call's own: its value, its element's type and cells, its length, its cells. -/
structure ORow where
  v : Value
  e : Nat
  size : Nat
  n : Nat
  xs : List Value
def ORow.ok (B : Nat) (w : World) (o : ORow) : Prop := w.ownsRow B o.e o.size o.v o.n o.xs
/-- Slices of the call's own, by index, no two in one block. -/
structure Owns (B : Nat) (dom : Nat × Nat → Prop) (row : Nat × Nat → ORow) (w : World) : Prop where
  size : B ≤ w.heap.size
  ok : ∀ i, dom i → (row i).ok B w
  dis : ∀ i j, dom i → dom j → i ≠ j → Dis (row i).v (row j).v
section
variable {B : Nat} {dom dom' : Nat × Nat → Prop} {row row' : Nat × Nat → ORow} {w w1 : World}
theorem Owns.none (h : B ≤ w.heap.size) (row : Nat × Nat → ORow) : Owns B (fun _ => False) row w := ⟨h, fun _ h => h.elim, fun _ _ h => h.elim⟩
theorem Owns.lt (h : Owns B dom row w) {i : Nat × Nat} (hi : dom i) {g : Nat} (hg : (row i).v.ownBlock = some g) : B ≤ g ∧ g < w.heap.size := World.ownsRow.lt (h.ok i hi) g hg
theorem grown_of_below (hb : Below w.heap.size w w1) (r : Option Nat) : w.grownBy w1 r := ⟨hb.os, hb.tape, hb.output, hb.size, fun k hk _ => hb.block k hk⟩
theorem below_of_grown (hg : w.grownBy w1 Option.none) : Below w.heap.size w w1 := ⟨hg.os, hg.tape, hg.output, hg.size, fun k hk => hg.block k hk (by simp)⟩
theorem Owns.later (h : Owns B dom row w) (hb : Below w.heap.size w w1) : Owns B dom row w1 :=
  ⟨Nat.le_trans h.size hb.size, fun i hi => own_none (h.ok i hi) (grown_of_below hb _), h.dis⟩
theorem Owns.drewN (h : Owns B dom row w) (n : Nat) : Owns B dom row (w.drewN n) := ⟨h.size, h.ok, h.dis⟩
theorem Owns.drew (h : Owns B dom row w) : Owns B dom row w.drew := ⟨h.size, h.ok, h.dis⟩
/-- Fewer of them, or others that are the same. -/
theorem Owns.sub (h : Owns B dom row w) (hd : ∀ j, dom' j → dom j ∧ row' j = row j) : Owns B dom' row' w :=
  ⟨h.size, fun i hi => by rw [(hd i hi).2]; exact h.ok i (hd i hi).1, fun i j hi hj hij => by rw [(hd i hi).2, (hd j hj).2]; exact h.dis i j (hd i hi).1 (hd j hj).1 hij⟩
/-- One slice more, in new memory. -/
theorem Owns.new (h : Owns B dom row w) (hb : Below w.heap.size w w1) (i : Nat × Nat) (hr : (row' i).ok w.heap.size w1) (hd : ∀ j, dom' j → j = i ∨ (dom j ∧ row' j = row j)) : Owns B dom' row' w1 := by
  have hl := h.later hb
  have fresh : ∀ j, dom j → Dis (row' i).v (row j).v := fun j hj g hg e => by
    have h1 := (World.ownsRow.lt hr g hg).1
    have h2 := (h.lt hj e).2
    omega
  refine ⟨hl.size, fun j hj => ?_, fun j k hj hk hjk => ?_⟩
  · rcases hd j hj with rfl | ⟨h1, h2⟩
    · exact ⟨hr.1, hr.2.imp id fun ⟨g, cap, cur, hv, hg, r⟩ => ⟨g, cap, cur, hv, Nat.le_trans h.size hg, r⟩⟩
    · rw [h2]; exact hl.ok j h1
  · rcases hd j hj with rfl | ⟨h1, h2⟩
    · rcases hd k hk with rfl | ⟨h3, h4⟩
      · exact absurd rfl hjk
      · rw [h4]; exact fresh k h3
    · rcases hd k hk with rfl | ⟨h3, h4⟩
      · rw [h2]; exact (fresh j h1).symm
      · rw [h2, h4]; exact h.dis j k h1 h3 hjk
/-- An append onto one of them: in place, or into a new block. -/
theorem Owns.push (h : Owns B dom row w) (i : Nat × Nat) (hi : dom i) {g : Nat} (hg : (row' i).v.ownBlock = some g) (h2 : ((row i).v.ownBlock = some g ∧ w.grownBy w1 (some g)) ∨ (w.heap.size ≤ g ∧ w.grownBy w1 Option.none))
    (hr : (row' i).ok B w1) (hd : ∀ j, dom' j → j = i ∨ (dom j ∧ row' j = row j)) : Owns B dom' row' w1 := by
  have key : ∀ j, dom j → j ≠ i → (row j).ok B w1 ∧ (row j).v.ownBlock ≠ some g := fun j hj hji => by
    rcases h2 with ⟨hv, hgr⟩ | ⟨hge, hgr⟩
    · have hne : (row j).v.ownBlock ≠ some g := fun e => h.dis j i hj hi hji g e hv
      exact ⟨own_ne (h.ok j hj) hgr hne, hne⟩
    · exact ⟨own_none (h.ok j hj) hgr, fun e => by have := (h.lt hj e).2; omega⟩
  have hsz : w.heap.size ≤ w1.heap.size := by rcases h2 with ⟨_, hgr⟩ | ⟨_, hgr⟩ <;> exact hgr.size
  refine ⟨Nat.le_trans h.size hsz, fun j hj => ?_, fun j k hj hk hjk => ?_⟩
  · by_cases hji : j = i
    · subst hji; exact hr
    · rcases hd j hj with e | ⟨h1, e⟩
      · exact absurd e hji
      · rw [e]; exact (key j h1 hji).1
  · by_cases hji : j = i
    · subst hji
      rcases hd k hk with e | ⟨h1, e⟩
      · exact absurd e.symm hjk
      · rw [e]; intro g' hg' e'
        rw [hg] at hg'; cases hg'
        exact (key k h1 (Ne.symm hjk)).2 e'
    · rcases hd j hj with e | ⟨h1, e⟩
      · exact absurd e hji
      · rw [e]
        by_cases hki : k = i
        · subst hki; intro g' hg' e'
          rw [hg] at e'; cases e'
          exact (key j h1 hji).2 hg'
        · rcases hd k hk with e2 | ⟨h3, e2⟩
          · exact absurd e2 hki
          · rw [e2]; exact h.dis j k h1 h3 hjk
/-- Stores into one of them. -/
theorem Owns.write (h : Owns B dom row w) (i : Nat × Nat) (hi : dom i) (hgr : w.grownBy w1 (row i).v.ownBlock) (hv : (row' i).v = (row i).v)
    (hr : (row' i).ok B w1) (hd : ∀ j, dom' j → j = i ∨ (dom j ∧ row' j = row j)) : Owns B dom' row' w1 := by
  refine ⟨Nat.le_trans h.size hgr.size, fun j hj => ?_, fun j k hj hk hjk => ?_⟩
  · by_cases hji : j = i
    · subst hji; exact hr
    · rcases hd j hj with e | ⟨h1, e⟩
      · exact absurd e hji
      · rw [e]
        refine (h.ok j h1).kept hgr ?_
        cases hb : (row j).v.ownBlock with
        | none => exact .inl rfl
        | some g => exact .inr fun e' => h.dis j i h1 hi hji g hb e'.symm
  · have hvv : ∀ j, dom' j → (row' j).v = (row j).v ∧ dom j := fun j hj => by
      by_cases hji : j = i
      · subst hji; exact ⟨hv, hi⟩
      · rcases hd j hj with e | ⟨h1, e⟩
        · exact absurd e hji
        · rw [e]; exact ⟨rfl, h1⟩
    rw [(hvv j hj).1, (hvv k hk).1]
    exact h.dis j k (hvv j hj).2 (hvv k hk).2 hjk
theorem Owns.below_write (h : Owns B dom row w) {i : Nat × Nat} (hi : dom i) (hgr : w.grownBy w1 (row i).v.ownBlock) : Below B w w1 :=
  (Below.refl B w).grown hgr h.size fun _ e => (h.lt hi e).1
theorem Owns.below_push (h : Owns B dom row w) {i : Nat × Nat} (hi : dom i) {g : Nat} (h2 : ((row i).v.ownBlock = some g ∧ w.grownBy w1 (some g)) ∨ (w.heap.size ≤ g ∧ w.grownBy w1 Option.none)) : Below B w w1 := by
  rcases h2 with ⟨hv, hgr⟩ | ⟨_, hgr⟩
  · exact (Below.refl B w).grown hgr h.size fun _ e => by cases e; exact (h.lt hi hv).1
  · exact (below_of_grown hgr).mono h.size
theorem Owns.sl (h : Owns B dom row w) {i : Nat × Nat} (hi : dom i) : IsSl w (row i).size (row i).v (row i).n (row i).xs := IsSl.of_own (h.ok i hi)
end
/-- Two of a kind. -/
def pair {α : Type} (a b : α) (j : Nat) : α := if j = 0 then a else b
theorem fam2 {α : Type} {mk : α → Value} {E ST B : Nat} {va vb : Value} {la lb : List α} {na nb : Nat} {w0 w1 : World} (hb : Below B w0 w1) (hB : B ≤ w1.heap.size) (ha : w1.ownsRow B E 1 va na (la.map mk)) (hbr : w1.ownsRow B E 1 vb nb (lb.map mk)) (hd : Dis va vb) :
    Sep 2 (.slice (some ⟨w1.heap.size, 0, none⟩) 2 2) (pair va vb) ∧ Fam mk E B 2 (.slice (some ⟨w1.heap.size, 0, none⟩) 2 2) (pair va vb) (pair na nb) (pair la lb) w0 (w1.alloc (.cells #[va, vb] ST)) := by
  have two : ∀ j, j < 2 → j = 0 ∨ j = 1 := fun j hj => by omega
  refine ⟨⟨fun j k hj hk hjk => ?_, fun k hk g hg => ?_⟩, ⟨hb.alloc hB _, by simp; omega, ?_, fun j hj => ?_⟩⟩
  · rcases two j hj with rfl | rfl <;> rcases two k hk with rfl | rfl
    · exact absurd rfl hjk
    · exact hd
    · exact hd.symm
    · exact absurd rfl hjk
  · intro e
    have h1 := ownBlock_lit e
    rcases two k hk with rfl | rfl
    · have := (ha.lt g hg).2; omega
    · have := (hbr.lt g hg).2; omega
  · refine ⟨by simp, .inr ⟨w1.heap.size, 0, 2, rfl, Nat.le_refl _, by simp, fun j hj => ?_⟩⟩
    rw [Nat.zero_add, cell_of_row _ _ _ #[va, vb] ST (0, 0) (heap_alloc_new w1 _)]
    rcases two j (by omega) with rfl | rfl <;> rfl
  · rcases two j hj with rfl | rfl
    · exact ha.alloc _
    · exact hbr.alloc _
end
section
/- gridworkkit.Numbers: a list of numbers by their bits. -/
open Go.RowKit
/-- The cells of a number by its bits. -/
def zc (z : Cx) : List Value := [.int .u64 z.1, .int .u64 z.2]
theorem zc_get : ∀ (l : List Cx) (k : Nat), (l.flatMap zc)[k * 2]? = l[k]?.map (fun z => Value.int .u64 z.1) ∧ (l.flatMap zc)[k * 2 + 1]? = l[k]?.map (fun z => Value.int .u64 z.2)
  | [], k => by simp
  | z :: l, 0 => by simp [zc]
  | z :: l, k + 1 => by
    have := zc_get l k
    rw [show (k + 1) * 2 = k * 2 + 2 by omega, List.flatMap_cons]
    simpa [zc] using this
theorem zc_len (l : List Cx) : (l.flatMap zc).length = l.length * 2 := by
  induction l with
  | nil => rfl
  | cons z l ih => rw [List.flatMap_cons, List.length_append, ih, List.length_cons, Nat.add_mul]; simp [zc]; omega
/-- An element of some cells: where it lies, what it holds. -/
theorem IsSl.atN {P : Program} {t e size : Nat} {i : TypeInfo} (ht : P.underlying t = some (.slice e)) (hi : P.info? e = some i) (hs : i.size = size)
    {w : World} {a : Option Addr} {n c : Nat} {xs : List Value} (h : IsSl w size (.slice a n c) n xs) {k : Nat} (hk : k < n) :
    ∃ g o, (∀ w', (Instr.indexAt t (.slice a n c) (.int .i64 k)).run P w' = .ok (.pointer (some ⟨g, o, none⟩)) w') ∧ g < w.heap.size ∧ ∀ j, j < size → w.cell? ⟨g, o + j, none⟩ = xs[k * size + j]? := by
  rcases h.2 with ⟨_, h0⟩ | ⟨g, off, c', hv, hc, hg, hcell⟩
  · omega
  · cases hv
    refine ⟨g, off + k * size, fun w' => ?_, hg, fun j hj => ?_⟩
    · have he : P.elem t = e := by simp [Program.elem, ht]
      rw [run_indexAt_slice w' t _ n c .i64 k (by rw [he]; exact ht), if_pos ⟨by omega, by omega⟩, he]
      simp [sizeOf, typeInfo, hi, hs, Result.andThen, Addr.add]
    · rw [Nat.add_assoc]
      refine hcell _ ?_
      have := Nat.mul_le_mul_right size (show k + 1 ≤ n by omega)
      rw [Nat.add_mul] at this; omega
theorem InSl.atZ {P : Program} {t e : TypeId} {i : TypeInfo} (ht : P.underlying t = some (.slice e)) (hi : P.info? e = some i) (hs : i.size = 2)
    {w : World} {a : Option Addr} {n c : Nat} {l : List Cx} (h : InSl w 2 (.slice a n c) n (l.flatMap zc)) (hl : l.length = n) {k : Nat} (hk : k < n) :
    ∃ (g o x y : Nat), (∀ w', (Instr.indexAt t (.slice a n c) (.int .i64 k)).run P w' = .ok (.pointer (some ⟨g, o, none⟩)) w') ∧ g < w.heap.size ∧ w.cell? ⟨g, o, none⟩ = some (.int .u64 x) ∧ w.cell? ⟨g, o + 1, none⟩ = some (.int .u64 y) ∧ l[k]? = some (x, y) := by
  obtain ⟨g, o, h1, h2, h3⟩ := IsSl.atN (size := 2) ht hi hs (h.pos (by omega)) hk
  have hlk : l[k]? = some l[k] := List.getElem?_eq_getElem (by omega)
  refine ⟨g, o, l[k].1, l[k].2, h1, h2, ?_, ?_, hlk⟩
  · have := h3 0 (by decide)
    rw [Nat.add_zero, Nat.add_zero, (zc_get l k).1, hlk] at this; exact this
  · have := h3 1 (by decide)
    rw [(zc_get l k).2, hlk] at this; exact this
theorem number_c (x y : Nat) (w : World) :
    Calls Tryz.prog 45 #[.agg #[.int .u64 x, .int .u64 y]] w fun e w' => e = .returned (mkC (x, y)) ∧ Below w.heap.size w w' :=
  (number_any x y w).mono fun _ _ ⟨he, n, hw⟩ => ⟨he, by rw [hw]; exact below_n (Below.alloc (Below.refl _ _) (Nat.le_refl _) _) n⟩
set_option maxRecDepth 100000 in
set_option maxHeartbeats 400000 in
theorem numbers_any (v : Value) (l : List Cx) (w : World) (hv : InSl w 2 v l.length (l.flatMap zc)) (hl : l.length * 16 ≤ 140737488351232) :
    Calls Tryz.prog 17 #[v] w (RetRow 54 1 l.length (fun xs => xs = l.map mkC) w) := by
  obtain ⟨a, c, rfl⟩ := hv.form
  obtain ⟨i0, hi, hz0, hz1, hz2⟩ := info_parts infoC
  obtain ⟨iu, hiu, hu0, hu1, hu2⟩ := info_parts infoZ
  go_enter Tryz.func17, Tryz.ntmps17
  go_wp2
  go_loopw [3, 4] (fun out i wr => ∃ k : Nat, k ≤ l.length ∧ i = .int .i64 k ∧ wr.ownsRow w.heap.size 54 1 out k ((l.take k).map mkC) ∧ Below w.heap.size w wr) (fun _ i _ => l.length - (intOf i).toNat)
  case atStart => exact ⟨0, Nat.zero_le _, rfl, World.ownsRow_nil _ _ _ _, Below.refl _ _⟩
  case round =>
    obtain ⟨k, hk, rfl, hown, hb⟩ := hrel
    by_cases hlt : k < l.length
    · obtain ⟨g, o, x, y, hidx, hg, hcell, hcell2, hx⟩ := InSl.atZ Tryz.underlying44 hiu hu1 (hv.below hb (Nat.le_refl _)) rfl hlt
      have HX := hid hx
      have HB := hid hb
      have HO := hid hown
      clear hx hb hown
      go_wp2_with fail
      refine (number_c x y _).mono ?_
      rintro e w1 ⟨rfl, hb1⟩
      have HB1 := hid (below_step HB.out hb1)
      have hsz := HB1.out.size
      have hown : w1.ownsRow w.heap.size 54 1 u3 k ((l.take k).map mkC) := own_none HO.out (grown_of_below hb1 _)
      go_wp2_with (refine wpList_push rfl rfl _ rfl _ _ _ rfl rfl w.heap.size 54 1 16 i0 (.complex .f64 0 0) Tryz.underlying47 hi hz0 hz1 hz2 rfl (by decide) (by decide) _ k _ hown hsz _ rfl rfl (by intro u hu; exact mkC_mem hu) rfl rfl (by simp [maxLen]; omega) (by omega) ?_; intro g1 cap1 w2 hown1 hgr1 hat1 hlt1)
      go_roundw
      case rel =>
        refine ⟨k + 1, by omega, by go_num, ?_, below_grown HB1.out hgr1 fun _ e => (hown.lt _ e).1⟩
        rw [List.take_succ_eq_append_getElem hlt, List.map_append]
        have : l[k] = (x, y) := by have := HX.out; simpa [hlt] using this
        rw [this]; exact hown1
      case measure => simp [intOf]; omega
    · go_wp2
      go_ret
      obtain rfl : k = l.length := by omega
      exact ⟨_, _, rfl, hown, by simp, hb⟩
end
section
/- Walks of gridworkkit.Element, ElementsOf. -/
open Go.RowKit
theorem infoEz : (Tryz.prog.info? 91).map (fun i => (i.zero, i.size, i.bytes)) = some (some (.agg #[.int .u8 0, .string ⟨#[]⟩, .string ⟨#[]⟩, .string ⟨#[]⟩, .string ⟨#[]⟩, .string ⟨#[]⟩, .int .u64 0, .int .i64 0]), 8, 104) := by kernel_rfl
theorem infoEa : (Tryz.prog.info? 81).map (fun i => (i.zero, i.size, i.bytes)) = some (some (.agg #[.int .u8 0, .string ⟨#[]⟩, .string ⟨#[]⟩, .string ⟨#[]⟩, .string ⟨#[]⟩, .string ⟨#[]⟩, .float .f64 0, .int .i64 0]), 8, 104) := by kernel_rfl
def agE (e : El) : Value := .agg #[.int .u8 e.kind, .string e.name, .string e.a, .string e.b, .string e.c, .string e.d, .float .f64 e.val, .int .i64 e.ph]
theorem agE_cells (e : El) : (agE e).cells.toList = ea e := rfl
theorem two_blocks (w : World) (o1 o2 : Obj) : ((w.alloc o1).alloc o2).heap[w.heap.size]? = some o1 ∧ ((w.alloc o1).alloc o2).heap[w.heap.size + 1]? = some o2 ∧ Below w.heap.size w ((w.alloc o1).alloc o2) := by
  have h1 : (w.alloc o1).heap.size = w.heap.size + 1 := by simp
  have h2 := heap_alloc_new (w.alloc o1) o2
  rw [h1] at h2
  exact ⟨(heap_alloc_old (w.alloc o1) o2 (by simp)).trans (heap_alloc_new w o1), h2, ((Below.refl _ w).alloc (Nat.le_refl _) _).alloc (by simp) _⟩
set_option maxRecDepth 100000 in
set_option maxHeartbeats 2000000 in
theorem element_any (e : El) (w : World) :
    Calls Tryz.prog 44 #[.agg #[.int .u8 e.kind, .string e.name, .string e.a, .string e.b, .string e.c, .string e.d, .int .u64 e.val, .int .i64 e.ph]] w fun en w' => en = .returned (agE e) ∧ Below w.heap.size w w' := by
  have b2 := frombits_law
  go_enter Tryz.func44, Tryz.ntmps44
  go_upto_region 1 with fail
  obtain ⟨hA, hR, hB⟩ := two_blocks w (.cells #[.int .u8 e.kind, .string e.name, .string e.a, .string e.b, .string e.c, .string e.d, .int .u64 e.val, .int .i64 e.ph] 91) (.cells #[.int .u8 0, .string ⟨#[]⟩, .string ⟨#[]⟩, .string ⟨#[]⟩, .string ⟨#[]⟩, .string ⟨#[]⟩, .float .f64 0, .int .i64 0] 81)
  generalize hW : (w.alloc (.cells #[.int .u8 e.kind, .string e.name, .string e.a, .string e.b, .string e.c, .string e.d, .int .u64 e.val, .int .i64 e.ph] 91)).alloc (.cells #[.int .u8 0, .string ⟨#[]⟩, .string ⟨#[]⟩, .string ⟨#[]⟩, .string ⟨#[]⟩, .string ⟨#[]⟩, .float .f64 0, .int .i64 0] 81) = W at *
  obtain ⟨hc, _⟩ := block_cells hA
  have c0 := hc 0 _ rfl
  have c1 := hc 1 _ rfl
  have c2 := hc 2 _ rfl
  have c3 := hc 3 _ rfl
  have c4 := hc 4 _ rfl
  have c5 := hc 5 _ rfl
  have c6 := hc 6 _ rfl
  have c7 := hc 7 _ rfl
  have HB := hid hB
  have HR := hid hR
  have HW := hid hW
  clear hc hA hR hB hW
  go_still_tail 18, (by kernel_rfl)
  change wpList _ _ _ _ _ W.drew
  rw [← HW.out]
  go_wp2
  refine bodyPost_ret (v := .agg #[.int .u8 e.kind, .string e.name, .string e.a, .string e.b, .string e.c, .string e.d, .float .f64 e.val, .int .i64 e.ph]) ?_ rfl ⟨rfl, ?_⟩
  · first | (rw [results_cell rfl]; go_simp; done) | (unfold results; go_simp; done) | (go_simp; done) | skip
  exact (((Below.refl _ w).alloc (Nat.le_refl _) _).alloc (by simp) _).drew
theorem el_cells (e : El) : (agE e).cells.size = 8 := rfl
theorem ea_len (e : El) : (ea e).length = 8 := rfl
theorem ez_len (e : El) : (ez e).length = 8 := rfl
set_option maxRecDepth 100000 in
set_option maxHeartbeats 1000000 in
theorem elements_any (v : Value) (l : List El) (w : World) (hv : InSl w 8 v l.length (l.flatMap ez)) (hl : l.length * 104 ≤ 140737488351232) :
    Calls Tryz.prog 16 #[v] w (RetRow 81 8 l.length (fun xs => xs = l.flatMap ea) w) := by
  obtain ⟨a, c, rfl⟩ := hv.form
  obtain ⟨i0, hi, hz0, hz1, hz2⟩ := info_parts infoEa
  obtain ⟨iu, hiu, hu0, hu1, hu2⟩ := info_parts infoEz
  go_enter Tryz.func16, Tryz.ntmps16
  go_wp2
  go_loopw [3, 4] (fun out i wr => ∃ k : Nat, k ≤ l.length ∧ i = .int .i64 k ∧ wr.ownsRow w.heap.size 81 8 out k ((l.take k).flatMap ea) ∧ Below w.heap.size w wr) (fun _ i _ => l.length - (intOf i).toNat)
  case atStart => exact ⟨0, Nat.zero_le _, rfl, World.ownsRow_nil _ _ _ _, Below.refl _ _⟩
  case round =>
    obtain ⟨k, hk, rfl, hown, hb⟩ := hrel
    by_cases hlt : k < l.length
    · obtain ⟨g, o, x, hidx, hg, hx, hcell⟩ := InSl.atF Tryz.underlying22 hiu hu1 ez_len (hv.below hb (Nat.le_refl _)) rfl hlt
      have c0 := hcell 0 _ rfl
      have c1 := hcell 1 _ rfl
      have c2 := hcell 2 _ rfl
      have c3 := hcell 3 _ rfl
      have c4 := hcell 4 _ rfl
      have c5 := hcell 5 _ rfl
      have c6 := hcell 6 _ rfl
      have c7 := hcell 7 _ rfl
      rw [Nat.add_zero] at c0
      have HX := hid hx
      have HB := hid hb
      have HO := hid hown
      clear hx hb hown hcell
      go_wp2_with fail
      refine (element_any x _).mono ?_
      rintro en w1 ⟨rfl, hb1⟩
      have HB1 := hid (below_step HB.out hb1)
      have hsz := HB1.out.size
      have hown : w1.ownsRow w.heap.size 81 8 u3 k ((l.take k).flatMap ea) := own_none HO.out (grown_of_below hb1 _)
      go_wp2_with (refine wpList_push2 rfl rfl _ rfl _ _ _ rfl rfl w.heap.size 81 8 104 i0 (.agg #[.int .u8 0, .string ⟨#[]⟩, .string ⟨#[]⟩, .string ⟨#[]⟩, .string ⟨#[]⟩, .string ⟨#[]⟩, .float .f64 0, .int .i64 0]) Tryz.underlying37 hi hz0 hz1 hz2 rfl (by decide) (by decide) _ k _ hown hsz (.agg #[.int .u8 x.kind, .string x.name, .string x.a, .string x.b, .string x.c, .string x.d, .float .f64 x.val, .int .i64 x.ph]) rfl rfl (ea_one x) rfl rfl (by simp [maxLen]; omega) (by omega) ?_; intro g1 cap1 w2 hown1 hg1 htwo)
      go_roundw
      case rel =>
        refine ⟨k + 1, by omega, by go_num, ?_, ?_⟩
        · rw [flat_take l k x HX.out]; exact hown1
        · rcases htwo with ⟨h1, h2⟩ | ⟨_, h2⟩
          · exact below_grown HB1.out h2 fun _ e => by cases e; exact (hown.lt _ h1).1
          · exact below_grown HB1.out h2 fun _ e => by cases e
      case measure => simp [intOf]; omega
    · go_wp2
      go_ret
      obtain rfl : k = l.length := by omega
      exact ⟨_, _, rfl, hown, by simp, hb⟩
end
end Go.Proofs.YtjeedckmkicnoaaGreatDoor
