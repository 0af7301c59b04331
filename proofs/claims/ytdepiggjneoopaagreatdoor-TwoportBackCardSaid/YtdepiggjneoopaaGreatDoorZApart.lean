/- a part of the proof of the last text -/
import Derived.Test.YtdepiggjneoopaaGreatDoorZRow
namespace Go.Proofs.YtdepiggjneoopaaGreatDoor
set_option linter.all false
set_option maxHeartbeats 4000000
set_option maxRecDepth 100000
open Go.RowKit
/-- The marks of a list: of place i of list k: mark k i. -/
def marksOf {α : Type} (mark : Nat → Nat → α) (k n : Nat) : List α := (List.range n).map (mark k)
theorem marksOf_len {α : Type} (mark : Nat → Nat → α) (k n : Nat) : (marksOf mark k n).length = n := by simp [marksOf]
theorem marksOf_succ {α : Type} (mark : Nat → Nat → α) (k n : Nat) : marksOf mark k (n + 1) = marksOf mark k n ++ [mark k n] := range_succ_map _ _
theorem marksOf_get {α : Type} (mark : Nat → Nat → α) {k n i : Nat} (h : i < n) : (marksOf mark k n)[i]? = some (mark k i) := by simp [marksOf, h]
theorem marksOf_take {α : Type} (mark : Nat → Nat → α) {k n i : Nat} (h : i ≤ n) : (marksOf mark k n).take i = marksOf mark k i := by
  unfold marksOf
  rw [← List.map_take, List.take_range, Nat.min_eq_left h]
section
variable {α : Type} {mk : α → Value} {mark : Nat → Nat → α} {E ST B m : Nat} {v0 : Value} {V : Nat → Value} {N : Nat → Nat}
/-- No two of the slices share a block; none lies in the block of the list that leads to them. -/
structure Sep (m : Nat) (v0 : Value) (V : Nat → Value) : Prop where
  one : ∀ j k, j < m → k < m → j ≠ k → ∀ g, (V j).ownBlock = some g → (V k).ownBlock ≠ some g
  ls : ∀ k, k < m → ∀ g, (V k).ownBlock = some g → v0.ownBlock ≠ some g
/-- The slices of a list, each with its own cells. -/
structure Fam (mk : α → Value) (E B m : Nat) (v0 : Value) (V : Nat → Value) (N : Nat → Nat) (L : Nat → List α) (w wr : World) : Prop where
  below : Below B w wr
  size : B ≤ wr.heap.size
  list : IsSl wr 1 v0 m ((List.range m).map V)
  rows : ∀ j, j < m → wr.ownsRow B E 1 (V j) (N j) ((L j).map mk)
theorem Fam.len {L : Nat → List α} {w wr : World} (h : Fam mk E B m v0 V N L w wr) {k : Nat} (hk : k < m) : (L k).length = N k := by simpa using (h.rows k hk).1
theorem Fam.form {L : Nat → List α} {w wr : World} (h : Fam mk E B m v0 V N L w wr) {k : Nat} (hk : k < m) : ∃ a c, V k = .slice a (N k) c := (IsSl.of_own (h.rows k hk)).form
theorem Fam.store {L : Nat → List α} {w wr w1 : World} (h : Fam mk E B m v0 V N L w wr) (hs : Sep m v0 V) {k : Nat} (hk : k < m) {l : List α} {g : Nat} (hv : (V k).ownBlock = some g)
    (hg : wr.grownBy w1 (some g)) (h1 : w1.ownsRow B E 1 (V k) (N k) (l.map mk)) : Fam mk E B m v0 V N (fun j => if j = k then l else L j) w w1 := by
  refine ⟨h.below.grown hg h.size (fun j e => by cases e; exact ((h.rows k hk).lt _ hv).1), Nat.le_trans h.size hg.size, h.list.grown hg (fun g' e e' => by cases e'; exact hs.ls k hk _ hv e), fun j hj => ?_⟩
  by_cases hjk : j = k
  · subst hjk; simpa using h1
  · simp only [hjk, if_false]
    exact (h.rows j hj).kept hg (.inr fun e => hs.one j k hj hk hjk _ e hv)
theorem Fam.drewN {L : Nat → List α} {w wr : World} (h : Fam mk E B m v0 V N L w wr) (n : Nat) : Fam mk E B m v0 V N L w (wr.drewN n) := ⟨below_n h.below n, h.size, h.list, h.rows⟩
theorem Fam.drew {L : Nat → List α} {w wr : World} (h : Fam mk E B m v0 V N L w wr) : Fam mk E B m v0 V N L w wr.drew := ⟨h.below.drew, h.size, h.list, h.rows⟩
/-- Behind new memory alone. -/
theorem Fam.later {L : Nat → List α} {w wr w1 : World} (h : Fam mk E B m v0 V N L w wr) (hb : Below wr.heap.size wr w1) : Fam mk E B m v0 V N L w w1 :=
  ⟨h.below.trans (hb.mono h.size), Nat.le_trans h.size hb.size, h.list.below hb (Nat.le_refl _), fun j hj => (h.rows j hj).kept (row := none) ⟨hb.os, hb.tape, hb.output, hb.size, fun k hk _ => hb.block k hk⟩ (by cases (V j).ownBlock <;> simp)⟩
/-- The element of a list of slices at place k, as the walk reads it. -/
theorem IsSl.atV {P : Program} {SST : TypeId} {i : TypeInfo} (ht : P.underlying SST = some (.slice ST)) (hi : P.info? ST = some i) (hs : i.size = 1) {wr : World} {a0 : Option Addr} {c0 : Nat}
    (h : IsSl wr 1 (.slice a0 m c0) m ((List.range m).map V)) {k : Nat} (hk : k < m) {x : Value} (hv : V k = x) :
    ∃ g o, (∀ w', (Instr.indexAt SST (.slice a0 m c0) (.int .i64 k)).run P w' = .ok (.pointer (some ⟨g, o, none⟩)) w') ∧ g < wr.heap.size ∧ wr.cell? ⟨g, o, none⟩ = some x ∧ (Value.slice a0 m c0).ownBlock = some g := by
  obtain ⟨g, o, y, h1, h2, h3, h4⟩ := IsSl.at1 ht hi hs h hk
  have hx : y = x := by
    rw [List.getElem?_map, List.getElem?_range hk] at h4
    rw [← hv]; simpa using h4.symm
  subst hx
  refine ⟨g, o, h1, h2, h3, ?_⟩
  have := h1 wr
  rcases h.2 with ⟨_, h0⟩ | ⟨g', off, c', he, _, _, _⟩
  · omega
  · cases he
    have he : P.elem SST = ST := by simp [Program.elem, ht]
    rw [run_indexAt_slice wr SST _ m c0 .i64 k (by rw [he]; exact ht), if_pos ⟨by omega, by omega⟩, he] at this
    simp only [sizeOf, typeInfo, Sem.run_bind, Result.andThen] at this
    have hb : ((⟨g', off, none⟩ : Addr).add k).block = g' := by unfold Addr.add; split <;> rfl
    simp [hi, hs] at this
    have hb2 := congrArg Addr.block this
    rw [hb] at hb2
    show some g' = some g
    rw [hb2]
theorem InSl.atV {P : Program} {SST : TypeId} {i : TypeInfo} (ht : P.underlying SST = some (.slice ST)) (hi : P.info? ST = some i) (hs : i.size = 1) {wr : World} {a0 : Option Addr} {c0 : Nat}
    (h : InSl wr 1 (.slice a0 m c0) m ((List.range m).map V)) {k : Nat} (hk : k < m) {x : Value} (hv : V k = x) :
    ∃ g o, (∀ w', (Instr.indexAt SST (.slice a0 m c0) (.int .i64 k)).run P w' = .ok (.pointer (some ⟨g, o, none⟩)) w') ∧ g < wr.heap.size ∧ wr.cell? ⟨g, o, none⟩ = some x ∧ (Value.slice a0 m c0).ownBlock = some g :=
  IsSl.atV ht hi hs (h.pos (by omega)) hk hv
theorem Fam.congr {L L' : Nat → List α} {w wr : World} (h : Fam mk E B m v0 V N L w wr) (hl : ∀ j, j < m → L j = L' j) : Fam mk E B m v0 V N L' w wr :=
  ⟨h.below, h.size, h.list, fun j hj => by rw [← hl j hj]; exact h.rows j hj⟩
/-- What a slice of the call's own looks like. -/
def OwnForm (m : Nat) (V : Nat → Value) (N : Nat → Nat) : Prop := ∀ j, j < m → (V j = .slice none 0 0 ∧ N j = 0) ∨ ∃ g c, V j = .slice (some ⟨g, 0, none⟩) (N j) c ∧ N j ≤ c
theorem Fam.ownForm {L : Nat → List α} {w wr : World} (h : Fam mk E B m v0 V N L w wr) : OwnForm m V N := fun j hj => by
  rcases (h.rows j hj).2 with h0 | ⟨g, cap, cur, hv, _, _, hn, _⟩
  · exact .inl h0
  · exact .inr ⟨g, cap, hv, hn⟩
/-- The lists that are gone on with: k of them are laid; from kr on the slices still own their rows. -/
structure Gs (mk : α → Value) (mark : Nat → Nat → α) (E ST B m : Nat) (v0 : Value) (V : Nat → Value) (N : Nat → Nat) (k kr : Nat) (out : Value) (G : Nat → Value) (w wr : World) : Prop where
  below : Below B w wr
  size : B ≤ wr.heap.size
  list : IsSl wr 1 v0 m ((List.range m).map V)
  old : ∀ j, j < m → IsSl wr 1 (V j) (N j) ((marksOf mark (j + 10) (N j)).map mk)
  rows : ∀ j, j < m → kr ≤ j → wr.ownsRow B E 1 (V j) (N j) ((marksOf mark (j + 10) (N j)).map mk)
  new : ∀ j, j < k → IsSl wr 1 (G j) (N j + 6) ((marksOf mark (j + 10) (N j + 6)).map mk)
  outR : wr.ownsRow B ST 1 out k ((List.range k).map G)
  outV : ∀ g, out.ownBlock = some g → (∀ j, j < m → (V j).ownBlock ≠ some g) ∧ (∀ j, j < k → (G j).ownBlock ≠ some g) ∧ v0.ownBlock ≠ some g
  gV : ∀ j, j < k → ∀ g, (G j).ownBlock = some g → ∀ j', j' < m → k ≤ j' → (V j').ownBlock ≠ some g
/-- The list that is being gone on with. -/
structure Cur (mk : α → Value) (mark : Nat → Nat → α) (E B m : Nat) (v0 : Value) (V : Nat → Value) (N : Nat → Nat) (k n : Nat) (out gv : Value) (G : Nat → Value) (wr : World) : Prop where
  own : wr.ownsRow B E 1 gv n ((marksOf mark (k + 10) n).map mk)
  vs : ∀ g, gv.ownBlock = some g → (V k).ownBlock = some g ∨ ∀ j, j < m → (V j).ownBlock ≠ some g
  out : ∀ g, gv.ownBlock = some g → out.ownBlock ≠ some g
  ls : ∀ g, gv.ownBlock = some g → v0.ownBlock ≠ some g
  gs : ∀ g, gv.ownBlock = some g → ∀ j, j < k → (G j).ownBlock ≠ some g
theorem Gs.start {w wr : World} (h : Fam mk E B m v0 V N (fun j => marksOf mark (j + 10) (N j)) w wr) : Gs mk mark E ST B m v0 V N 0 0 (.slice none 0 0) V w wr :=
  ⟨h.below, h.size, h.list, fun j hj => IsSl.of_own (h.rows j hj), fun j hj _ => h.rows j hj, fun j hj => by omega, World.ownsRow_nil _ _ _ _, fun g hg => (by cases hg), fun j hj => by omega⟩
theorem Gs.drewN {k kr : Nat} {out : Value} {G : Nat → Value} {w wr : World} (h : Gs mk mark E ST B m v0 V N k kr out G w wr) (n : Nat) : Gs mk mark E ST B m v0 V N k kr out G w (wr.drewN n) :=
  ⟨below_n h.below n, h.size, h.list, h.old, h.rows, h.new, h.outR, h.outV, h.gV⟩
theorem Gs.less {k kr kr' : Nat} {out : Value} {G : Nat → Value} {w wr : World} (h : Gs mk mark E ST B m v0 V N k kr out G w wr) (hk : kr ≤ kr') : Gs mk mark E ST B m v0 V N k kr' out G w wr :=
  ⟨h.below, h.size, h.list, h.old, fun j hj hj' => h.rows j hj (by omega), h.new, h.outR, h.outV, h.gV⟩
theorem Cur.begin {k : Nat} {out : Value} {G : Nat → Value} {w wr : World} (h : Gs mk mark E ST B m v0 V N k k out G w wr) (hs : Sep m v0 V) (hk : k < m) : Cur mk mark E B m v0 V N k (N k) out (V k) G wr :=
  ⟨h.rows k hk (Nat.le_refl _), fun _ hg => .inl hg, fun g hg e => (h.outV g e).1 k hk hg, fun g hg => hs.ls k hk g hg, fun g hg j hj e => h.gV j hj g e k hk (Nat.le_refl _) hg⟩
theorem own_ne {w w' : World} {base e size n : Nat} {v : Value} {xs : List Value} {g : Nat} (h : w.ownsRow base e size v n xs) (hg : w.grownBy w' (some g)) (hne : v.ownBlock ≠ some g) : w'.ownsRow base e size v n xs := h.kept hg (.inr hne)
theorem own_none {w w' : World} {base e size n : Nat} {v : Value} {xs : List Value} (h : w.ownsRow base e size v n xs) (hg : w.grownBy w' none) : w'.ownsRow base e size v n xs := h.kept hg (by cases v.ownBlock <;> simp)
theorem sl_none {w w' : World} {size n : Nat} {v : Value} {xs : List Value} (h : IsSl w size v n xs) (hg : w.grownBy w' none) : IsSl w' size v n xs := h.grown hg (fun _ _ e => by cases e)
theorem sl_ne {w w' : World} {size n : Nat} {v : Value} {xs : List Value} {g : Nat} (h : IsSl w size v n xs) (hg : w.grownBy w' (some g)) (hne : v.ownBlock ≠ some g) : IsSl w' size v n xs := h.grown hg (fun _ e e' => by cases e'; exact hne e)
theorem ownBlock_lit {g g' n c : Nat} (h : (Value.slice (some ⟨g, 0, none⟩) n c).ownBlock = some g') : g' = g := by simpa [Value.ownBlock] using h.symm
/-- One mark more behind the list that is being gone on with. -/
theorem Gs.push_in {k n g cap : Nat} {out gv : Value} {G : Nat → Value} {w wr w1 : World} (h : Gs mk mark E ST B m v0 V N k (k + 1) out G w wr) (c : Cur mk mark E B m v0 V N k n out gv G wr) (hs : Sep m v0 V) (hf : OwnForm m V N) (hk : k < m) (hn : N k ≤ n)
    (h1 : w1.ownsRow B E 1 (.slice (some ⟨g, 0, none⟩) (n + 1) cap) (n + 1) ((marksOf mark (k + 10) n).map mk ++ [mk (mark (k + 10) n)]))
    (h2 : (gv.ownBlock = some g ∧ wr.grownBy w1 (some g)) ∨ (wr.heap.size ≤ g ∧ wr.grownBy w1 none)) :
    Gs mk mark E ST B m v0 V N k (k + 1) out G w w1 ∧ Cur mk mark E B m v0 V N k (n + 1) out (.slice (some ⟨g, 0, none⟩) (n + 1) cap) G w1 := by
  have h1' : w1.ownsRow B E 1 (.slice (some ⟨g, 0, none⟩) (n + 1) cap) (n + 1) ((marksOf mark (k + 10) (n + 1)).map mk) := by rw [marksOf_succ, List.map_append]; exact h1
  rcases h2 with ⟨hg, hgr⟩ | ⟨hge, hgr⟩
  · -- in place
    have hB := (c.own.lt g hg).1
    have hvj : ∀ j, j < m → j ≠ k → (V j).ownBlock ≠ some g := fun j hj hjk => by
      rcases c.vs g hg with e | e
      · intro e'; exact hs.one j k hj hk hjk g e' e
      · exact e j hj
    refine ⟨⟨h.below.grown hgr h.size (fun j e => by cases e; exact hB), Nat.le_trans h.size hgr.size, sl_ne h.list hgr (c.ls g hg), fun j hj => ?_, fun j hj hj' => own_ne (h.rows j hj hj') hgr (hvj j hj (by omega)),
      fun j hj => sl_ne (h.new j hj) hgr (c.gs g hg j hj), own_ne h.outR hgr (c.out g hg), h.outV, h.gV⟩, ⟨h1', fun g' e => by cases e; exact c.vs g hg, fun g' e => by cases e; exact c.out g hg, fun g' e => by cases e; exact c.ls g hg, fun g' e => by cases e; exact c.gs g hg⟩⟩
    by_cases hjk : j = k
    · subst hjk
      by_cases he : (V j).ownBlock = some g
      · rcases hf j hj with ⟨e0, _⟩ | ⟨g', cc, e0, hc⟩
        · rw [e0] at he; cases he
        · rw [e0] at he ⊢
          obtain rfl := ownBlock_lit he
          refine ⟨by simp [marksOf_len], .inr ⟨g, 0, cc, rfl, hc, (h1'.lt g rfl).2, fun i hi => ?_⟩⟩
          rw [Nat.zero_add, h1'.cellAt i (by omega), List.getElem?_map, List.getElem?_map, marksOf_get _ (by omega), marksOf_get _ (by omega)]
      · exact sl_ne (h.old j hj) hgr he
    · exact sl_ne (h.old j hj) hgr (hvj j hj hjk)
  · have big : ∀ v g', IsSl wr 1 v g' ((List.range m).map V) → v.ownBlock ≠ some g := fun v g' hv e => by have := hv.lt e; omega
    refine ⟨⟨h.below.grown hgr h.size (fun j e => by cases e), Nat.le_trans h.size hgr.size, sl_none h.list hgr, fun j hj => sl_none (h.old j hj) hgr, fun j hj hj' => own_none (h.rows j hj hj') hgr,
      fun j hj => sl_none (h.new j hj) hgr, own_none h.outR hgr, h.outV, h.gV⟩, ⟨h1', fun g' e => .inr fun j hj e' => ?_, fun g' e e' => ?_, fun g' e e' => ?_, fun g' e j hj e' => ?_⟩⟩
    · have := ownBlock_lit e; have := (h.old j hj).lt e'; omega
    · have := ownBlock_lit e; have := (h.outR.lt _ e').2; omega
    · have := ownBlock_lit e; have := h.list.lt e'; omega
    · have := ownBlock_lit e; have := (h.new j hj).lt e'; omega
/-- The list that has been gone on with is laid beside the others. -/
theorem Gs.push_out {k g cap : Nat} {out gv : Value} {G : Nat → Value} {w wr w1 : World} (h : Gs mk mark E ST B m v0 V N k (k + 1) out G w wr) (c : Cur mk mark E B m v0 V N k (N k + 6) out gv G wr) (hs : Sep m v0 V) (hk : k < m)
    (h1 : w1.ownsRow B ST 1 (.slice (some ⟨g, 0, none⟩) (k + 1) cap) (k + 1) ((List.range k).map G ++ [gv]))
    (h2 : (out.ownBlock = some g ∧ wr.grownBy w1 (some g)) ∨ (wr.heap.size ≤ g ∧ wr.grownBy w1 none)) :
    Gs mk mark E ST B m v0 V N (k + 1) (k + 1) (.slice (some ⟨g, 0, none⟩) (k + 1) cap) (fun j => if j = k then gv else G j) w w1 := by
  have hcur := IsSl.of_own c.own
  have hG : (List.range (k + 1)).map (fun j => if j = k then gv else G j) = (List.range k).map G ++ [gv] := by
    rw [range_succ_map]
    congr 1
    · refine List.map_congr_left fun j hj => ?_
      have : j < k := List.mem_range.1 hj
      rw [if_neg (by omega)]
    · simp
  have hgv : ∀ j, j < k + 1 → ∀ g', (if j = k then gv else G j).ownBlock = some g' → ∀ j', j' < m → k + 1 ≤ j' → (V j').ownBlock ≠ some g' := by
    intro j hj g' e j' hj' hk'
    by_cases hjk : j = k
    · rw [if_pos hjk] at e
      rcases c.vs g' e with e1 | e1
      · intro e2; exact hs.one j' k hj' hk (by omega) g' e2 e1
      · exact e1 j' hj'
    · rw [if_neg hjk] at e
      exact h.gV j (by omega) g' e j' hj' (by omega)
  rcases h2 with ⟨hg, hgr⟩ | ⟨hge, hgr⟩
  · obtain ⟨o1, o2, o3⟩ := h.outV g hg
    have hcg : gv.ownBlock ≠ some g := fun e => c.out g e hg
    refine ⟨h.below.grown hgr h.size (fun j e => by cases e; exact (h.outR.lt g hg).1), Nat.le_trans h.size hgr.size, sl_ne h.list hgr o3, fun j hj => sl_ne (h.old j hj) hgr (o1 j hj),
      fun j hj hj' => own_ne (h.rows j hj hj') hgr (o1 j hj), fun j hj => ?_, by rw [hG]; exact h1, fun g' e => ?_, hgv⟩
    · by_cases hjk : j = k
      · subst hjk; rw [if_pos rfl]; exact sl_ne hcur hgr hcg
      · rw [if_neg hjk]; exact sl_ne (h.new j (by omega)) hgr (o2 j (by omega))
    · cases e
      refine ⟨o1, fun j hj => ?_, o3⟩
      by_cases hjk : j = k
      · rw [if_pos hjk]; exact hcg
      · rw [if_neg hjk]; exact o2 j (by omega)
  · refine ⟨h.below.grown hgr h.size (fun j e => by cases e), Nat.le_trans h.size hgr.size, sl_none h.list hgr, fun j hj => sl_none (h.old j hj) hgr,
      fun j hj hj' => own_none (h.rows j hj hj') hgr, fun j hj => ?_, by rw [hG]; exact h1, fun g' e => ?_, hgv⟩
    · by_cases hjk : j = k
      · subst hjk; rw [if_pos rfl]; exact sl_none hcur hgr
      · rw [if_neg hjk]; exact sl_none (h.new j (by omega)) hgr
    · have := ownBlock_lit e
      refine ⟨fun j hj e' => by have := (h.old j hj).lt e'; omega, fun j hj e' => ?_, fun e' => by have := h.list.lt e'; omega⟩
      by_cases hjk : j = k
      · rw [if_pos hjk] at e'; have := hcur.lt e'; omega
      · rw [if_neg hjk] at e'; have := (h.new j (by omega)).lt e'; omega
end
end Go.Proofs.YtdepiggjneoopaaGreatDoor
