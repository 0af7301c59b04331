/- a part of the proof of the last text -/
import Derived.Test.YtdepiggjneoopaaGreatDoorZFloat
import Derived.Deep.AppendLies
import Derived.OneCell
import Derived.Deep.RegionLaw
namespace Go.Proofs.YtdepiggjneoopaaGreatDoor
set_option linter.all false
set_option maxHeartbeats 4000000
set_option maxRecDepth 100000
open Go.RowKit
/-- A slice's value leads to these cells. -/
def IsSl (w : World) (size : Nat) (v : Value) (n : Nat) (xs : List Value) : Prop :=
  xs.length = n * size ∧ ((v = .slice none 0 0 ∧ n = 0) ∨ ∃ g off c, v = .slice (some ⟨g, off, none⟩) n c ∧ n ≤ c ∧ g < w.heap.size ∧ ∀ j, j < n * size → w.cell? ⟨g, off + j, none⟩ = xs[j]?)
theorem IsSl.form {w : World} {size : Nat} {v : Value} {n : Nat} {xs : List Value} (h : IsSl w size v n xs) : ∃ a c, v = .slice a n c := by
  rcases h.2 with ⟨rfl, rfl⟩ | ⟨g, off, c, rfl, _⟩
  · exact ⟨none, 0, rfl⟩
  · exact ⟨_, c, rfl⟩
theorem IsSl.nil (w : World) (size : Nat) : IsSl w size (.slice none 0 0) 0 [] := ⟨by simp, .inl ⟨rfl, rfl⟩⟩
/-- It leads to them as long as its block is as it was. -/
theorem IsSl.of_block {w w' : World} {size : Nat} {v : Value} {n : Nat} {xs : List Value} (h : IsSl w size v n xs) (hs : w.heap.size ≤ w'.heap.size) (hb : ∀ g, v.ownBlock = some g → w'.heap[g]? = w.heap[g]?) : IsSl w' size v n xs := by
  refine ⟨h.1, ?_⟩
  rcases h.2 with h0 | ⟨g, off, c, rfl, hc, hg, hcell⟩
  · exact .inl h0
  · refine .inr ⟨g, off, c, rfl, hc, Nat.lt_of_lt_of_le hg hs, fun j hj => ?_⟩
    rw [World.cell?_of_block (w := w) (hb g rfl)]
    exact hcell j hj
theorem IsSl.lt {w : World} {size : Nat} {v : Value} {n : Nat} {xs : List Value} (h : IsSl w size v n xs) {g : Nat} (hg : v.ownBlock = some g) : g < w.heap.size := by
  rcases h.2 with ⟨rfl, _⟩ | ⟨g', off, c, rfl, _, hlt, _⟩
  · cases hg
  · cases hg; exact hlt
theorem IsSl.below {w w' : World} {B size : Nat} {v : Value} {n : Nat} {xs : List Value} (h : IsSl w size v n xs) (hb : Below B w w') (hB : w.heap.size ≤ B) : IsSl w' size v n xs :=
  h.of_block hb.size fun _ hg => hb.block _ (Nat.lt_of_lt_of_le (h.lt hg) hB)
theorem IsSl.grown {w w' : World} {size : Nat} {v : Value} {n : Nat} {xs : List Value} {row : Option Nat} (h : IsSl w size v n xs) (hg : w.grownBy w' row) (hne : ∀ g, v.ownBlock = some g → row ≠ some g) : IsSl w' size v n xs :=
  h.of_block hg.size fun g e => hg.block g (h.lt e) (fun e' => hne g e e'.symm)
theorem IsSl.of_own {w : World} {B e size : Nat} {v : Value} {n : Nat} {xs : List Value} (h : w.ownsRow B e size v n xs) : IsSl w size v n xs := by
  refine ⟨h.1, ?_⟩
  rcases h.2 with h0 | ⟨g, cap, cur, rfl, hb, hg, hn, hm, hs, ht⟩
  · exact .inl h0
  · refine .inr ⟨g, 0, cap, rfl, hn, (Array.getElem?_eq_some_iff.1 hg).1, fun j hj => ?_⟩
    rw [Nat.zero_add]
    exact World.ownsRow.cellAt h j hj
/-- The first k elements. -/
theorem IsSl.take {w : World} {size : Nat} {a : Option Addr} {n c k : Nat} {xs : List Value} (h : IsSl w size (.slice a n c) n xs) (hk : k ≤ n) : IsSl w size (.slice a k c) k (xs.take (k * size)) := by
  have hle : k * size ≤ n * size := Nat.mul_le_mul_right _ hk
  refine ⟨by rw [List.length_take, h.1]; omega, ?_⟩
  rcases h.2 with ⟨h0, h1⟩ | ⟨g, off, c', hv, hc, hg, hcell⟩
  · cases h0
    obtain rfl : k = 0 := by omega
    exact .inl ⟨rfl, rfl⟩
  · cases hv
    refine .inr ⟨g, off, c, rfl, by omega, hg, fun j hj => ?_⟩
    rw [hcell j (by omega), List.getElem?_take, if_pos hj]
/-- An element of one cell: where it lies, what it holds. -/
theorem IsSl.at1 {P : Program} {t e : TypeId} {i : TypeInfo} (ht : P.underlying t = some (.slice e)) (hi : P.info? e = some i) (hs : i.size = 1)
    {w : World} {a : Option Addr} {n c : Nat} {xs : List Value} (h : IsSl w 1 (.slice a n c) n xs) {k : Nat} (hk : k < n) :
    ∃ g o x, (∀ w', (Instr.indexAt t (.slice a n c) (.int .i64 k)).run P w' = .ok (.pointer (some ⟨g, o, none⟩)) w') ∧ g < w.heap.size ∧ w.cell? ⟨g, o, none⟩ = some x ∧ xs[k]? = some x := by
  rcases h.2 with ⟨_, h0⟩ | ⟨g, off, c', hv, hc, hg, hcell⟩
  · omega
  · cases hv
    have hl : k < xs.length := by rw [h.1]; omega
    refine ⟨g, off + k, xs[k], fun w' => ?_, hg, ?_, by simp [hl]⟩
    · have he : P.elem t = e := by simp [Program.elem, ht]
      rw [run_indexAt_slice w' t _ n c .i64 k (by rw [he]; exact ht), if_pos ⟨by omega, by omega⟩, he]
      simp [sizeOf, typeInfo, hi, hs, Result.andThen, Addr.add]
    · rw [hcell k (by omega)]; simp [hl]
/-- A slice that came in: as 'IsSl', but an empty one may point anywhere. -/
def InSl (w : World) (size : Nat) (v : Value) (n : Nat) (xs : List Value) : Prop := IsSl w size v n xs ∨ ∃ a c, v = .slice a 0 c ∧ n = 0 ∧ xs = []
theorem InSl.of {w : World} {size : Nat} {v : Value} {n : Nat} {xs : List Value} (h : IsSl w size v n xs) : InSl w size v n xs := .inl h
theorem InSl.form {w : World} {size : Nat} {v : Value} {n : Nat} {xs : List Value} (h : InSl w size v n xs) : ∃ a c, v = .slice a n c := by
  rcases h with h | ⟨a, c, rfl, rfl, rfl⟩
  · exact h.form
  · exact ⟨a, c, rfl⟩
theorem InSl.len {w : World} {size : Nat} {v : Value} {n : Nat} {xs : List Value} (h : InSl w size v n xs) : xs.length = n * size := by
  rcases h with h | ⟨a, c, rfl, rfl, rfl⟩
  · exact h.1
  · simp
theorem InSl.pos {w : World} {size : Nat} {v : Value} {n : Nat} {xs : List Value} (h : InSl w size v n xs) (hn : 0 < n) : IsSl w size v n xs := by
  rcases h with h | ⟨a, c, rfl, rfl, rfl⟩
  · exact h
  · omega
theorem InSl.below {w w' : World} {B size : Nat} {v : Value} {n : Nat} {xs : List Value} (h : InSl w size v n xs) (hb : Below B w w') (hB : w.heap.size ≤ B) : InSl w' size v n xs :=
  h.imp (fun h => h.below hb hB) id
theorem InSl.at1 {P : Program} {t e : TypeId} {i : TypeInfo} (ht : P.underlying t = some (.slice e)) (hi : P.info? e = some i) (hs : i.size = 1)
    {w : World} {a : Option Addr} {n c : Nat} {xs : List Value} (h : InSl w 1 (.slice a n c) n xs) {k : Nat} (hk : k < n) :
    ∃ g o x, (∀ w', (Instr.indexAt t (.slice a n c) (.int .i64 k)).run P w' = .ok (.pointer (some ⟨g, o, none⟩)) w') ∧ g < w.heap.size ∧ w.cell? ⟨g, o, none⟩ = some x ∧ xs[k]? = some x :=
  IsSl.at1 ht hi hs (h.pos (by omega)) hk
theorem getD_of_getElem? {α : Type} {l : List α} {k : Nat} {x d : α} (h : l[k]? = some x) : l.getD k d = x := by simp [List.getD, h]
theorem map_getElem? {α β : Type} {f : α → β} {l : List α} {k : Nat} {y : β} (h : (l.map f)[k]? = some y) : ∃ x, l[k]? = some x ∧ y = f x := by
  rw [List.getElem?_map] at h
  obtain ⟨x, h1, h2⟩ := Option.map_eq_some_iff.1 h
  exact ⟨x, h1, h2.symm⟩
theorem fold_set : ∀ (l : List Value) (k : Nat) (cs : Array Value) (i : Nat),
    ((l.zipIdx k).foldl (fun cs (x : Value × Nat) => cs.setIfInBounds (0 + x.2) x.1) cs)[i]? = if i < cs.size then (if k ≤ i ∧ i < k + l.length then l[i - k]? else cs[i]?) else none
  | [], k, cs, i => by
    simp only [List.zipIdx_nil, List.foldl_nil, List.length_nil]
    split
    · rw [if_neg (by omega)]
    · rename_i h; simp at h; exact Array.getElem?_eq_none h
  | x :: l, k, cs, i => by
    simp only [List.zipIdx_cons, List.foldl_cons]
    rw [fold_set l (k + 1) _ i]
    simp only [Array.size_setIfInBounds, List.length_cons, Nat.zero_add]
    by_cases hi : i < cs.size
    · rw [if_pos hi, if_pos hi]
      by_cases h1 : k + 1 ≤ i ∧ i < k + 1 + l.length
      · rw [if_pos h1, if_pos (by omega)]
        obtain ⟨m, rfl⟩ : ∃ m, i = k + 1 + m := ⟨i - (k + 1), by omega⟩
        rw [show k + 1 + m - (k + 1) = m from by omega, show k + 1 + m - k = m + 1 from by omega]
        simp
      · rw [if_neg h1]
        by_cases h2 : i = k
        · subst h2
          rw [if_pos (by omega)]
          simp [hi]
        · rw [if_neg (by omega), Array.getElem?_setIfInBounds_ne (by omega)]
    · rw [if_neg hi, if_neg hi]
theorem fill_one (y : Value) (cs : Array Value) (h : cs.size = y.cells.size) : Instr.fill (fun i => some (i * y.cells.size, y.cells.size)) cs [(0, y)] = some y.cells := by
  simp only [Instr.fill]
  rw [if_neg (by simp [h])]
  congr 1
  apply Array.ext_getElem?
  intro i
  have := fold_set y.cells.toList 0 cs i
  rw [← Array.toList_zipIdx, Array.foldl_toList] at this
  simp only [Nat.zero_mul]
  rw [this]
  by_cases hi : i < cs.size
  · rw [if_pos hi, if_pos (by simp; omega)]; simp
  · rw [if_neg hi]; symm; exact Array.getElem?_eq_none (by omega)
theorem run_buildOne {P : Program} {t e size : Nat} {i : TypeInfo} {z : Value} (ht : P.underlying t = some (.slice e)) (hi : P.info? e = some i) (hz : i.zero = some z)
    (hsize : i.size = size) (hsz : 0 < size) (hs24 : size ≤ 16777216) (y : Value) (hys : y.cells.size = size) (w : World) :
    (Instr.buildSlice t 1 #[(0, y)]).run P w = .ok (.slice (some ⟨w.heap.size, 0, none⟩) 1 1) (w.alloc (.cells y.cells e)) := by
  subst hys
  have hf := fill_one y ((Array.range y.cells.size).map (z.cells[· % z.cells.size]!)) (by simp)
  have h1 : ¬ (16777216 < y.cells.size) := by omega
  have h2 : ¬ y.cells = #[] := by intro h; rw [h] at hsz; simp at hsz
  simp [Instr.buildSlice, run_underlying ht, sizeOf, typeInfo, hi, hsize, h1, h2, zeroValue, hz, hf, newRow]
/-- 'append(s, x)' of one element, laid and appended: the slice owns one element more; it lies where it lay, or in a new block; no other block has changed. -/
theorem wpList_push {P : Program} {ops : Array Oper} {Q : Exit → Act → World → Prop} {a : Act} {w : World} {rest : List Oper} {o1 o2 : Oper}
    (hg1 : o1.guard = none) (hg2 : o2.guard = none) (d1 : Tmp) (hd1 : o1.dst = some d1) (t : TypeId) (s x : Operand)
    (ho1 : o1.op = .buildSlice t 1 #[(0, x)]) (ho2 : o2.op = .call { callee := .builtin .append, args := #[s, .tmp d1], argTypes := #[t, t] })
    (base e size bytes : Nat) (i : TypeInfo) (z : Value) (ht : P.underlying t = some (.slice e)) (hi : P.info? e = some i) (hz : i.zero = some z)
    (hsize : i.size = size) (hby : i.bytes = bytes) (hzs : z.cells.size = size) (hsz : 0 < size) (hs24 : size ≤ 16777216)
    (v : Value) (n : Nat) (xs : List Value) (hown : w.ownsRow base e size v n xs) (hbase : base ≤ w.heap.size)
    (y : Value) (hx : a.eval x = y) (hys : y.cells.size = size) (h1 : ∀ u ∈ y.cells.toList, u.oneCell' = true)
    (hs : (a.put (some d1) (.slice (some ⟨w.heap.size, 0, none⟩) 1 1)).eval s = v)
    (hd : (a.put (some d1) (.slice (some ⟨w.heap.size, 0, none⟩) 1 1)).eval (.tmp d1) = .slice (some ⟨w.heap.size, 0, none⟩) 1 1)
    (h63 : n + 1 ≤ maxLen) (hbytes : (n + 1) * bytes ≤ 140737488355328)
    (h : ∀ g cap w', w'.ownsRow base e size (.slice (some ⟨g, 0, none⟩) (n + 1) cap) (n + 1) (xs ++ y.cells.toList) → w.grownBy w' v.ownBlock → (v.ownBlock = some g ∨ w.heap.size ≤ g) → g < w'.heap.size →
      wpList P ops Q rest ((a.put (some d1) (.slice (some ⟨w.heap.size, 0, none⟩) 1 1)).put o2.dst (.slice (some ⟨g, 0, none⟩) (n + 1) cap)) w') : wpList P ops Q (o1 :: o2 :: rest) a w := by
  refine wpList_plain hg1 fun K hK => ?_
  have hrun := run_buildOne (P := P) ht hi hz hsize hsz hs24 y hys w
  have key : wpList P ops Q (o2 :: rest) (a.put (some d1) (.slice (some ⟨w.heap.size, 0, none⟩) 1 1)) (w.alloc (.cells y.cells e)) := by
    refine wpList_plain hg2 fun K hK => ?_
    refine wp_append_lies (w := w.alloc (.cells y.cells e)) s (.tmp d1) t ho2 base e i z size bytes ht hi hz hsize hby hzs hsz v n xs hs (hown.alloc _) ⟨w.heap.size, 0, none⟩ 1 1 y.cells.toList hd (by simpa using hys)
      (World.news_of_block (cs := y.cells) (t := e) (fr := (0, 0)) (heap_alloc_new w _)) h1 (by omega) h63 hbytes (by simp; omega) (w.heap.size + 1) (by simp) ?_
    intro g cap w' hown' hgr hat hlt
    refine hK _ _ (h g cap w' hown' ?_ ?_ hlt)
    · refine ⟨hgr.os, hgr.tape, hgr.output, Nat.le_trans (by simp) hgr.size, fun k hk hne => ?_⟩
      rw [hgr.block k (by simp; omega) hne]
      exact heap_alloc_old w _ hk
    · rcases hat with hat | hat
      · exact .inl hat
      · exact .inr (by omega)
  have := hK _ _ (hd1 ▸ key)
  simpa [Oper.wp, Oper.upon, execOp, ho1, hx, hrun] using this
/-- 'append(s, l...)': s nil or the call's own, l any slice (nil, empty): the slice owns l's elements besides. -/
theorem wpList_appendAll {P : Program} {ops : Array Oper} {Q : Exit → Act → World → Prop} {a : Act} {w : World} {rest : List Oper} {o : Oper}
    (hg : o.guard = none) (s x : Operand) (t : TypeId) (ho : o.op = .call { callee := .builtin .append, args := #[s, x], argTypes := #[t, t] })
    (base e size bytes : Nat) (i : TypeInfo) (z : Value) (ht : P.underlying t = some (.slice e)) (hi : P.info? e = some i) (hz : i.zero = some z)
    (hsize : i.size = size) (hby : i.bytes = bytes) (hzs : z.cells.size = size) (hsz : 0 < size)
    (v : Value) (n : Nat) (xs : List Value) (hown : w.ownsRow base e size v n xs) (hbase : base ≤ w.heap.size)
    (v2 : Value) (m : Nat) (news : List Value) (hsl : IsSl w size v2 m news) (hs : a.eval s = v) (hx : a.eval x = v2) (h1 : ∀ u ∈ news, u.oneCell' = true)
    (h63 : n + m ≤ maxLen) (hbytes : (n + m) * bytes ≤ 140737488355328)
    (h : ∀ v' w', w'.ownsRow base e size v' (n + m) (xs ++ news) → w.grownBy w' v.ownBlock → (v'.ownBlock = v.ownBlock ∨ v'.ownBlock = some w.heap.size) →
      wpList P ops Q rest (a.put o.dst v') w') : wpList P ops Q (o :: rest) a w := by
  refine wpList_plain hg fun K hK => ?_
  rcases hsl.2 with ⟨rfl, rfl⟩ | ⟨g, off, c, rfl, hc, hlt, hcell⟩
  · have hn : news = [] := List.eq_nil_of_length_eq_zero (by simpa using hsl.1)
    subst hn
    have hr := run_append_owned_none (P := P) w base t o.type e i size ht hi v n xs hown
    have := hK _ _ (h v w (by simpa using hown) ⟨rfl, rfl, rfl, Nat.le_refl _, fun _ _ _ => rfl⟩ (.inl rfl))
    unfold Oper.wp execOp
    simp only [ho, resolve, invoke, builtin, Sem.run_bind, Sem.run_pure, Result.andThen_ok, List.map_toArray, List.map_cons, List.map_nil, hs, hx, hr]
    exact this
  · obtain ⟨v', w', hr, h2, h3, _, h5⟩ := run_append_own_at (P := P) w base t o.type e i z size bytes ht hi hz hsize hby hzs hsz v n xs hown ⟨g, off, none⟩ m c news hsl.1
      (fun j u hu => by
        have hj : j < m * size := by rw [← hsl.1]; exact (List.getElem?_eq_some_iff.1 hu).1
        have : (⟨g, off, none⟩ : Addr).add j = ⟨g, off + j, none⟩ := by unfold Addr.add; split <;> simp_all
        rw [this, hcell j hj, hu]) h1 h63 hbytes hbase
    have := hK _ _ (h v' w' h2 h3 h5)
    unfold Oper.wp execOp
    simp only [ho, resolve, invoke, builtin, Sem.run_bind, Sem.run_pure, Result.andThen_ok, List.map_toArray, List.map_cons, List.map_nil, hs, hx, hr]
    exact this
/-- The result is a new slice that owns these cells; nothing that was there has changed. -/
def RetRow (e size n : Nat) (S : List Value → Prop) (w : World) (en : Ending) (w' : World) : Prop := ∃ v xs, en = .returned v ∧ w'.ownsRow w.heap.size e size v n xs ∧ S xs ∧ Below w.heap.size w w'
/-- Behind an append or a store into the call's own memory: nothing that was there has changed. -/
theorem below_grown {w wr w1 : World} {row : Option Nat} (h : Below w.heap.size w wr) (hg : wr.grownBy w1 row) (hr : ∀ k, row = some k → w.heap.size ≤ k) : Below w.heap.size w w1 := h.grown hg h.size hr
theorem Calls.quiet_same {P : Program} {f : FuncId} {args : Array Value} {w : World} {n : Nat} {v : Value}
    (h : Calls P f args (w.drewN n) fun e w' => e = .returned v ∧ w.drewN n = w') : Calls P f args (w.drewN n) fun e w'' => e = .returned v ∧ ∃ m, w'' = w.drewN m :=
  h.mono fun _ _ ⟨he, hm⟩ => ⟨he, n, hm.symm⟩
theorem IsSl.drewN {w : World} {size : Nat} {v : Value} {n : Nat} {xs : List Value} (h : IsSl w size v n xs) (m : Nat) : IsSl (w.drewN m) size v n xs := h
theorem take_succ_map {α β : Type} (f : α → β) (l : List α) (k : Nat) (x : α) (h : l[k]? = some x) : (l.take (k + 1)).map f = (l.take k).map f ++ [f x] := by
  obtain ⟨hk, hx⟩ := List.getElem?_eq_some_iff.1 h
  rw [List.take_succ_eq_append_getElem hk, List.map_append, hx]; rfl
theorem range_succ_map {β : Type} (f : Nat → β) (k : Nat) : (List.range (k + 1)).map f = (List.range k).map f ++ [f k] := by
  rw [List.range_succ, List.map_append]; rfl
theorem grown_drewN {w w1 : World} {n : Nat} {row : Option Nat} (h : (w.drewN n).grownBy w1 row) : w.grownBy w1 row := ⟨h.os, h.tape, h.output, h.size, h.block⟩
/-- An element of one cell of a slice that the call owns: where it lies, what it holds, and that it may be written. -/
theorem own_at1 {P : Program} {t e : TypeId} {i : TypeInfo} (ht : P.underlying t = some (.slice e)) (hi : P.info? e = some i) (hs : i.size = 1)
    {w : World} {B : Nat} {a : Option Addr} {n c : Nat} {xs : List Value} (h : w.ownsRow B e 1 (.slice a n c) n xs) {k : Nat} (hk : k < n) :
    ∃ g x, (∀ w', (Instr.indexAt t (.slice a n c) (.int .i64 k)).run P w' = .ok (.pointer (some ⟨g, k, none⟩)) w') ∧ B ≤ g ∧ g < w.heap.size ∧ w.cell? ⟨g, k, none⟩ = some x ∧ xs[k]? = some x ∧
      w.frozen? ⟨g, k, none⟩ = false ∧ (Value.slice a n c).ownBlock = some g ∧
      (∀ w' : World, w'.ownsRow B e 1 (.slice a n c) n xs → ∀ u, (w'.setCell ⟨g, k, none⟩ u).ownsRow B e 1 (.slice a n c) n (xs.set k u) ∧ w'.grownBy (w'.setCell ⟨g, k, none⟩ u) (some g)) := by
  rcases h.2 with ⟨_, h0⟩ | ⟨g, cap, cur, hv, hb, hg, hn, hm, hsz, htk⟩
  · omega
  · cases hv
    have hl : k < xs.length := by rw [h.1]; omega
    have hlt := (Array.getElem?_eq_some_iff.1 hg).1
    refine ⟨g, xs[k], fun w' => ?_, hb, hlt, ?_, by simp [hl], h.frozenAt k, rfl, fun w' hw u => hw.stored k u⟩
    · have he : P.elem t = e := by simp [Program.elem, ht]
      rw [run_indexAt_slice w' t _ n c .i64 k (by rw [he]; exact ht), if_pos ⟨by omega, by omega⟩, he]
      simp [sizeOf, typeInfo, hi, hs, Result.andThen, Addr.add]
      omega
    · rw [h.cellAt k (by omega)]; simp [hl]
section
variable {α β : Type} [BEq β] [LawfulBEq β] {key : α → β} {l m : List α} {k : Nat} {b b2 : α}
theorem sameL_no (h1 : l[k]? = some b) (h2 : m[k]? = some b2) (t : (!(key b == key b2)) = true) : (l.map key == m.map key) = false := by
  rw [beq_eq_false_iff_ne]
  intro e
  have := congrArg (fun x : List β => x[k]?) e
  simp only [List.getElem?_map, h1, h2, Option.map_some, Option.some.injEq] at this
  rw [this] at t; simp at t
theorem sameL_step (h : (l.take k).map key = (m.take k).map key) (h1 : l[k]? = some b) (h2 : m[k]? = some b2) (t : (!(key b == key b2)) = false) : (l.take (k + 1)).map key = (m.take (k + 1)).map key := by
  rw [take_succ_map _ _ _ _ h1, take_succ_map _ _ _ _ h2, h]
  simp at t
  rw [t]
theorem sameL_yes (h : (l.take k).map key = (m.take k).map key) (hk : l.length ≤ k) (hl : l.length = m.length) : (l.map key == m.map key) = true := by
  rw [List.take_of_length_le hk, List.take_of_length_le (by omega)] at h
  rw [h]; simp
theorem sameL_len (hl : ¬ l.length = m.length) : (l.map key == m.map key) = false := by
  rw [beq_eq_false_iff_ne]
  intro e
  exact hl (by simpa using congrArg List.length e)
end
theorem set_at {α β : Type} (f : α → β) (ms l : List α) (k : Nat) (b : α) (hm : ms.length = k) (hk : k < l.length) :
    (ms.map f ++ (l.drop k).map f).set k (f b) = (ms ++ [b]).map f ++ (l.drop (k + 1)).map f := by
  have hml : (ms.map f).length = k := by rw [List.length_map, hm]
  rw [List.set_append_right _ _ (by omega), hml, Nat.sub_self, List.drop_eq_getElem_cons hk, List.map_cons, List.set_cons_zero, List.map_append, List.append_assoc]
  rfl
theorem grown_trans {a b c : World} {row : Option Nat} (h : a.grownBy b row) (k : b.grownBy c row) : a.grownBy c row :=
  ⟨k.os.trans h.os, k.tape.trans h.tape, k.output.trans h.output, Nat.le_trans h.size k.size, fun j hj hne => (k.block j (Nat.lt_of_lt_of_le hj h.size) hne).trans (h.block j hj hne)⟩
/-- A block that has been laid with so many owned elements at its beginning. -/
theorem own_new {w : World} {base e size n cap : Nat} {xs : List Value} {cur : Array Value} (hb : base ≤ w.heap.size) (hl : xs.length = n * size) (hn : n ≤ cap) (hm : cap ≤ maxLen) (hs : cur.size = cap * size)
    (ht : cur.toList.take (n * size) = xs) : (w.alloc (.cells cur e)).ownsRow base e size (.slice (some ⟨w.heap.size, 0, none⟩) n cap) n xs :=
  ⟨hl, .inr ⟨w.heap.size, cap, cur, rfl, hb, heap_alloc_new w _, hn, hm, hs, ht⟩⟩
/-- 'append(nil, l...)' as one step of a region that draws its order. -/
theorem step_append_all {P : Program} {ops : Array Oper} {o : Oper} {a : Act} {w : World} {K : Act → World → Prop} {Q : Exit → Act → World → Prop} {E : Prop}
    (hg : o.guard = none) (s x : Operand) (t : TypeId) (hop : o.op = Op.call { callee := Callee.builtin Builtin.append, args := #[s, x], argTypes := #[t, t] })
    (e size bytes : Nat) (i : TypeInfo) (z : Value) (ht : P.underlying t = some (.slice e)) (hi : P.info? e = some i) (hz : i.zero = some z)
    (hsize : i.size = size) (hby : i.bytes = bytes) (hzs : z.cells.size = size) (hsz : 0 < size)
    (v2 : Value) (m : Nat) (news : List Value) (hsl : IsSl w size v2 m news) (hs : a.eval s = .slice none 0 0) (hx : a.eval x = v2) (h1 : ∀ u ∈ news, u.oneCell' = true)
    (h63 : m ≤ maxLen) (hbytes : m * bytes ≤ 140737488355328)
    (hK : ∀ v' w', w'.ownsRow w.heap.size e size v' m news → w.grownBy w' none → K (a.put o.dst v') w') :
    if Region.wanted o (yielded ops a.tmps) = true then Oper.wp P o a w K Q else E := by
  have hw : Region.wanted o (yielded ops a.tmps) = true := by simp [Region.wanted, hg]
  rw [if_pos hw]
  rcases hsl.2 with ⟨rfl, rfl⟩ | ⟨g, off, c, rfl, hc, hlt, hcell⟩
  · have hn : news = [] := List.eq_nil_of_length_eq_zero (by simpa using hsl.1)
    subst hn
    have hr := run_append_owned_none (P := P) w w.heap.size t o.type e i size ht hi (.slice none 0 0) 0 [] (World.ownsRow_nil _ _ _ _)
    have := hK (.slice none 0 0) w (World.ownsRow_nil _ _ _ _) ⟨rfl, rfl, rfl, Nat.le_refl _, fun _ _ _ => rfl⟩
    unfold Oper.wp execOp
    simp only [hop, resolve, invoke, builtin, Sem.run_bind, Sem.run_pure, Result.andThen_ok, List.map_toArray, List.map_cons, List.map_nil, hs, hx, hr]
    exact this
  · obtain ⟨v', w', hr, h2, h3, _, h5⟩ := run_append_own_at (P := P) w w.heap.size t o.type e i z size bytes ht hi hz hsize hby hzs hsz (.slice none 0 0) 0 [] (World.ownsRow_nil _ _ _ _) ⟨g, off, none⟩ m c news hsl.1
      (fun j u hu => by
        have hj : j < m * size := by rw [← hsl.1]; exact (List.getElem?_eq_some_iff.1 hu).1
        have : (⟨g, off, none⟩ : Addr).add j = ⟨g, off + j, none⟩ := by unfold Addr.add; split <;> simp_all
        rw [this, hcell j hj, hu]) h1 (by omega) (by simpa using hbytes) (Nat.le_refl _)
    have := hK v' w' (by simpa using h2) h3
    unfold Oper.wp execOp
    simp only [hop, resolve, invoke, builtin, Sem.run_bind, Sem.run_pure, Result.andThen_ok, List.map_toArray, List.map_cons, List.map_nil, hs, hx, hr]
    exact this
/-- 'append' of at least one element onto a slice of the call's own: EITHER in place, its own block alone written, OR into a new block, no old block written. -/
theorem run_append_two {P : Program} (w : World) (base : Nat) (t ty e : TypeId) (i : TypeInfo) (z : Value) (size bytes : Nat) (ht : P.underlying t = some (.slice e)) (hi : P.info? e = some i) (hz : i.zero = some z)
    (hsize : i.size = size) (hby : i.bytes = bytes) (hzs : z.cells.size = size)
    (v : Value) (n : Nat) (xs : List Value) (hown : w.ownsRow base e size v n xs)
    (a : Addr) (m c : Nat) (news : List Value) (hl : news.length = m * size) (hnews : ∀ j u, news[j]? = some u → w.cell? (a.add j) = some u) (h1 : ∀ u ∈ news, u.oneCell' = true)
    (hm0 : 0 < m) (h63 : n + m ≤ maxLen) (hbytes : (n + m) * bytes ≤ 140737488355328) (hbase : base ≤ w.heap.size) :
    ∃ g cap w', (Builtin.append_ #[t, t] ty #[v, .slice (some a) m c]).run P w = .ok (.slice (some ⟨g, 0, none⟩) (n + m) cap) w' ∧
      w'.ownsRow base e size (.slice (some ⟨g, 0, none⟩) (n + m) cap) (n + m) (xs ++ news) ∧ g < w'.heap.size ∧
      ((v.ownBlock = some g ∧ w.grownBy w' (some g)) ∨ (g = w.heap.size ∧ w.grownBy w' none)) := by
  subst hsize hby
  have hM : (maxLen : Nat) = 9223372036854775807 := rfl
  have hlen : (xs ++ news).length = (n + m) * i.size := by rw [List.length_append, hown.1, hl, Nat.add_mul]
  have fresh : ∀ old, (w.drew.alloc (.cells (xs.toArray ++ news.toArray ++ Builtin.zeroCells z.cells (grownCap w (n + m) old e - (n + m))) e)).ownsRow base e i.size
      (.slice (some ⟨w.heap.size, 0, none⟩) (n + m) (grownCap w (n + m) old e)) (n + m) (xs ++ news) := by
    intro old
    have hge := grownCap_ge w (n + m) old e
    refine own_new (w := w.drew) hbase hlen hge (grownCap_le_maxLen w _ _ _ h63) ?_ ?_
    · simp only [Array.size_append, List.size_toArray, size_zeroCells, hzs, hown.1, hl]
      rw [← Nat.add_mul, ← Nat.add_mul]
      congr 1; omega
    · rw [← hlen]
      simp only [Array.toList_append]
      exact List.take_left
  have gr : ∀ o, w.grownBy (w.drew.alloc o) none := fun o => ⟨rfl, rfl, rfl, by simp, fun k hk _ => Below.heap_alloc w.drew o k hk⟩
  have fr : ∀ o, w.heap.size < (w.drew.alloc o).heap.size := fun o => by simp
  rcases hown.2 with ⟨rfl, rfl⟩ | ⟨g, cap, cur, rfl, hbg, hg, hnc, hcm, hcs, htk⟩
  · obtain rfl : xs = [] := List.eq_nil_of_length_eq_zero (by simpa using hown.1)
    have hr := run_append_nil (P := P) w t ty e i z ht hi hz a m c news hl hnews hm0 (by omega) (by simp only [Nat.zero_add] at hbytes; omega)
    have f := fresh 0
    simp only [Nat.zero_add, List.nil_append, List.append_toArray] at f hr ⊢
    exact ⟨_, _, _, hr, f, fr _, .inr ⟨rfl, gr _⟩⟩
  · by_cases hroom : n + m ≤ cap
    · obtain ⟨w', hr, h2, h3⟩ := run_append_fits (P := P) w base t ty e i i.size ht hi rfl g n cap xs hown a m c news hl hnews h1 hroom
      have hlt : g < w'.heap.size := (h2.lt g rfl).2
      exact ⟨g, cap, w', hr, h2, hlt, .inl ⟨rfl, h3⟩⟩
    · have hr := run_append_grow (P := P) w t ty e i z ht hi hz ⟨g, 0, none⟩ n cap xs hown.1 (hown.cells (g := g) rfl) a m c news hl hnews (by omega) (by omega) (growslice_fits (by omega) hbytes)
      exact ⟨_, _, _, hr, fresh cap, fr _, .inr ⟨rfl, gr _⟩⟩
/-- 'append(s, x)' of one element: as 'wpList_push', told more exactly: in place, or in a new block. -/
theorem wpList_push2 {P : Program} {ops : Array Oper} {Q : Exit → Act → World → Prop} {a : Act} {w : World} {rest : List Oper} {o1 o2 : Oper}
    (hg1 : o1.guard = none) (hg2 : o2.guard = none) (d1 : Tmp) (hd1 : o1.dst = some d1) (t : TypeId) (s x : Operand)
    (ho1 : o1.op = .buildSlice t 1 #[(0, x)]) (ho2 : o2.op = .call { callee := .builtin .append, args := #[s, .tmp d1], argTypes := #[t, t] })
    (base e size bytes : Nat) (i : TypeInfo) (z : Value) (ht : P.underlying t = some (.slice e)) (hi : P.info? e = some i) (hz : i.zero = some z)
    (hsize : i.size = size) (hby : i.bytes = bytes) (hzs : z.cells.size = size) (hsz : 0 < size) (hs24 : size ≤ 16777216)
    (v : Value) (n : Nat) (xs : List Value) (hown : w.ownsRow base e size v n xs) (hbase : base ≤ w.heap.size)
    (y : Value) (hx : a.eval x = y) (hys : y.cells.size = size) (h1 : ∀ u ∈ y.cells.toList, u.oneCell' = true)
    (hs : (a.put (some d1) (.slice (some ⟨w.heap.size, 0, none⟩) 1 1)).eval s = v)
    (hd : (a.put (some d1) (.slice (some ⟨w.heap.size, 0, none⟩) 1 1)).eval (.tmp d1) = .slice (some ⟨w.heap.size, 0, none⟩) 1 1)
    (h63 : n + 1 ≤ maxLen) (hbytes : (n + 1) * bytes ≤ 140737488355328)
    (h : ∀ g cap w', w'.ownsRow base e size (.slice (some ⟨g, 0, none⟩) (n + 1) cap) (n + 1) (xs ++ y.cells.toList) → g < w'.heap.size →
      ((v.ownBlock = some g ∧ w.grownBy w' (some g)) ∨ (w.heap.size ≤ g ∧ w.grownBy w' none)) →
      wpList P ops Q rest ((a.put (some d1) (.slice (some ⟨w.heap.size, 0, none⟩) 1 1)).put o2.dst (.slice (some ⟨g, 0, none⟩) (n + 1) cap)) w') : wpList P ops Q (o1 :: o2 :: rest) a w := by
  refine wpList_plain hg1 fun K hK => ?_
  have hrun := run_buildOne (P := P) ht hi hz hsize hsz hs24 y hys w
  have step : ∀ {w' : World} {row : Option Nat}, (w.alloc (.cells y.cells e)).grownBy w' row → w.grownBy w' row := fun hgr =>
    ⟨hgr.os, hgr.tape, hgr.output, Nat.le_trans (by simp) hgr.size, fun k hk hne => by rw [hgr.block k (by simp; omega) hne]; exact heap_alloc_old w _ hk⟩
  have key : wpList P ops Q (o2 :: rest) (a.put (some d1) (.slice (some ⟨w.heap.size, 0, none⟩) 1 1)) (w.alloc (.cells y.cells e)) := by
    refine wpList_plain hg2 fun K hK => ?_
    obtain ⟨g, cap, w', hr, h2, h3, h4⟩ := run_append_two (P := P) (w.alloc (.cells y.cells e)) base t o2.type e i z size bytes ht hi hz hsize hby hzs v n xs (hown.alloc _) ⟨w.heap.size, 0, none⟩ 1 1 y.cells.toList (by simpa using hys)
      (World.news_of_block (cs := y.cells) (t := e) (fr := (0, 0)) (heap_alloc_new w _)) h1 (by omega) h63 hbytes (by simp; omega)
    have := hK _ _ (h g cap w' h2 h3 (h4.imp (fun x => ⟨x.1, step x.2⟩) (fun x => ⟨by have := x.1; simp at this; omega, step x.2⟩)))
    unfold Oper.wp execOp
    simp only [ho2, resolve, invoke, builtin, Sem.run_bind, Sem.run_pure, Result.andThen_ok, List.map_toArray, List.map_cons, List.map_nil, hs, hd, hr]
    exact this
  have := hK _ _ (hd1 ▸ key)
  simpa [Oper.wp, Oper.upon, execOp, ho1, hx, hrun] using this
/-- A cell of another block behind a store. -/
theorem cell_store_ne {w : World} {g q g0 o0 : Nat} {v x : Value} (hne : ¬ g0 = g) (h : w.cell? ⟨g0, o0, none⟩ = some x) : (w.setCell ⟨g, q, none⟩ v).cell? ⟨g0, o0, none⟩ = some x := by
  rw [World.cell?_of_block (w := w) (Below.heap_setCell w ⟨g, q, none⟩ v g0 hne)]; exact h
theorem cell_store_ne_drew {w : World} {g q g0 o0 : Nat} {v x : Value} (hne : ¬ g0 = g) (h : w.cell? ⟨g0, o0, none⟩ = some x) : (w.setCell ⟨g, q, none⟩ v).drew.cell? ⟨g0, o0, none⟩ = some x := cell_store_ne hne h
end Go.Proofs.YtdepiggjneoopaaGreatDoor
