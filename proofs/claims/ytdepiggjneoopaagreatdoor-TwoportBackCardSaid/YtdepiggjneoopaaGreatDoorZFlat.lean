/- a part of the proof of the last text -/
import Derived.Test.YtdepiggjneoopaaGreatDoorZRow
namespace Go.Proofs.YtdepiggjneoopaaGreatDoor
set_option linter.all false
set_option maxHeartbeats 4000000
set_option maxRecDepth 100000
open Go.RowKit
section
variable {α : Type} {f : α → List Value} {s : Nat}
theorem flat_len (hf : ∀ x, (f x).length = s) : ∀ l : List α, (l.flatMap f).length = l.length * s
  | [] => by simp
  | x :: l => by rw [List.flatMap_cons, List.length_append, flat_len hf l, hf, List.length_cons, Nat.add_mul]; omega
theorem flat_get (hf : ∀ x, (f x).length = s) : ∀ (l : List α) (k j : Nat), j < s → (l.flatMap f)[k * s + j]? = l[k]?.bind fun x => (f x)[j]?
  | [], k, j, _ => by simp
  | x :: l, 0, j, hj => by
    rw [List.flatMap_cons, Nat.zero_mul, Nat.zero_add, List.getElem?_append_left (by rw [hf]; exact hj)]; rfl
  | x :: l, k + 1, j, hj => by
    rw [List.flatMap_cons, List.getElem?_append_right (by rw [hf, Nat.add_mul]; omega), hf, show (k + 1) * s + j - s = k * s + j by rw [Nat.add_mul]; omega, flat_get hf l k j hj]; rfl
theorem flat_snoc (l : List α) (x : α) : (l ++ [x]).flatMap f = l.flatMap f ++ f x := by simp
theorem flat_take (l : List α) (k : Nat) (x : α) (h : l[k]? = some x) : (l.take (k + 1)).flatMap f = (l.take k).flatMap f ++ f x := by
  obtain ⟨hk, hx⟩ := List.getElem?_eq_some_iff.1 h
  rw [List.take_succ_eq_append_getElem hk, List.flatMap_append, hx]; simp
/-- An element: where it lies, which it is, what its cells hold. -/
theorem IsSl.atF {P : Program} {t e : TypeId} {i : TypeInfo} (ht : P.underlying t = some (.slice e)) (hi : P.info? e = some i) (hs : i.size = s) (hf : ∀ x, (f x).length = s)
    {w : World} {a : Option Addr} {n c : Nat} {l : List α} (h : IsSl w s (.slice a n c) n (l.flatMap f)) (hl : l.length = n) {k : Nat} (hk : k < n) :
    ∃ g o x, (∀ w', (Instr.indexAt t (.slice a n c) (.int .i64 k)).run P w' = .ok (.pointer (some ⟨g, o, none⟩)) w') ∧ g < w.heap.size ∧ l[k]? = some x ∧ ∀ j u, (f x)[j]? = some u → w.cell? ⟨g, o + j, none⟩ = some u := by
  rcases h.2 with ⟨_, h0⟩ | ⟨g, off, c', hv, hc, hg, hcell⟩
  · omega
  · cases hv
    have hlk : l[k]? = some l[k] := List.getElem?_eq_getElem (by omega)
    refine ⟨g, off + k * s, l[k], fun w' => ?_, hg, hlk, fun j u hj => ?_⟩
    · have he : P.elem t = e := by simp [Program.elem, ht]
      rw [run_indexAt_slice w' t _ n c .i64 k (by rw [he]; exact ht), if_pos ⟨by omega, by omega⟩, he]
      simp [sizeOf, typeInfo, hi, hs, Result.andThen, Addr.add]
    · have hjs : j < s := by rw [← hf l[k]]; exact (List.getElem?_eq_some_iff.1 hj).1
      have := Nat.mul_le_mul_right s (show k + 1 ≤ n by omega)
      rw [Nat.add_mul] at this
      rw [Nat.add_assoc, hcell _ (by omega), flat_get hf l k j hjs, hlk]; exact hj
theorem InSl.atF {P : Program} {t e : TypeId} {i : TypeInfo} (ht : P.underlying t = some (.slice e)) (hi : P.info? e = some i) (hs : i.size = s) (hf : ∀ x, (f x).length = s)
    {w : World} {a : Option Addr} {n c : Nat} {l : List α} (h : InSl w s (.slice a n c) n (l.flatMap f)) (hl : l.length = n) {k : Nat} (hk : k < n) :
    ∃ g o x, (∀ w', (Instr.indexAt t (.slice a n c) (.int .i64 k)).run P w' = .ok (.pointer (some ⟨g, o, none⟩)) w') ∧ g < w.heap.size ∧ l[k]? = some x ∧ ∀ j u, (f x)[j]? = some u → w.cell? ⟨g, o + j, none⟩ = some u :=
  IsSl.atF ht hi hs hf (h.pos (by omega)) hl hk
end
/-- 'append(s, x..)' of at least one element onto a slice of the call's own, as one step of a region that draws its order. -/
theorem step_append_own {P : Program} {ops : Array Oper} {o : Oper} {a : Act} {w : World} {K : Act → World → Prop} {Q : Exit → Act → World → Prop} {E : Prop}
    (hg : o.guard = none) (s x : Operand) (t : TypeId) (hop : o.op = Op.call { callee := Callee.builtin Builtin.append, args := #[s, x], argTypes := #[t, t] })
    (base e size bytes : Nat) (i : TypeInfo) (z : Value) (ht : P.underlying t = some (.slice e)) (hi : P.info? e = some i) (hz : i.zero = some z)
    (hsize : i.size = size) (hby : i.bytes = bytes) (hzs : z.cells.size = size)
    (v : Value) (n : Nat) (xs : List Value) (hown : w.ownsRow base e size v n xs) (ad : Addr) (m c : Nat) (news : List Value) (hs : a.eval s = v) (hx : a.eval x = .slice (some ad) m c)
    (hl : news.length = m * size) (hnews : ∀ j u, news[j]? = some u → w.cell? (ad.add j) = some u) (h1 : ∀ u ∈ news, u.oneCell' = true) (hm0 : 0 < m)
    (h63 : n + m ≤ maxLen) (hbytes : (n + m) * bytes ≤ 140737488355328) (hbase : base ≤ w.heap.size)
    (hK : ∀ g cap w', w'.ownsRow base e size (.slice (some ⟨g, 0, none⟩) (n + m) cap) (n + m) (xs ++ news) → g < w'.heap.size → ((v.ownBlock = some g ∧ w.grownBy w' (some g)) ∨ (g = w.heap.size ∧ w.grownBy w' none)) →
      K (a.put o.dst (.slice (some ⟨g, 0, none⟩) (n + m) cap)) w') :
    if Region.wanted o (yielded ops a.tmps) = true then Oper.wp P o a w K Q else E := by
  have hw : Region.wanted o (yielded ops a.tmps) = true := by simp [Region.wanted, hg]
  rw [if_pos hw]
  obtain ⟨g, cap, w', hr, h2, h3, h4⟩ := run_append_two (P := P) w base t o.type e i z size bytes ht hi hz hsize hby hzs v n xs hown ad m c news hl hnews h1 hm0 h63 hbytes hbase
  have := hK g cap w' h2 h3 h4
  unfold Oper.wp execOp
  simp only [hop, resolve, invoke, builtin, Sem.run_bind, Sem.run_pure, Result.andThen_ok, List.map_toArray, List.map_cons, List.map_nil, hs, hx, hr]
  exact this
/-- The cells of a new block. -/
theorem news_new {w : World} {cs : Array Value} {t : TypeId} : ∀ j u, cs.toList[j]? = some u → (w.alloc (.cells cs t)).cell? ((⟨w.heap.size, 0, none⟩ : Addr).add j) = some u :=
  World.news_of_block (cs := cs) (t := t) (fr := (0, 0)) (heap_alloc_new w _)
theorem grown_either {w w1 : World} {v : Value} {g : Nat} (h : (v.ownBlock = some g ∧ w.grownBy w1 (some g)) ∨ (g = w.heap.size ∧ w.grownBy w1 none)) : w.grownBy w1 v.ownBlock := by
  rcases h with ⟨h1, h2⟩ | ⟨_, h2⟩
  · rw [h1]; exact h2
  · exact ⟨h2.os, h2.tape, h2.output, h2.size, fun k hk _ => h2.block k hk (by simp)⟩
theorem cell_lt {w : World} {g o : Nat} {x : Value} (h : w.cell? ⟨g, o, none⟩ = some x) : g < w.heap.size := by simpa using World.block_lt_of_cell? w _ h
theorem cell_grown {w w1 : World} {g o : Nat} {row : Option Nat} {x : Value} (hg : w.grownBy w1 row) (hne : row ≠ some g) (h : w.cell? ⟨g, o, none⟩ = some x) : w1.cell? ⟨g, o, none⟩ = some x := by
  rw [World.cell?_of_block (w := w) (hg.block g (cell_lt h) hne.symm)]; exact h
theorem grown_alloc {w w1 : World} {o : Obj} {row : Option Nat} (h : (w.alloc o).grownBy w1 row) : w.grownBy w1 row :=
  ⟨h.os, h.tape, h.output, Nat.le_trans (by simp) h.size, fun k hk hne => by rw [h.block k (by simp; omega) hne]; exact heap_alloc_old w _ hk⟩
theorem grown_drew1 {w w1 : World} {row : Option Nat} (h : w.drew.grownBy w1 row) : w.grownBy w1 row := ⟨h.os, h.tape, h.output, h.size, h.block⟩
theorem below_un {B : Nat} {a w : World} {n : Nat} (h : Below B a (w.drewN n)) : Below B a w := ⟨h.os, h.tape, h.output, h.size, h.block⟩
theorem below_undrew {B : Nat} {a w : World} (h : Below B a w.drew) : Below B a w := ⟨h.os, h.tape, h.output, h.size, h.block⟩
theorem cell_un {w : World} {a b : Nat} {p : Addr} {x : Option Value} (h : (w.drewN a).cell? p = x) : (w.drewN b).cell? p = x := h
theorem bcell {W w1 : World} (hb : Below W.heap.size W w1) : (∀ b o, b < W.heap.size → w1.cell? ⟨b, o, none⟩ = W.cell? ⟨b, o, none⟩) ∧ (∀ b o, b < W.heap.size → w1.frozen? ⟨b, o, none⟩ = W.frozen? ⟨b, o, none⟩) :=
  ⟨fun b o h => hb.cell (p := ⟨b, o, none⟩) h, fun b o h => hb.frozen (p := ⟨b, o, none⟩) h⟩
/-- 'append(s, x)' of one element, laid and appended, where both are wanted (a guard that holds). -/
theorem wpList_push_w {P : Program} {ops : Array Oper} {Q : Exit → Act → World → Prop} {a : Act} {w : World} {rest : List Oper} {o1 o2 : Oper}
    (hw1 : Region.wanted o1 (yielded ops a.tmps) = true) (d1 : Tmp) (hd1 : o1.dst = some d1) (hw2 : Region.wanted o2 (yielded ops (a.put (some d1) (.slice (some ⟨w.heap.size, 0, none⟩) 1 1)).tmps) = true) (t : TypeId) (s x : Operand)
    (ho1 : o1.op = .buildSlice t 1 #[(0, x)]) (ho2 : o2.op = .call { callee := .builtin .append, args := #[s, .tmp d1], argTypes := #[t, t] })
    (base e size bytes : Nat) (i : TypeInfo) (z : Value) (ht : P.underlying t = some (.slice e)) (hi : P.info? e = some i) (hz : i.zero = some z)
    (hsize : i.size = size) (hby : i.bytes = bytes) (hzs : z.cells.size = size) (hsz : 0 < size) (hs24 : size ≤ 16777216)
    (v : Value) (n : Nat) (xs : List Value) (hown : w.ownsRow base e size v n xs) (hbase : base ≤ w.heap.size)
    (y : Value) (hx : a.eval x = y) (hys : y.cells.size = size) (h1 : ∀ u ∈ y.cells.toList, u.oneCell' = true)
    (hs : (a.put (some d1) (.slice (some ⟨w.heap.size, 0, none⟩) 1 1)).eval s = v)
    (hd : (a.put (some d1) (.slice (some ⟨w.heap.size, 0, none⟩) 1 1)).eval (.tmp d1) = .slice (some ⟨w.heap.size, 0, none⟩) 1 1)
    (h63 : n + 1 ≤ maxLen) (hbytes : (n + 1) * bytes ≤ 140737488355328)
    (h : ∀ g cap w', w'.ownsRow base e size (.slice (some ⟨g, 0, none⟩) (n + 1) cap) (n + 1) (xs ++ y.cells.toList) → g < w'.heap.size →
      ((v.ownBlock = some g ∧ w.grownBy w' (some g)) ∨ (w.heap.size ≤ g ∧ w.grownBy w' none)) →
      wpList P ops Q rest ((a.put (some d1) (.slice (some ⟨w.heap.size, 0, none⟩) 1 1)).put o2.dst (.slice (some ⟨g, 0, none⟩) (n + 1) cap)) w') : wpList P ops Q (o1 :: o2 :: rest) a w := by
  refine wpList_step fun K hK => ?_
  rw [if_pos hw1]
  have hrun := run_buildOne (P := P) ht hi hz hsize hsz hs24 y hys w
  have step : ∀ {w' : World} {row : Option Nat}, (w.alloc (.cells y.cells e)).grownBy w' row → w.grownBy w' row := fun hgr =>
    ⟨hgr.os, hgr.tape, hgr.output, Nat.le_trans (by simp) hgr.size, fun k hk hne => by rw [hgr.block k (by simp; omega) hne]; exact heap_alloc_old w _ hk⟩
  have key : wpList P ops Q (o2 :: rest) (a.put (some d1) (.slice (some ⟨w.heap.size, 0, none⟩) 1 1)) (w.alloc (.cells y.cells e)) := by
    refine wpList_step fun K hK => ?_
    rw [if_pos hw2]
    obtain ⟨g, cap, w', hr, h2, h3, h4⟩ := run_append_two (P := P) (w.alloc (.cells y.cells e)) base t o2.type e i z size bytes ht hi hz hsize hby hzs v n xs (hown.alloc _) ⟨w.heap.size, 0, none⟩ 1 1 y.cells.toList (by simpa using hys)
      (World.news_of_block (cs := y.cells) (t := e) (fr := (0, 0)) (heap_alloc_new w _)) h1 (by omega) h63 hbytes (by simp; omega)
    have := hK _ _ (h g cap w' h2 h3 (h4.imp (fun x => ⟨x.1, step x.2⟩) (fun x => ⟨by have := x.1; simp at this; omega, step x.2⟩)))
    unfold Oper.wp execOp
    simp only [ho2, resolve, invoke, builtin, Sem.run_bind, Sem.run_pure, Result.andThen_ok, List.map_toArray, List.map_cons, List.map_nil, hs, hd, hr]
    exact this
  have := hK _ _ (hd1 ▸ key)
  simpa [Oper.wp, Oper.upon, execOp, ho1, hx, hrun] using this
end Go.Proofs.YtdepiggjneoopaaGreatDoor
