/- a part of the proof of the last text -/
import Derived.Test.YtjeedckmkicnoaaGreatDoorZMSz
namespace Go.Proofs.YtjeedckmkicnoaaGreatDoor
set_option linter.all false
set_option maxHeartbeats 4000000
set_option maxRecDepth 100000
open Go.RowKit
def isSrc (x : El) : Bool := x.kind == 4 || x.kind == 5
def setV (x : El) (v : Nat) : El := { x with val := v }
/-- An element, its Value changed if it is a source. -/
def chg (f : Nat → Nat) (x : El) : El := if isSrc x = true then setV x (f (fc x.val)) else x
/-- The elements, the sources of the first k changed. -/
def mixS (f : Nat → Nat) (l : List El) (k : Nat) : List El := (l.take k).map (chg f) ++ l.drop k
theorem mix_len (f : Nat → Nat) (l : List El) (k : Nat) : (mixS f l k).length = l.length := by
  unfold mixS; rw [List.length_append, List.length_map, List.length_take, List.length_drop]; omega
theorem mix_zero (f : Nat → Nat) (l : List El) : mixS f l 0 = l := by simp [mixS]
theorem mix_all (f : Nat → Nat) (l : List El) : mixS f l l.length = l.map (chg f) := by simp [mixS]
theorem mix_at {f : Nat → Nat} {l : List El} {k : Nat} {x : El} (h : l[k]? = some x) : (mixS f l k)[k]? = some x := by
  have hk := (List.getElem?_eq_some_iff.1 h).1
  unfold mixS
  rw [List.getElem?_append_right (by rw [List.length_map, List.length_take]; omega), List.length_map, List.length_take, List.getElem?_drop, show k + (k - min k l.length) = k by omega]
  exact h
theorem mix_next {f : Nat → Nat} {l : List El} {k : Nat} {x : El} (h : l[k]? = some x) : mixS f l (k + 1) = (mixS f l k).set k (chg f x) := by
  obtain ⟨hk, hx⟩ := List.getElem?_eq_some_iff.1 h
  unfold mixS
  rw [List.take_succ_eq_append_getElem hk, List.map_append, List.set_append_right _ _ (by rw [List.length_map, List.length_take]; omega), List.length_map, List.length_take, show k - min k l.length = 0 by omega, List.drop_eq_getElem_cons hk, hx]
  simp
theorem mix_same {f : Nat → Nat} {l : List El} {k : Nat} {x : El} (h : l[k]? = some x) (hs : isSrc x = false) : mixS f l (k + 1) = mixS f l k := by
  rw [mix_next h]
  have h2 := mix_at (f := f) h
  have hc : chg f x = x := by unfold chg; rw [if_neg (by rw [hs]; simp)]
  rw [hc]
  apply List.ext_getElem?
  intro i
  rw [List.getElem?_set]
  by_cases hi : k = i
  · subst hi
    rw [if_pos rfl, if_pos (List.getElem?_eq_some_iff.1 h2).1, h2]
  · rw [if_neg hi]
theorem setV_cells (x : El) (v : Nat) : ea (setV x v) = (ea x).set 6 (.float .f64 v) := rfl
theorem flat_setV {l : List El} {k : Nat} {x : El} (h : l[k]? = some x) (v : Nat) : (l.set k (setV x v)).flatMap ea = (l.flatMap ea).set (k * 8 + 6) (.float .f64 v) := by
  induction l generalizing k with
  | nil => simp at h
  | cons y l ih =>
    cases k with
    | zero =>
      obtain rfl : y = x := by simpa using h
      rw [List.set_cons_zero, List.flatMap_cons, List.flatMap_cons, setV_cells, Nat.zero_mul, Nat.zero_add, List.set_append_left _ _ (by simp [ea])]
    | succ k =>
      have h2 : l[k]? = some x := by simpa using h
      rw [List.set_cons_succ, List.flatMap_cons, ih h2, List.flatMap_cons, List.set_append_right _ _ (by simp [ea]; omega)]
      congr 2
      simp [ea]; omega
theorem own_put8 {w : World} {B e n g j : Nat} {v u : Value} {xs : List Value} (h : w.ownsRow B e 8 v n xs) (hv : v.ownBlock = some g) (hj : j < n * 8) : (w.setCell ⟨g, j, none⟩ u).ownsRow B e 8 v n (xs.set j u) := by
  obtain ⟨hl, h⟩ := h
  refine ⟨by rw [List.length_set]; exact hl, ?_⟩
  rcases h with ⟨rfl, rfl⟩ | ⟨g', cap, cur, rfl, hg, hb, hn, hc, hs, ht⟩
  · cases hv
  · cases hv
    refine .inr ⟨_, cap, cur.setIfInBounds j u, rfl, hg, blk_set hb u, hn, hc, by rw [Array.size_setIfInBounds]; exact hs, ?_⟩
    rw [Array.toList_setIfInBounds, ← ht, List.take_set]
theorem own_atF {P : Program} {t e : TypeId} {i : TypeInfo} (ht : P.underlying t = some (.slice e)) (hi : P.info? e = some i) (hs : i.size = 8)
    {w : World} {B n c g : Nat} {l : List El} (h : w.ownsRow B e 8 (.slice (some ⟨g, 0, none⟩) n c) n (l.flatMap ea)) (hl : l.length = n) {k : Nat} {x : El} (hx : l[k]? = some x) :
    (∀ w', (Instr.indexAt t (.slice (some ⟨g, 0, none⟩) n c) (.int .i64 k)).run P w' = .ok (.pointer (some ⟨g, k * 8, none⟩)) w') ∧ (∀ j u, (ea x)[j]? = some u → w.cell? ⟨g, k * 8 + j, none⟩ = some u) ∧ ∀ j, w.frozen? ⟨g, j, none⟩ = false := by
  obtain ⟨g', o, y, h1, _, h3, h4⟩ := IsSl.atF ht hi hs ea_len (IsSl.of_own h) hl (k := k) (by have := (List.getElem?_eq_some_iff.1 hx).1; omega)
  obtain rfl : y = x := Option.some.inj (h3.symm.trans hx)
  have hk := (List.getElem?_eq_some_iff.1 hx).1
  have he : P.elem t = e := by simp [Program.elem, ht]
  refine ⟨fun w' => ?_, fun j u hu => ?_, fun j => ?_⟩
  · rw [run_indexAt_slice w' t _ n c .i64 k (by rw [he]; exact ht), if_pos ⟨by omega, by omega⟩, he]
    simp [sizeOf, typeInfo, hi, hs, Result.andThen, Addr.add]
    try (intro h; exact h.symm)
  · have h5 := (IsSl.of_own h).2
    rcases h5 with ⟨h6, _⟩ | ⟨g2, off, c', hv, hc, hg, hcell⟩
    · cases h6
    · cases hv
      have hj : j < 8 := by rw [← ea_len y]; exact (List.getElem?_eq_some_iff.1 hu).1
      have hkn : k < n := by omega
      have := hcell (k * 8 + j) (by omega)
      rw [Nat.zero_add] at this
      rw [this, flat_get ea_len l k j hj, hx]; exact hu
  · rcases h.2 with ⟨h6, _⟩ | ⟨g2, cap, cur, hv, hg, hb, _⟩
    · cases h6
    · cases hv
      simp [World.frozen?, hb]
/-- What is made of a net's elements by a change of its sources' Values: the elements, or none: one is not finite. -/
def srcsS (f : Nat → Nat) (l : List El) : Bool := l.all fun x => !isSrc x || ffin (f (fc x.val))
theorem setV_nds (f : Nat → Nat) (l : List El) (acc : List ByteArray) : (l.map (chg f)).foldl nd4 acc = l.foldl nd4 acc := by
  induction l generalizing acc with
  | nil => rfl
  | cons x l ih =>
    rw [List.map_cons, List.foldl_cons, List.foldl_cons, ih]
    congr 1
    unfold chg nd4
    split <;> rfl
theorem chg_nds (f : Nat → Nat) (l : List El) : nds (l.map (chg f)) = nds l := setV_nds f l []
theorem chg_same (f : Nat → Nat) (x : El) : (chg f x).kind = x.kind ∧ (chg f x).name = x.name ∧ (chg f x).a = x.a ∧ (chg f x).b = x.b ∧ (chg f x).c = x.c ∧ (chg f x).d = x.d ∧ (chg f x).ph = x.ph := by
  unfold chg setV; split <;> exact ⟨rfl, rfl, rfl, rfl, rfl, rfl, rfl⟩
theorem chg_brs (f : Nat → Nat) (l : List El) : brs (l.map (chg f)) = brs l := by
  unfold brs
  induction l with
  | nil => rfl
  | cons x l ih =>
    have hk : isBr (chg f x) = isBr x := by unfold isBr; rw [(chg_same f x).1]
    rw [List.map_cons, List.filter_cons, List.filter_cons, hk]
    split
    · rw [List.map_cons, List.map_cons, ih, (chg_same f x).2.1]
    · exact ih
theorem chg_named (f : Nat → Nat) (l : List El) (s : ByteArray) : named (l.map (chg f)) s = named l s := by
  unfold named
  rw [List.any_map]
  congr 1
  funext x
  show ((chg f x).name.toList == s.toList) = _
  rw [(chg_same f x).2.1]
theorem fop_lt (op : BinOp) (x y : Nat) : fop op x y < 18446744073709551616 := by
  have key : ∀ o : Option Ieee.Datum, (∀ d, o = some d → d.isNaN = false) → (o.map Ieee.double.write).getD qnan < 18446744073709551616 := by
    intro o ho
    cases o with
    | none => decide
    | some d =>
      have hi : Ieee.double.infRung = 9218868437227405312 := by decide
      have hw : ∀ (s : Bool) (r : Nat), r ≤ Ieee.double.infRung → Ieee.double.word s r < 18446744073709551616 := by
        intro s r hr
        rw [hi] at hr
        cases s <;> simp [Ieee.Format.word, Ieee.Format.signWeight, Ieee.double] <;> omega
      cases d with
      | nan => have := ho _ rfl; cases this
      | infinity s => exact hw s _ (Nat.le_refl _)
      | number s m e =>
        obtain ⟨r, hr, he⟩ := nearest_le s m e
        show Ieee.double.nearest s m e < _
        rw [he]; exact hw s r hr
  unfold fop floatBits
  cases op <;> first | exact key _ (fun _ => sum_not_nan) | exact key _ (fun _ => product_not_nan) | exact key _ (fun _ => quotient_not_nan) | (show qnan < _; decide)
theorem fsize_word {x : Nat} (h : ffin x = true) : kindF x ≤ 2 := by
  have h2 := ffin_fin h
  unfold FV.fin at h2
  have h3 := of_decide_eq_true h2
  unfold kindF kindZ fsize
  have e1 : (2 : Nat) ^ 63 = 9223372036854775808 := by decide
  have e2 : 2047 * (2 : Nat) ^ 52 = 9218868437227405312 := by decide
  rw [e1, e2] at h3
  split
  · decide
  · split
    · decide
    · split
      · decide
      · omega
theorem chg_check {f : Nat → Nat} {x : El} (h : checkE x = 0) (hs : isSrc x = false ∨ ffin (f (fc x.val)) = true) : checkE (chg f x) = 0 := by
  by_cases hsr : isSrc x = true
  · have hf : ffin (f (fc x.val)) = true := by rcases hs with h1 | h1; rw [hsr] at h1; cases h1; exact h1
    have hk : kAb x.kind = false := by
      unfold isSrc at hsr
      simp only [Bool.or_eq_true, beq_iff_eq] at hsr
      rcases hsr with h1 | h1 <;> rw [h1] <;> rfl
    have e : chg f x = setV x (f (fc x.val)) := by unfold chg; rw [if_pos hsr]
    have en : nameBad (chg f x) = nameBad x := by rw [e]; rfl
    have ea : argBad (chg f x) = argBad x := by rw [e]; rfl
    unfold checkE at h ⊢
    rw [(chg_same f x).1, en, ea, hk]
    rw [hk] at h
    have hv : (chg f x).val = f (fc x.val) := by rw [e]; rfl
    rw [hv]
    split at h
    · rename_i h1
      rw [if_pos h1]
      split at h
      · cases h
      · rename_i h2
        rw [if_neg h2]
        split at h
        · cases h
        · rename_i h3
          rw [if_neg h3, if_neg (by have := fsize_word hf; omega)]
          rfl
    · cases h
  · have e : chg f x = x := by unfold chg; rw [if_neg hsr]
    rw [e]; exact h
theorem first_none {l : List El} : ∀ {r : List El} {k : Nat}, firstBad l k r = none → ∀ (j : Nat) (e : El), r[j]? = some e → bad1 l (k + j) e = 0
  | [], _, _, _, _, h => by simp at h
  | x :: r, k, h, 0, e, he => by
    obtain rfl : x = e := by simpa using he
    unfold firstBad at h
    split at h
    · rename_i h0; exact h0
    · cases h
  | x :: r, k, h, j + 1, e, he => by
    unfold firstBad at h
    split at h
    · have := first_none h j e (by simpa using he)
      rwa [show k + 1 + j = k + (j + 1) by omega] at this
    · cases h
theorem ofL_parts {l : List El} (h : (ofL l).1 = true) : ¬ 256 < l.length ∧ (∀ (j : Nat) (e : El), l[j]? = some e → bad1 l j e = 0) ∧ ¬ (32 < (nds l).length ∨ 64 < (nds l).length + (brs l).length) := by
  unfold ofL at h
  split at h
  · cases h
  · rename_i h1
    split at h
    · cases h
    · rename_i h2
      split at h
      · cases h
      · rename_i h3
        exact ⟨h1, fun j e he => by have := first_none h2 j e he; rwa [Nat.zero_add] at this, h3⟩
/-- With other Values of its sources a net is a net. -/
theorem ofL_chg {f : Nat → Nat} {l : List El} (h : (ofL l).1 = true) (hs : srcsS f l = true) : (ofL (l.map (chg f))).1 = true := by
  obtain ⟨h1, h2, h3⟩ := ofL_parts h
  rw [ofL_good (by rw [List.length_map]; exact h1) (fun j e he => ?_), chg_nds, chg_brs, if_neg h3]
  rw [List.getElem?_map] at he
  obtain ⟨x, hx, rfl⟩ := Option.map_eq_some_iff.1 he
  have hb := h2 j x hx
  unfold bad1 at hb ⊢
  rw [← List.map_take, (chg_same f x).2.1, chg_named]
  have hck : checkE x = 0 := by split at hb <;> assumption
  have hsx : isSrc x = false ∨ ffin (f (fc x.val)) = true := by
    have := List.all_eq_true.1 hs x (List.mem_of_getElem? hx)
    simpa using this
  rw [chg_check hck hsx, if_pos rfl]
  rw [hck, if_pos rfl] at hb
  exact hb
theorem chg_ok {f : Nat → Nat} {x : El} (h : x.Ok) (hf : f (fc x.val) < 18446744073709551616) : (chg f x).Ok := by
  unfold chg
  split
  · exact ⟨h.name, h.a, h.b, h.c, h.d, hf⟩
  · exact h
theorem srcs_take {f : Nat → Nat} {l : List El} {k : Nat} {x : El} (h : l[k]? = some x) (hk : srcsS f (l.take k) = true) (hx : isSrc x = false ∨ ffin (f (fc x.val)) = true) : srcsS f (l.take (k + 1)) = true := by
  obtain ⟨hk2, e⟩ := List.getElem?_eq_some_iff.1 h
  unfold srcsS at *
  rw [List.take_succ_eq_append_getElem hk2, List.all_append, hk, e]
  simpa using hx
theorem srcs_no {f : Nat → Nat} {l : List El} {k : Nat} {x : El} (h : l[k]? = some x) (hs : isSrc x = true) (hx : ffin (f (fc x.val)) = false) : srcsS f l = false := by
  unfold srcsS
  rw [List.all_eq_false]
  exact ⟨x, List.mem_of_getElem? h, by simp [hs, hx]⟩
theorem srcv_ways (k : Int) : (k = 4 ∧ (k != 4) = false ∧ (k == 4) = true) ∨ (k = 5 ∧ (k != 4) = true ∧ (k == 4) = false ∧ (k != 5) = false ∧ (k == 5) = true) ∨ ((k != 4) = true ∧ (k == 4) = false ∧ (k != 5) = true ∧ (k == 5) = false) := by
  by_cases h1 : k = 4
  · subst h1; exact .inl ⟨rfl, rfl, rfl⟩
  · by_cases h2 : k = 5
    · subst h2; exact .inr (.inl ⟨rfl, rfl, rfl, rfl, rfl⟩)
    · exact .inr (.inr ⟨by simpa using h1, by simpa using h1, by simpa using h2, by simpa using h2⟩)
end Go.Proofs.YtjeedckmkicnoaaGreatDoor
