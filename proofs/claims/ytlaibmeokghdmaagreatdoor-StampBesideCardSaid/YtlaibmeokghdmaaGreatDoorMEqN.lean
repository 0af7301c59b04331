/- An element more between nodes that a net has: its matrix is the net's, into which the element's own numbers were stamped. No function of the program is named here. -/
import Derived.Test.YtlaibmeokghdmaaGreatDoorNegR
import Derived.Test.YtlaibmeokghdmaaGreatDoorMNl
import Derived.Test.YtlaibmeokghdmaaGreatDoorMat
import Derived.Test.YtlaibmeokghdmaaGreatDoorNumbers2
namespace Go.Proofs.YtlaibmeokghdmaaGreatDoor

section
open Go.RowKit

theorem nd1_pre (acc : List ByteArray) (s : ByteArray) : ∃ r, nd1 acc s = acc ++ r := by
  unfold nd1
  split
  · exact ⟨[], by simp⟩
  · exact ⟨[s], rfl⟩
theorem fold_pre : ∀ (r acc : List ByteArray), ∃ t, r.foldl nd1 acc = acc ++ t
  | [], acc => ⟨[], by simp⟩
  | s :: r, acc => by
    obtain ⟨t, ht⟩ := fold_pre r (nd1 acc s)
    obtain ⟨u, hu⟩ := nd1_pre acc s
    exact ⟨u ++ t, by rw [List.foldl_cons, ht, hu, List.append_assoc]⟩
theorem nds_more (l : List El) (e : El) : ∃ t, nds (l ++ [e]) = nds l ++ t := by
  unfold nds
  rw [List.foldl_append]
  exact fold_pre (fr e) _
theorem brs_plain {l : List El} {e : El} (h : isBr e = false) : brs (l ++ [e]) = brs l := by
  unfold brs
  rw [List.filter_append]
  simp [h]
theorem nds_order {l : List El} {e : El} (h : isBr e = false) (hs : szL (l ++ [e]) = szL l) : nds (l ++ [e]) = nds l := by
  obtain ⟨t, ht⟩ := nds_more l e
  unfold szL at hs
  rw [brs_plain h, ht, List.length_append] at hs
  have : t = [] := List.eq_nil_of_length_eq_zero (by omega)
  rw [ht, this, List.append_nil]
theorem row_same {l m : List El} {s : ByteArray} (h : nds m = nds l) : rowI m s = rowI l s := by unfold rowI; rw [h]
theorem step_same {l m : List El} {om : Nat} {f : Nat → Cx} {x : El} (h : nds m = nds l) (h2 : brs m = brs l) : stStep m om f x = stStep l om f x := by
  have hr : ∀ s, rowI m s = rowI l s := fun s => row_same h
  have hb : ∀ s, brI m s = brI l s := fun s => by unfold brI; rw [h, h2]
  have hz : szL m = szL l := by unfold szL; rw [h, h2]
  have ho : ∀ y, stOf m x y = stOf l x y := fun y => by unfold stOf; simp only [hr, hb]
  unfold stStep
  simp only [hz, ho]
theorem matK_more {l : List El} {e : El} {om : Nat} (h : nds (l ++ [e]) = nds l) (h2 : brs (l ++ [e]) = brs l) : ∀ k, k ≤ l.length → matK (l ++ [e]) om k = matK l om k
  | 0, _ => rfl
  | k + 1, hk => by
    have hx : l[k]? = some l[k] := List.getElem?_eq_getElem (by omega)
    have hx2 : (l ++ [e])[k]? = some l[k] := by rw [List.getElem?_append_left (by omega)]; exact hx
    rw [matK_succ hx, matK_succ hx2, matK_more h h2 k (by omega), step_same h h2]
theorem mat_ok {l : List El} {om : Nat} (h : (matS false l om).2 = (0, 0)) : angE om = 0 ∧ ∀ (i : Nat) (x : El), l[i]? = some x → (stStep l om (matK l om i) x).2 = 0 := by
  have ha : angE om = 0 := by
    by_cases h0 : angE om = 0
    · exact h0
    · rw [mat_ang h0] at h
      exact absurd (Prod.mk.inj h).1 h0
  refine ⟨ha, fun i => ?_⟩
  induction i using Nat.strongRecOn with
  | _ i ih =>
    intro x hx
    by_cases h0 : (stStep l om (matK l om i) x).2 = 0
    · exact h0
    · rw [mat_stop ha hx (fun j y hj hy => ih j hj y hy) h0] at h
      exact absurd (Prod.mk.inj h).1 h0
theorem st1_flag {n : Nat} {s : StS} {t : St} (h : (st1 n s t).2 = false) : s.2 = false := by
  by_cases hc : t.i < 0 ∨ t.j < 0
  · rwa [st1_no hc] at h
  · rw [st1_yes hc] at h
    simp at h
    exact h.1
theorem fold_flag {n : Nat} : ∀ (r : List St) (s : StS), (r.foldl (st1 n) s).2 = false → s.2 = false
  | [], _, h => h
  | t :: r, s, h => st1_flag (fold_flag r (st1 n s t) h)
theorem fold_fin {n : Nat} : ∀ (r : List St) (s : StS), (r.foldl (st1 n) s).2 = false → (∀ p, cfin (s.1 p) = true) → ∀ p, cfin ((r.foldl (st1 n) s).1 p) = true
  | [], _, _, h => h
  | t :: r, s, h, hs => by
    refine fold_fin r (st1 n s t) h fun p => ?_
    have h1 := fold_flag r (st1 n s t) h
    by_cases hc : t.i < 0 ∨ t.j < 0
    · rw [st1_no hc]; exact hs p
    · rw [st1_yes hc] at h1 ⊢
      simp at h1
      show cfin (upd _ _ _ p) = true
      unfold upd
      split
      · exact h1.2
      · exact hs p
theorem step_fin {l : List El} {om : Nat} {m : Nat → Cx} {x : El} (h : (stStep l om m x).2 = 0) (hm : ∀ p, cfin (m p) = true) : ∀ p, cfin ((stStep l om m x).1 p) = true := by
  unfold stStep at *
  split
  · exact hm
  · rename_i hc
    rw [if_neg hc] at h
    dsimp only at h ⊢
    split at h
    · cases h
    · rename_i hf
      exact fold_fin _ _ (by simpa using hf) hm
theorem matK_fin {l : List El} {om : Nat} (h : ∀ (i : Nat) (x : El), l[i]? = some x → (stStep l om (matK l om i) x).2 = 0) : ∀ k p, cfin (matK l om k p) = true
  | 0, _ => (by decide +kernel : cfin cZero = true)
  | k + 1, p => by
    cases hx : l[k]? with
    | none => simp only [matK, hx]; exact matK_fin h k p
    | some x => rw [matK_succ hx]; exact step_fin (h k x hx) (matK_fin h k) p
/-- A complex number's opposite. -/
def cneg (y : Cx) : Cx := (fneg y.1, fneg y.2)
theorem fop_right (op : BinOp) (x y : Nat) : fop op x (fc y) = fop op x y := by
  rw [← fop_fc op x y, ← fop_fc op x (fc y), fc_fc]
theorem fsub_neg (a b : Nat) : fsub a b = fadd a (fneg b) := by
  unfold fneg fadd
  rw [fop_right]
  unfold fsub fop floatBits
  show (FV.dbl.sub a b).getD qnan = (FV.dbl.add a (Op.negFloat .f64 b)).getD qnan
  unfold Ieee.Format.sub Ieee.Format.add
  rw [read_neg]
theorem csub_neg (z y : Cx) : csub z y = cadd z (cneg y) := by unfold csub cadd cneg; rw [fsub_neg, fsub_neg]
theorem ck_neg (r s : Nat) : ck (Op.negFloat .f64 r, Op.negFloat .f64 s) = cneg (ck (r, s)) := by
  show (fc _, fc _) = (fneg (fc r), fneg (fc s))
  rw [fc_neg, fc_neg]
/-- A matrix' numbers, row by row. -/
def Dm (n : Nat) (f : Nat → Cx) : List Cx := (List.range (n * n)).map f
theorem dm_len (n : Nat) (f : Nat → Cx) : (Dm n f).length = n * n := by unfold Dm; simp
theorem dm_get {n p : Nat} {f : Nat → Cx} (h : p < n * n) : (Dm n f).getD p (0, 0) = f p := by
  unfold Dm
  rw [List.getD_eq_getElem?_getD, List.getElem?_map, List.getElem?_range h]; rfl
theorem map_set_upd (k p : Nat) (f : Nat → Cx) (z : Cx) : ((List.range k).map f).set p z = (List.range k).map (upd f p z) := by
  apply List.ext_getElem
  · simp
  · intro i h1 h2
    simp only [List.getElem_set, List.getElem_map, List.getElem_range]
    unfold upd
    by_cases e : p = i
    · rw [if_pos e, if_pos e.symm]
    · rw [if_neg e, if_neg (fun h => e h.symm)]
theorem dm_set {n p : Nat} {f : Nat → Cx} {z : Cx} : (Dm n f).set p z = Dm n (upd f p z) := map_set_upd _ _ _ _
theorem madd_dm {n i j : Nat} {f : Nat → Cx} {y : Cx} (hn : n ≤ 64) (hi : i < n) (hj : j < n) (hf : cfin (cadd (f (i * n + j)) y) = true) :
    madd n n (Dm n f) i j y = (((n : Int), (n : Int), Dm n (upd f (i * n + j) (cadd (f (i * n + j)) y))), 0) := by
  have hp : i * n + j < n * n := by have := Nat.mul_le_mul_right n (show i + 1 ≤ n from hi); rw [Nat.add_mul] at this; omega
  have hb : mbad n n (Dm n f).length = false := by rw [dm_len]; unfold mbad; simp; omega
  have hc : maddC n n i j = false := by unfold maddC; simp; omega
  have hq : (((i : Int) * (n : Int) + (j : Int))).toNat = i * n + j := by
    have : (i : Int) * (n : Int) + (j : Int) = ((i * n + j : Nat) : Int) := by simp
    rw [this, Int.toNat_natCast]
  unfold madd
  rw [if_neg (by rw [hb]; decide), if_neg (by rw [hc]; decide), hq, dm_get hp, if_pos hf, dm_set]
/-- One stamp, as stamp.Add does it. -/
theorem st_madd {n : Nat} {f : Nat → Cx} {t : St} (hn : n ≤ 64) (hi : t.i < n) (hj : t.j < n) (h : (st1 n (f, false) t).2 = false) :
    (0 ≤ t.i ∧ 0 ≤ t.j → madd n n (Dm n f) t.i t.j (if t.sub = true then cneg t.y else t.y) = (((n : Int), (n : Int), Dm n (st1 n (f, false) t).1), 0)) ∧ (t.i < 0 ∨ t.j < 0 → st1 n (f, false) t = (f, false)) := by
  refine ⟨fun hc => ?_, fun hc => st1_no hc⟩
  obtain ⟨i, hi2⟩ := Int.eq_ofNat_of_zero_le hc.1
  obtain ⟨j, hj2⟩ := Int.eq_ofNat_of_zero_le hc.2
  have hz : stZ n f t = cadd (f (i * n + j)) (if t.sub = true then cneg t.y else t.y) := by
    have hq : (t.i * (n : Int) + t.j).toNat = i * n + j := by
      rw [hi2, hj2]
      have : (i : Int) * (n : Int) + (j : Int) = ((i * n + j : Nat) : Int) := by simp
      rw [this, Int.toNat_natCast]
    unfold stZ
    rw [hq]
    split
    · rw [csub_neg]
    · rfl
  have hq : (t.i * (n : Int) + t.j).toNat = i * n + j := by
    rw [hi2, hj2]
    have : (i : Int) * (n : Int) + (j : Int) = ((i * n + j : Nat) : Int) := by simp
    rw [this, Int.toNat_natCast]
  rw [st1_yes (by omega)] at h ⊢
  dsimp only at h ⊢
  rw [hz] at h ⊢
  rw [hq, hi2, hj2]
  exact madd_dm hn (by omega) (by omega) (by simpa using h)
/-- The four stamps of a resistor. -/
theorem pair_stages {n : Nat} {i j : Int} {y : Cx} {m : Nat → Cx} (hn : n ≤ 64) (hi : i < n) (hj : j < n) (h : ((stPair i j y).foldl (st1 n) (m, false)).2 = false) :
    ∃ m1 m2 m3 m4 : Nat → Cx, ((stPair i j y).foldl (st1 n) (m, false)).1 = m4 ∧
      (0 ≤ i → madd n n (Dm n m) i i y = (((n : Int), (n : Int), Dm n m1), 0)) ∧ (i < 0 → m1 = m) ∧ (0 ≤ j → madd n n (Dm n m1) j j y = (((n : Int), (n : Int), Dm n m2), 0)) ∧ (j < 0 → m2 = m1) ∧
      (0 ≤ i ∧ 0 ≤ j → madd n n (Dm n m2) i j (cneg y) = (((n : Int), (n : Int), Dm n m3), 0)) ∧ (i < 0 ∨ j < 0 → m3 = m2) ∧ (0 ≤ i ∧ 0 ≤ j → madd n n (Dm n m3) j i (cneg y) = (((n : Int), (n : Int), Dm n m4), 0)) ∧ (i < 0 ∨ j < 0 → m4 = m3) := by
  have key : ∀ (f : Nat → Cx) (t : St), (st1 n (f, false) t).2 = false → st1 n (f, false) t = ((st1 n (f, false) t).1, false) := fun f t h => Prod.ext rfl h
  have f4 := h
  unfold stPair at f4
  simp only [List.foldl_cons, List.foldl_nil] at f4
  have f3 := st1_flag f4
  have f2 := st1_flag f3
  have f1 := st1_flag f2
  obtain ⟨m1, h1⟩ : ∃ m1, (st1 n (m, false) ⟨false, i, i, y⟩).1 = m1 := ⟨_, rfl⟩
  have e1 := key m ⟨false, i, i, y⟩ f1
  rw [h1] at e1
  rw [e1] at f2 f3 f4
  obtain ⟨m2, h2⟩ : ∃ m2, (st1 n (m1, false) ⟨false, j, j, y⟩).1 = m2 := ⟨_, rfl⟩
  have e2 := key m1 ⟨false, j, j, y⟩ f2
  rw [h2] at e2
  rw [e2] at f3 f4
  obtain ⟨m3, h3⟩ : ∃ m3, (st1 n (m2, false) ⟨true, i, j, y⟩).1 = m3 := ⟨_, rfl⟩
  have e3 := key m2 ⟨true, i, j, y⟩ f3
  rw [h3] at e3
  rw [e3] at f4
  obtain ⟨m4, h4⟩ : ∃ m4, (st1 n (m3, false) ⟨true, j, i, y⟩).1 = m4 := ⟨_, rfl⟩
  have s1 := st_madd (t := ⟨false, i, i, y⟩) hn hi hi (by rw [e1])
  have s2 := st_madd (t := ⟨false, j, j, y⟩) hn hj hj (by rw [e2])
  have s3 := st_madd (t := ⟨true, i, j, y⟩) hn hi hj (by rw [e3])
  have s4 := st_madd (t := ⟨true, j, i, y⟩) hn hj hi f4
  rw [h1] at s1
  rw [h2] at s2
  rw [h3] at s3
  rw [h4] at s4
  refine ⟨m1, m2, m3, m4, ?_, fun h => s1.1 ⟨h, h⟩, fun h => ?_, fun h => s2.1 ⟨h, h⟩, fun h => ?_, fun h => s3.1 h, fun h => ?_, fun h => s4.1 ⟨h.2, h.1⟩, fun h => ?_⟩
  · unfold stPair
    simp only [List.foldl_cons, List.foldl_nil]
    rw [e1, e2, e3, h4]
  · rw [← h1, s1.2 (.inl h)]
  · rw [← h2, s2.2 (.inl h)]
  · rw [← h3, s3.2 h]
  · rw [← h4, s4.2 h.symm]
theorem row_ge {l : List El} {s : ByteArray} : (has (nds l) s = true → 0 ≤ rowI l s ∧ rowI l s = plI (nds l) s) ∧ (has (nds l) s = false → rowI l s < 0) := by
  unfold rowI
  refine ⟨fun h => ?_, fun h => ?_⟩
  · rw [if_pos h]
    refine ⟨?_, rfl⟩
    unfold plI
    rw [if_pos h]
    exact Int.natCast_nonneg _
  · rw [if_neg (by rw [h]; decide)]; decide
/-- The whole law. -/
theorem beside_law {l : List El} {e : El} {om : Nat} (hb : isBr e = false) (hk : e.kind = 1 ∨ e.kind = 8) (hs : szL (l ++ [e]) = szL l) (h1 : (matS false l om).2 = (0, 0)) (h2 : (matS false (l ++ [e]) om).2 = (0, 0)) :
    ∃ m : Nat → Cx, (matS false l om).1 = (szL l, Dm (szL l) m) ∧ ffin (fdiv fone (fc e.val)) = true ∧
      (matS false (l ++ [e]) om).1 = (szL l, Dm (szL l) ((stPair (rowI l e.a) (rowI l e.b) (fdiv fone (fc e.val), fc 0)).foldl (st1 (szL l)) (m, false)).1) ∧
      ((stPair (rowI l e.a) (rowI l e.b) (fdiv fone (fc e.val), fc 0)).foldl (st1 (szL l)) (m, false)).2 = false ∧
      ∀ p, cfin (((stPair (rowI l e.a) (rowI l e.b) (fdiv fone (fc e.val), fc 0)).foldl (st1 (szL l)) (m, false)).1 p) = true := by
  have hn := nds_order hb hs
  have hbr : brs (l ++ [e]) = brs l := brs_plain hb
  obtain ⟨ha, k1⟩ := mat_ok h1
  obtain ⟨_, k2⟩ := mat_ok h2
  have hla : (l ++ [e])[l.length]? = some e := by simp
  have hlast := k2 l.length e hla
  rw [matK_more hn hbr l.length (Nat.le_refl _), step_same hn hbr] at hlast
  have had : isAd e = true := by unfold isAd; rcases hk with h | h <;> rw [h] <;> rfl
  have hk4 : (e.kind == 1 || e.kind == 8) = true := by rcases hk with h | h <;> rw [h] <;> rfl
  have hst : stStep l om (matK l om l.length) e = (((stPair (rowI l e.a) (rowI l e.b) (admS e om).1).foldl (st1 (szL l)) (matK l om l.length, false)).1, if ((stPair (rowI l e.a) (rowI l e.b) (admS e om).1).foldl (st1 (szL l)) (matK l om l.length, false)).2 = true then 6 else 0) ∧ (admS e om).2 = 0 := by
    have h0 : (admS e om).2 = 0 := by
      by_cases h0 : (admS e om).2 = 0
      · exact h0
      · unfold stStep at hlast
        rw [if_pos ⟨had, h0⟩] at hlast
        exact hlast
    refine ⟨?_, h0⟩
    unfold stStep
    rw [if_neg (fun h => h.2 h0)]
    unfold stOf
    rw [if_pos had]
  obtain ⟨hst, h0⟩ := hst
  have hy : (admS e om).1 = (fdiv fone (fc e.val), fc 0) ∧ ffin (fdiv fone (fc e.val)) = true := by
    have hm : mayE e om = 0 := by
      by_cases hm : mayE e om = 0
      · exact hm
      · unfold admS at h0; rw [if_neg hm] at h0; exact absurd h0 hm
    rw [adm_good hm] at h0 ⊢
    unfold admB at h0 ⊢
    rw [if_pos hk4] at h0 ⊢
    by_cases hf : cfin (fdiv fone (fc e.val), fc 0) = true
    · rw [fin6_yes hf]
      refine ⟨rfl, ?_⟩
      unfold cfin at hf
      rw [Bool.and_eq_true] at hf
      exact hf.1
    · rw [fin6_no (by simpa using hf)] at h0
      cases h0
  rw [hy.1] at hst
  rw [hst] at hlast
  have hfl : ((stPair (rowI l e.a) (rowI l e.b) (fdiv fone (fc e.val), fc 0)).foldl (st1 (szL l)) (matK l om l.length, false)).2 = false := by
    dsimp only at hlast
    split at hlast
    · cases hlast
    · rename_i hf; simpa using hf
  refine ⟨matK l om l.length, by rw [mat_done ha k1]; rfl, hy.2, ?_, hfl, fold_fin _ _ hfl (matK_fin k1 l.length)⟩
  rw [mat_done ha k2, hs, List.length_append, List.length_singleton, matK_succ hla, matK_more hn hbr l.length (Nat.le_refl _), step_same hn hbr, hst]
  rfl
end

section
/- kit EqualNumbers, EqualMatrix: of numbers that are equal, pair by pair. -/
open Go.RowKit

/-- Equal, pair by pair, as == has it. -/
def EqL (l m : List Cx) : Prop := l.length = m.length ∧ ∀ (k : Nat) (x y : Cx), l[k]? = some x → m[k]? = some y → FloatKind.f64.format.order x.1 y.1 = some .eq ∧ FloatKind.f64.format.order x.2 y.2 = some .eq
set_option maxRecDepth 100000 in
set_option maxHeartbeats 400000 in
theorem equalnumbers_any (v u : Value) (l m : List Cx) (w : World) (hv : IsSl w 1 v l.length (l.map mkC)) (hu : IsSl w 1 u m.length (m.map mkC)) (hl : l.length ≤ 140737488355328) (he : EqL l m) :
    Calls Tryz.prog 39 #[v, u] w (fun e w' => e = .returned (.bool true) ∧ Below w.heap.size w w') := by
  obtain ⟨a, c, rfl⟩ := hv.form
  obtain ⟨a2, c2, rfl⟩ := hu.form
  obtain ⟨i0, hi, hz0, hz1, hz2⟩ := info_parts infoC
  have hlB : ((l.length : Int) != (m.length : Int)) = false := by simp [he.1]
  have HE := hid he
  clear he
  go_enter Tryz.func39, Tryz.ntmps39
  go_wp2
  go_loopw [5] (fun i wr => ∃ (k n : Nat), k ≤ l.length ∧ i = .int .i64 k ∧ wr = w.drewN n) (fun i _ => l.length - (intOf i).toNat)
  case atStart => exact ⟨0, 0, by omega, rfl, rfl⟩
  case round =>
    obtain ⟨k, n, hk, rfl, hw⟩ := hrel
    have hv1 : IsSl wr 1 (.slice a l.length c) l.length (l.map (mkC)) := by rw [hw]; exact hv
    have hu1 : IsSl wr 1 (.slice a2 m.length c2) m.length (m.map (mkC)) := by rw [hw]; exact hu
    have HW := hid hw
    clear hw
    by_cases hlt : k < l.length
    · obtain ⟨g, o, x, hidx, hg, hcell, hx⟩ := IsSl.at1 Tryz.underlying36 hi hz1 hv1 hlt
      obtain ⟨g2, o2, x2, hidx2, hg2, hcell2, hx2⟩ := IsSl.at1 Tryz.underlying36 hi hz1 hu1 (show k < m.length by have := HE.out.1; omega)
      obtain ⟨b, hb0, rfl⟩ := map_getElem? hx
      obtain ⟨b2, hb2, rfl⟩ := map_getElem? hx2
      obtain ⟨h1, h2⟩ := HE.out.2 k b b2 hb0 hb2
      clear hx hx2 hb0 hb2
      obtain ⟨p, q⟩ := b
      obtain ⟨p2, q2⟩ := b2
      unfold mkC at hcell hcell2
      dsimp only at hcell hcell2 h1 h2
      go_wp2_with fail
      go_quiet (fail)
      go_wp2
      go_roundw
      case rel => exact ⟨k + 1, nq + n, by omega, by go_num, by rw [HW.out]; simp [World.drewN_drewN, Nat.add_comm]⟩
      case measure => simp [intOf]; omega
    · go_wp2
      go_ret
      exact ⟨rfl, by rw [HW.out]; exact below_n (Below.refl _ _) n⟩
set_option maxRecDepth 100000 in
set_option maxHeartbeats 400000 in
theorem equalmatrix_any (r : Int) (v u : Value) (l m : List Cx) (w : World) (hv : IsSl w 1 v l.length (l.map mkC)) (hu : IsSl w 1 u m.length (m.map mkC)) (hl : l.length ≤ 140737488355328) (he : EqL l m) :
    Calls Tryz.prog 20 #[.agg #[.int .i64 r, .int .i64 r, v], .agg #[.int .i64 r, .int .i64 r, u]] w (fun e w' => e = .returned (.bool true) ∧ Below w.heap.size w w') := by
  obtain ⟨a, c, rfl⟩ := hv.form
  obtain ⟨a2, c2, rfl⟩ := hu.form
  have t1 := alloc2_0 w (.cells #[.int .i64 r, .int .i64 r, .slice a l.length c] 38) (.cells #[.int .i64 r, .int .i64 r, .slice a2 m.length c2] 38)
  have t2 := alloc2_1 w (.cells #[.int .i64 r, .int .i64 r, .slice a l.length c] 38) (.cells #[.int .i64 r, .int .i64 r, .slice a2 m.length c2] 38)
  have hb : Below w.heap.size w ((w.alloc (.cells #[.int .i64 r, .int .i64 r, .slice a l.length c] 38)).alloc (.cells #[.int .i64 r, .int .i64 r, .slice a2 m.length c2] 38)) := ((Below.refl _ _).alloc (Nat.le_refl _) _).alloc (by simp) _
  have HV := hid (hv.below hb (Nat.le_refl _))
  have HU := hid (hu.below hb (Nat.le_refl _))
  have HE := hid he
  have HB := hid hb
  have m1 := mat_at t1
  have m2 := mat_at t2
  obtain ⟨a0, a1, a2', _⟩ := m1
  obtain ⟨b0, b1, b2', _⟩ := m2
  clear hv hu he hb t1 t2
  go_enter Tryz.func20, Tryz.ntmps20
  go_upto_region 1 with fail
  generalize (w.alloc (.cells #[.int .i64 r, .int .i64 r, .slice a l.length c] 38)).alloc (.cells #[.int .i64 r, .int .i64 r, .slice a2 m.length c2] 38) = w1 at *
  go_wp2_with ((go_at_call 39; refine (equalnumbers_any _ _ l m _ HV.out HU.out hl HE.out).mono ?_; rintro e w2 ⟨rfl, hb⟩; have HB2 := hid (below_step HB.out hb); clear hb))
  go_ret
  exact ⟨rfl, HB2.out⟩
end
end Go.Proofs.YtlaibmeokghdmaaGreatDoor
