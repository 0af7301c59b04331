/- a part of the proof of the last text -/
import Derived.Test.YtjeedckmkicnoaaGreatDoorZAdm2
namespace Go.Proofs.YtjeedckmkicnoaaGreatDoor
set_option linter.all false
set_option maxHeartbeats 4000000
set_option maxRecDepth 100000
section
open Go.RowKit
/-- A number that is stamped: is it taken off?, its row, its column, the number. -/
structure St where
  sub : Bool
  i : Int
  j : Int
  y : Cx
/-- Numbers by their places; is one of those that were put there not finite? -/
abbrev StS := (Nat → Cx) × Bool
def stZ (n : Nat) (m : Nat → Cx) (t : St) : Cx := if t.sub then csub (m (t.i * n + t.j).toNat) t.y else cadd (m (t.i * n + t.j).toNat) t.y
def st1 (n : Nat) (s : StS) (t : St) : StS := if t.i < 0 ∨ t.j < 0 then s else (upd s.1 (t.i * n + t.j).toNat (stZ n s.1 t), s.2 || !cfin (stZ n s.1 t))
theorem st1_no {n : Nat} {s : StS} {t : St} (h : t.i < 0 ∨ t.j < 0) : st1 n s t = s := by unfold st1; rw [if_pos h]
theorem st1_yes {n : Nat} {s : StS} {t : St} (h : ¬ (t.i < 0 ∨ t.j < 0)) : st1 n s t = (upd s.1 (t.i * n + t.j).toNat (stZ n s.1 t), s.2 || !cfin (stZ n s.1 t)) := by unfold st1; rw [if_neg h]
theorem heap_laterS {w w' : World} {g : Nat} {o : Obj} (hb : Below w.heap.size w w') (h : w.heap[g]? = some o) : w'.heap[g]? = some o := (hb.block g (Array.getElem?_eq_some_iff.1 h).1).trans h
theorem blk_setS {w : World} {g o : Nat} {cs : Array Value} {t : TypeId} {f : Nat × Nat} (h : w.heap[g]? = some (.cells cs t f)) (v : Value) : (w.setCell ⟨g, o, none⟩ v).heap[g]? = some (.cells (cs.setIfInBounds o v) t f) := by
  unfold World.setCell
  simp [Array.getElem?_modify, h]
theorem grown_setS (w : World) (g o : Nat) (v : Value) : w.grownBy (w.setCell ⟨g, o, none⟩ v) (some g) :=
  ⟨rfl, rfl, rfl, by simp, fun k _ hk => Below.heap_setCell w ⟨g, o, none⟩ v k (fun e => hk (by rw [e]))⟩
end
section
/- Numbers stamped one by one: plain law. -/
open Go.RowKit
/-- A node's row; -1: the ground's. -/
def rowI (l : List El) (s : ByteArray) : Int := if has (nds l) s = true then plI (nds l) s else -1
def brI (l : List El) (s : ByteArray) : Int := (nds l).length + plI (brs l) s
def szL (l : List El) : Nat := (nds l).length + (brs l).length
def cOne : Cx := (fone, fc 0)
def stPair (i j : Int) (y : Cx) : List St := [⟨false, i, i, y⟩, ⟨false, j, j, y⟩, ⟨true, i, j, y⟩, ⟨true, j, i, y⟩]
def stTrans (i j k q : Int) (g : Cx) : List St := [⟨false, i, k, g⟩, ⟨true, i, q, g⟩, ⟨true, j, k, g⟩, ⟨false, j, q, g⟩]
def stBr (i j m : Int) : List St := [⟨false, i, m, cOne⟩, ⟨false, m, i, cOne⟩, ⟨true, j, m, cOne⟩, ⟨true, m, j, cOne⟩]
def stAmp (m k q : Int) (g : Cx) : List St := [⟨true, m, k, g⟩, ⟨false, m, q, g⟩]
def stOf (l : List El) (x : El) (y : Cx) : List St :=
  if isAd x = true then stPair (rowI l x.a) (rowI l x.b) y
  else if x.kind = 6 then stTrans (rowI l x.a) (rowI l x.b) (rowI l x.c) (rowI l x.d) (fc x.val, fc 0)
  else if x.kind = 5 then stBr (rowI l x.a) (rowI l x.b) (brI l x.name)
  else if x.kind = 7 then stBr (rowI l x.a) (rowI l x.b) (brI l x.name) ++ stAmp (brI l x.name) (rowI l x.c) (rowI l x.d) (fc x.val, fc 0)
  else []
/-- One element: what stands there then; the error. -/
def stStep (l : List El) (om : Nat) (m : Nat → Cx) (x : El) : (Nat → Cx) × Int :=
  if isAd x = true ∧ (admS x om).2 ≠ 0 then (m, (admS x om).2)
  else (((stOf l x (admS x om).1).foldl (st1 (szL l)) (m, false)).1, if ((stOf l x (admS x om).1).foldl (st1 (szL l)) (m, false)).2 = true then 6 else 0)
def matR (l : List El) (om : Nat) : Nat → List El → (Nat → Cx) → (Nat → Cx) × Int × Int
  | _, [], m => (m, 0, 0)
  | k, x :: r, m => if (stStep l om m x).2 = 0 then matR l om (k + 1) r (stStep l om m x).1 else (m, (stStep l om m x).2, k)
def cZero : Cx := (fc 0, fc 0)
/-- The matrix of a net: its order, its numbers; the fault. -/
def matS (b : Bool) (l : List El) (om : Nat) : (Nat × List Cx) × (Int × Int) :=
  if b = true then ((0, []), (1, -1)) else if angE om ≠ 0 then ((0, []), (angE om, -1))
  else if (matR l om 0 l fun _ => cZero).2.1 = 0 then ((szL l, (List.range (szL l * szL l)).map (matR l om 0 l fun _ => cZero).1), (0, 0))
  else ((0, []), (matR l om 0 l fun _ => cZero).2)
theorem mat_none {l : List El} {om : Nat} : matS true l om = ((0, []), (1, -1)) := by unfold matS; rw [if_pos rfl]
theorem mat_ang {l : List El} {om : Nat} (h : angE om ≠ 0) : matS false l om = ((0, []), (angE om, -1)) := by unfold matS; rw [if_neg (by simp), if_pos h]
/-- What has been stamped by the first k elements. -/
def matK (l : List El) (om : Nat) : Nat → (Nat → Cx)
  | 0 => fun _ => cZero
  | k + 1 => match l[k]? with | some x => (stStep l om (matK l om k) x).1 | none => matK l om k
theorem matK_succ {l : List El} {om k : Nat} {x : El} (h : l[k]? = some x) : matK l om (k + 1) = (stStep l om (matK l om k) x).1 := by simp only [matK, h]
theorem matR_at {l : List El} {om : Nat} : ∀ (j k : Nat), k + j = l.length → (∀ (i : Nat) (x : El), i < k → l[i]? = some x → (stStep l om (matK l om i) x).2 = 0) → matR l om 0 l (fun _ => cZero) = matR l om k (l.drop k) (matK l om k) := by
  intro j
  have key : ∀ k, k ≤ l.length → (∀ (i : Nat) (x : El), i < k → l[i]? = some x → (stStep l om (matK l om i) x).2 = 0) → matR l om 0 l (fun _ => cZero) = matR l om k (l.drop k) (matK l om k) := by
    intro k
    induction k with
    | zero => intro _ _; rfl
    | succ k ih =>
      intro hk h
      have hx : l[k]? = some l[k] := List.getElem?_eq_getElem (by omega)
      rw [ih (by omega) (fun i x hi hx => h i x (by omega) hx), List.drop_eq_getElem_cons (by omega)]
      conv => lhs; unfold matR
      rw [if_pos (h k _ (by omega) hx), matK_succ hx]
  intro k hk h
  exact key k (by omega) h
theorem mat_stop {l : List El} {om k : Nat} {x : El} (ha : angE om = 0) (hx : l[k]? = some x) (h : ∀ (i : Nat) (x : El), i < k → l[i]? = some x → (stStep l om (matK l om i) x).2 = 0) (hb : (stStep l om (matK l om k) x).2 ≠ 0) :
    matS false l om = ((0, []), ((stStep l om (matK l om k) x).2, (k : Int))) := by
  have hk := (List.getElem?_eq_some_iff.1 hx).1
  have e := (List.getElem?_eq_some_iff.1 hx).2
  have h1 := matR_at (l := l) (om := om) (l.length - k) k (by omega) h
  rw [List.drop_eq_getElem_cons hk, e] at h1
  have h2 : matR l om k (x :: l.drop (k + 1)) (matK l om k) = (matK l om k, (stStep l om (matK l om k) x).2, (k : Int)) := by
    conv => lhs; unfold matR
    rw [if_neg hb]
  rw [h2] at h1
  unfold matS
  rw [if_neg (by simp), if_neg (by simpa using ha), h1, if_neg hb]
theorem mat_done {l : List El} {om : Nat} (ha : angE om = 0) (h : ∀ (i : Nat) (x : El), l[i]? = some x → (stStep l om (matK l om i) x).2 = 0) :
    matS false l om = ((szL l, (List.range (szL l * szL l)).map (matK l om l.length)), (0, 0)) := by
  have h1 := matR_at (l := l) (om := om) 0 l.length (by omega) (fun i x _ hx => h i x hx)
  rw [List.drop_length] at h1
  unfold matS
  rw [if_neg (by simp), if_neg (by simpa using ha), h1]
  unfold matR
  rw [if_pos rfl]
theorem rowI_lt (l : List El) (s : ByteArray) : rowI l s < (nds l).length := by
  unfold rowI
  split
  · rename_i h
    unfold plI
    rw [if_pos h]
    have : (nds l).findIdx (fun t => t.toList == s.toList) < (nds l).length := by
      rw [List.findIdx_lt_length]
      unfold has at h
      simpa using h
    omega
  · omega
theorem rowI_ge (l : List El) (s : ByteArray) : -1 ≤ rowI l s := by
  unfold rowI
  split
  · unfold plI; split <;> omega
  · omega
end
section
/- What the elements of a net stamp: plain law. -/
open Go.RowKit
def NetOk (l : List El) : Prop := ∀ x ∈ l, x.Ok ∧ checkE x = 0
theorem check_isK {x : El} (h : checkE x = 0) : isK x.kind = true := by
  unfold checkE at h
  split at h
  · assumption
  · cases h
theorem firstBad_none {l : List El} : ∀ {r : List El} {k : Nat}, firstBad l k r = none → ∀ (j : Nat) (e : El), r[j]? = some e → bad1 l (k + j) e = 0
  | [], _, _, j, e, h => by simp at h
  | x :: r, k, hf, j, e, h => by
    unfold firstBad at hf
    split at hf
    · rename_i h0
      cases j with
      | zero => simp at h; subst h; exact h0
      | succ j =>
        have := firstBad_none hf j e (by simpa using h)
        rw [show k + (j + 1) = k + 1 + j by omega]
        exact this
    · cases hf
theorem ofL_true {l : List El} (h : (ofL l).1 = true) : l.length ≤ 256 ∧ ∀ x ∈ l, checkE x = 0 := by
  unfold ofL at h
  split at h
  · cases h
  · rename_i hl
    refine ⟨by omega, fun x hx => ?_⟩
    split at h
    · cases h
    · rename_i hf
      obtain ⟨j, hj⟩ := List.getElem?_of_mem hx
      have := firstBad_none hf j x hj
      unfold bad1 at this
      split at this
      · assumption
      · exact this
theorem no_empty {l : List El} (h : ∀ x ∈ l, checkE x = 0) : has (l.map El.name) ⟨#[]⟩ = false := by
  cases hh : has (l.map El.name) ⟨#[]⟩ with
  | false => rfl
  | true =>
    exfalso
    unfold has at hh
    simp only [List.any_eq_true, List.mem_map] at hh
    obtain ⟨s, ⟨x, hx, rfl⟩, he⟩ := hh
    have h0 := h x hx
    have he2 : x.name.toList = [] := by simpa using he
    have hn : nameK x.name = 0 := by
      rw [(same_iff x.name ⟨#[]⟩).1 (by rw [he2, toList_data]; rfl)]; rfl
    unfold checkE at h0
    unfold nameBad at h0
    rw [hn] at h0
    simp at h0
    split at h0 <;> simp at h0
/-- The elements of the net that is made. -/
def nl (l : List El) : List El := if (ofL l).1 = true then l else []
theorem nl_yes {l : List El} (h : (ofL l).1 = true) : nl l = l := if_pos h
theorem nl_no {l : List El} (h : (ofL l).1 = false) : nl l = [] := if_neg (by rw [h]; simp)
theorem nl_ok {l : List El} (hok : ∀ e ∈ l, e.Ok) : (nl l).length ≤ 256 ∧ NetOk (nl l) ∧ has ((nl l).map El.name) ⟨#[]⟩ = false := by
  cases h : (ofL l).1 with
  | true =>
    rw [nl_yes h]
    obtain ⟨h1, h2⟩ := ofL_true h
    exact ⟨h1, fun x hx => ⟨hok x hx, h2 x hx⟩, no_empty h2⟩
  | false =>
    rw [nl_no h]
    exact ⟨by simp, fun x hx => (by cases hx), rfl⟩
theorem noNet_ptr {p : Value} (h : p ≠ .pointer none) : noNet p = false := by
  unfold noNet
  split
  · exact absurd rfl h
  · rfl
/-- A net was made, or there is none. -/
def RetNet (R : World → Value → List El → Prop) (l : List El) (w : World) (en : Ending) (w' : World) : Prop :=
  ∃ p x y, en = .returned (.tuple #[p, .agg #[.int .i64 x, .int .i64 y]]) ∧ R w' p (nl l) ∧ noNet p = !(ofL l).1 ∧ Below w.heap.size w w'
theorem retnet_of {R : World → Value → List El → Prop} {l : List El} {w w' : World} {en : Ending} (h : RetOf R l w en w') (hn : R w' (.pointer none) []) : RetNet R l w en w' := by
  obtain ⟨p, rfl, h, hb⟩ := h
  rcases h with ⟨h1, rfl⟩ | ⟨h1, h2, h3⟩
  · exact ⟨_, _, _, rfl, by rw [nl_no h1]; exact hn, by rw [h1]; rfl, hb⟩
  · exact ⟨_, _, _, rfl, by rw [nl_yes h1]; exact h3, by rw [h1]; exact noNet_ptr h2, hb⟩
theorem nofn_any (v : Value) (l : List El) (w : World) (hv : IsSl w 8 v l.length (l.flatMap ea)) (hok : ∀ e ∈ l, e.Ok) (hlen : l.length ≤ 140737488355328) :
    Calls Tryz.prog 27 #[v] w (RetNet NN l w) := (nof_any v l w hv hok hlen).mono fun _ _ h => retnet_of h (.inl ⟨rfl, rfl⟩)
theorem rofn_any (v : Value) (l : List El) (w : World) (hv : IsSl w 8 v l.length (l.flatMap ea)) (hok : ∀ e ∈ l, e.Ok) (hlen : l.length ≤ 140737488355328) :
    Calls Tryz.prog 29 #[v] w (RetNet RN l w) := (rof_any15 v l w hv hok hlen).mono fun _ _ h => retnet_of h (.inl ⟨rfl, rfl⟩)
theorem ofL_size {l : List El} (h : (ofL l).1 = true) : (nds l).length ≤ 32 ∧ (nds l).length + (brs l).length ≤ 64 := by
  unfold ofL at h
  split at h
  · cases h
  · split at h
    · cases h
    · split at h
      · cases h
      · rename_i hh
        omega
theorem nl_size (l : List El) : (nds (nl l)).length ≤ 32 ∧ szL (nl l) ≤ 64 := by
  cases h : (ofL l).1 with
  | true => rw [nl_yes h]; exact ofL_size h
  | false => rw [nl_no h]; exact ⟨by decide, by decide⟩
theorem nn_form {w : World} {p : Value} {l : List El} (h : NN w p l) : ∃ pa : Option Addr, p = .pointer pa ∧ noNet p = pa.isNone := by
  rcases h with ⟨rfl, _⟩ | ⟨_, g, _, _, _, _, _, _, rfl, _⟩
  · exact ⟨none, rfl, rfl⟩
  · exact ⟨some ⟨g, 0, none⟩, rfl, rfl⟩
theorem rn_form {w : World} {p : Value} {l : List El} (h : RN w p l) : ∃ pa : Option Addr, p = .pointer pa ∧ noNet p = pa.isNone := by
  rcases h with ⟨rfl, _⟩ | ⟨g, _, rfl, _⟩
  · exact ⟨none, rfl, rfl⟩
  · exact ⟨some ⟨g, 0, none⟩, rfl, rfl⟩
theorem samenumbers_true (v u : Value) (l m : List Cx) (w : World) (hv : IsSl w 1 v l.length (l.map mkC)) (hu : IsSl w 1 u m.length (m.map mkC)) (hl : l.length ≤ 140737488355328) (hm : m.length ≤ 140737488355328) (he : l.map ck = m.map ck) :
    Calls Tryz.prog 78 #[v, u] w fun e wz => e = .returned (.bool true) ∧ Below w.heap.size w wz :=
  (samenumbers_any v u l m w hv hu hl hm).mono fun _ _ ⟨v, n, h1, h2, h3⟩ => ⟨by rw [h1, h3, he]; simp, by rw [h2]; exact below_n (Below.refl _ _) n⟩
end
section
/- Nets of lists of elements: what netlist.Of and the reference's Of give, the list cut to none where no net is made. -/
open Go.RowKit
/-- The elements of a net that may be. -/
structure NetG (l : List El) : Prop where
  len : l.length ≤ 256
  ok : ∀ x ∈ l, x.Ok
  ck : ∀ x ∈ l, checkE x = 0
  nm : has (l.map El.name) ⟨#[]⟩ = false
  sz : szL l ≤ 64
theorem netg_of {l : List El} (h : (ofL l).1 = true) (hok : ∀ x ∈ l, x.Ok) : NetG l := by
  obtain ⟨h1, h2⟩ := ofL_true h
  exact ⟨h1, hok, h2, no_empty h2, (ofL_size h).2⟩
end
section
/- The elements of a net that may be. -/
open Go.RowKit
/-- Is it no net of the reference? -/
def noRef : Value → Bool
  | .pointer none => true
  | _ => false
set_option maxHeartbeats 400000 in
theorem rnone20_any (p : Value) (l : List El) (w : World) (hp : RN w p l) :
    Calls Tryz.prog 38 #[p] w fun e w' => e = .returned (.bool (noRef p)) ∧ w = w' := by
  rcases hp with ⟨rfl, rfl⟩ | ⟨g, v, rfl, h0, h1, hs⟩
  · go_enter Tryz.func38, Tryz.ntmps38
    go_wp2
    go_ret
    exact ⟨rfl, rfl⟩
  · go_enter Tryz.func38, Tryz.ntmps38
    go_wp2
    go_ret
    exact ⟨rfl, rfl⟩
end
end Go.Proofs.YtjeedckmkicnoaaGreatDoor
