/- Walks of gridworkref15: place, Place, Branch, Find. -/
import Derived.Test.YtejooaeppcjhjaaOf15
import Derived.Test.YtejooaeppcjhjaaAdm2
import Derived.Test.YtejooaeppcjhjaaMStpW1
import Derived.Maps.OwnSet
namespace Go.Proofs.Ytejooaeppcjhjaa

section
open Go.RowKit

/-- A text's place in a list; 0 where it is not there. -/
def plI (l : List ByteArray) (s : ByteArray) : Int := if has l s = true then (l.findIdx fun t => t.toList == s.toList : Nat) else 0
theorem plI_no {l : List ByteArray} {s : ByteArray} (h : has l s = false) : plI l s = 0 := by unfold plI; rw [if_neg (by rw [h]; simp)]
theorem find_first {α : Type} {p : α → Bool} : ∀ (l : List α) (k : Nat) (x : α), (l.take k).any p = false → l[k]? = some x → p x = true → l.findIdx p = k ∧ l.any p = true ∧ l.find? p = some x
  | [], k, x, _, h, _ => by simp at h
  | y :: l, 0, x, _, h, hx => by
    obtain rfl : y = x := by simpa using h
    simp [List.findIdx_cons, hx]
  | y :: l, k + 1, x, hn, h, hx => by
    rw [List.take_succ_cons, List.any_cons, Bool.or_eq_false_iff] at hn
    obtain ⟨h1, h2, h3⟩ := find_first l k x hn.2 (by simpa using h) hx
    simp [List.findIdx_cons, hn.1, h1, h2, h3]
theorem plI_at {l : List ByteArray} {s t : ByteArray} {k : Nat} (hn : has (l.take k) s = false) (h : l[k]? = some t) (ht : (t.toList == s.toList) = true) : has l s = true ∧ plI l s = k := by
  obtain ⟨h1, h2, _⟩ := find_first l k t hn h ht
  have h3 : has l s = true := h2
  refine ⟨h3, ?_⟩
  unfold plI
  rw [if_pos h3, h1]
set_option maxRecDepth 100000 in
set_option maxHeartbeats 1000000 in
theorem place_any (v : Value) (l : List ByteArray) (s : ByteArray) (w : World) (hv : IsSl w 1 v l.length (sts l)) (hl : l.length ≤ 1000000) :
    Calls Try.prog 76 #[v, .string s] w fun e w' => e = .returned (.tuple #[.int .i64 (plI l s), .bool (has l s)]) ∧ w = w' := by
  obtain ⟨a, c, rfl⟩ := hv.form
  obtain ⟨i0, hi, hz0, hz1, hz2⟩ := info_parts infoSt
  go_enter Try.func76, Try.ntmps76
  go_wp2
  go_loopw [6] (fun i wr => ∃ k : Nat, k ≤ l.length ∧ i = .int .i64 k ∧ has (l.take k) s = false ∧ wr = w) (fun i _ => l.length - (intOf i).toNat)
  case atStart => exact ⟨0, Nat.zero_le _, rfl, rfl, rfl⟩
  case round =>
    obtain ⟨k, hk, rfl, hn, rfl⟩ := hrel
    by_cases hlt : k < l.length
    · obtain ⟨g, o, y, hidx, hg, hc, hy⟩ := IsSl.at1 Try.underlying42 hi hz1 hv hlt
      obtain ⟨t, ht, rfl⟩ := sts_get hy
      have HN := hid hn
      have HT := hid ht
      clear hn ht hy hg
      cases hb : (t.toList == s.toList)
      · have HB := hid hb
        go_wp2_with fail
        go_roundw
        case rel => exact ⟨k + 1, by omega, by go_num, by rw [has_snoc HT.out, HN.out, HB.out]; rfl, by first | rfl | trivial⟩
        case measure => simp [intOf]; omega
      · have HB := hid hb
        go_wp2_with fail
        (try rw [Exit.noGoto_ret])
        obtain ⟨h1, h2⟩ := plI_at HN.out HT.out HB.out
        refine bodyPost_ret (v := .tuple #[.int .i64 k, .bool true]) ?_ rfl ⟨by rw [h1, h2], rfl⟩
        rw [results_tmp2 rfl]; rfl
    · obtain rfl : k = l.length := by omega
      rw [List.take_length] at hn
      have HN := hid hn
      clear hn
      go_wp2
      refine bodyPost_ret (v := .tuple #[.int .i64 0, .bool false]) ?_ rfl ⟨by rw [plI_no HN.out, HN.out], rfl⟩
      rw [results_tmp2 rfl]; rfl
def RetIB (k : Int) (b : Bool) (w : World) (en : Ending) (w' : World) : Prop := en = .returned (.tuple #[.int .i64 k, .bool b]) ∧ Below w.heap.size w w'
set_option maxRecDepth 100000 in
set_option maxHeartbeats 1000000 in
theorem rplace_any (p : Value) (l : List El) (s : ByteArray) (w : World) (hp : RN w p l) (hl : l.length ≤ 100000) :
    Calls Try.prog 75 #[p, .string s] w (RetIB (plI (nds l) s) (has (nds l) s) w) := by
  have hn := nds_len l
  go_enter Try.func75, Try.ntmps75
  go_wp2_with (first | (go_at_call 21; refine (rnodes_any _ l _ hp hl).mono ?_; rintro e w1 ⟨v1, xs, rfl, hown1, rfl, hb1⟩; have HB1 := hid hb1; have HI := hid (IsSl.of_own hown1); clear hb1 hown1) | (go_at_call 76; refine (place_any _ _ s _ HI.out (by omega)).mono ?_; rintro e w2 ⟨rfl, rfl⟩))
  refine bodyPost_ret (v := .tuple #[.int .i64 (plI (nds l) s), .bool (has (nds l) s)]) ?_ rfl ⟨rfl, HB1.out⟩
  rw [results_tmp2 rfl]; rfl
set_option maxRecDepth 100000 in
set_option maxHeartbeats 1000000 in
theorem rbranch_any (p : Value) (l : List El) (s : ByteArray) (w : World) (hp : RN w p l) (hl : l.length ≤ 100000) :
    Calls Try.prog 57 #[p, .string s] w (RetIB (plI (brs l) s) (has (brs l) s) w) := by
  have hn := brs_len l
  go_enter Try.func57, Try.ntmps57
  go_wp2_with (first | (go_at_call 33; refine (rbranches_any _ l _ hp hl).mono ?_; rintro e w1 ⟨v1, xs, rfl, hown1, rfl, hb1⟩; have HB1 := hid hb1; have HI := hid (IsSl.of_own hown1); clear hb1 hown1) | (go_at_call 76; refine (place_any _ _ s _ HI.out (by omega)).mono ?_; rintro e w2 ⟨rfl, rfl⟩))
  refine bodyPost_ret (v := .tuple #[.int .i64 (plI (brs l) s), .bool (has (brs l) s)]) ?_ rfl ⟨rfl, HB1.out⟩
  rw [results_tmp2 rfl]; rfl
end

section
/- Walk of gridworkref15's Find. -/
open Go.RowKit

def zEl : El := ⟨0, ⟨#[]⟩, ⟨#[]⟩, ⟨#[]⟩, ⟨#[]⟩, ⟨#[]⟩, 0, 0⟩
/-- The element of a name. -/
def findE (l : List El) (s : ByteArray) : Option El := l.find? fun e => e.name.toList == s.toList
def RetEB (x : El) (b : Bool) (w : World) (en : Ending) (w' : World) : Prop :=
  en = .returned (.tuple #[.agg #[.int .u8 x.kind, .string x.name, .string x.a, .string x.b, .string x.c, .string x.d, .float .f64 x.val, .int .i64 x.ph], .bool b]) ∧ Below w.heap.size w w'
theorem findE_no {l : List El} {s : ByteArray} (h : named l s = false) : findE l s = none := by
  unfold findE
  unfold named at h
  rw [List.find?_eq_none]
  intro x hx
  have := List.any_eq_false.1 h x hx
  simpa using this
theorem findE_at {l : List El} {s : ByteArray} {k : Nat} {x : El} (hn : named (l.take k) s = false) (h : l[k]? = some x) (hx : (x.name.toList == s.toList) = true) : findE l s = some x ∧ named l s = true :=
  ⟨(find_first l k x hn h hx).2.2, (find_first l k x hn h hx).2.1⟩
end

section
/- What the elements of a net stamp: plain law. -/
open Go.RowKit

/-- A node's row; -1: the ground's. -/
def rowI (l : List El) (s : ByteArray) : Int := if has (nds l) s = true then plI (nds l) s else -1
def brI (l : List El) (s : ByteArray) : Int := (nds l).length + plI (brs l) s
def szL (l : List El) : Nat := (nds l).length + (brs l).length
def cOne : Cx := (fone, fc 0)
def stPair (i j : Int) (y : Cx) : List St := [⟨false, i, i, y⟩, ⟨false, j, j, y⟩, ⟨true, i, j, y⟩, ⟨true, j, i, y⟩]
def stTrans (i j k q : Int) (g : Cx) : List St := [⟨false, i, k, g⟩, ⟨true, i, q, g⟩, ⟨true, j, k, g⟩, ⟨false, j, q, g⟩]
def stBr (i j m : Int) : List St := [⟨false, i, m, cOne⟩, ⟨false, m, i, cOne⟩, ⟨true, j, m, cOne⟩, ⟨true, m, j, cOne⟩]
def stAmp (m k q : Int) (g : Cx) : List St := [⟨true, m, k, g⟩, ⟨false, m, q, g⟩]
def stOf (l : List El) (x : El) (y : Cx) : List St :=
  if isAd x = true then stPair (rowI l x.a) (rowI l x.b) y
  else if x.kind = 6 then stTrans (rowI l x.a) (rowI l x.b) (rowI l x.c) (rowI l x.d) (fc x.val, fc 0)
  else if x.kind = 5 then stBr (rowI l x.a) (rowI l x.b) (brI l x.name)
  else if x.kind = 7 then stBr (rowI l x.a) (rowI l x.b) (brI l x.name) ++ stAmp (brI l x.name) (rowI l x.c) (rowI l x.d) (fc x.val, fc 0)
  else []
/-- One element: what stands there then; the error. -/
def stStep (l : List El) (om : Nat) (m : Nat → Cx) (x : El) : (Nat → Cx) × Int :=
  if isAd x = true ∧ (admS x om).2 ≠ 0 then (m, (admS x om).2)
  else (((stOf l x (admS x om).1).foldl (st1 (szL l)) (m, false)).1, if ((stOf l x (admS x om).1).foldl (st1 (szL l)) (m, false)).2 = true then 6 else 0)
def matR (l : List El) (om : Nat) : Nat → List El → (Nat → Cx) → (Nat → Cx) × Int × Int
  | _, [], m => (m, 0, 0)
  | k, x :: r, m => if (stStep l om m x).2 = 0 then matR l om (k + 1) r (stStep l om m x).1 else (m, (stStep l om m x).2, k)
def cZero : Cx := (fc 0, fc 0)
/-- The matrix of a net: its order, its numbers; the fault. -/
def matS (b : Bool) (l : List El) (om : Nat) : (Nat × List Cx) × (Int × Int) :=
  if b = true then ((0, []), (1, -1)) else if angE om ≠ 0 then ((0, []), (angE om, -1))
  else if (matR l om 0 l fun _ => cZero).2.1 = 0 then ((szL l, (List.range (szL l * szL l)).map (matR l om 0 l fun _ => cZero).1), (0, 0))
  else ((0, []), (matR l om 0 l fun _ => cZero).2)
theorem mat_none {l : List El} {om : Nat} : matS true l om = ((0, []), (1, -1)) := by unfold matS; rw [if_pos rfl]
theorem mat_ang {l : List El} {om : Nat} (h : angE om ≠ 0) : matS false l om = ((0, []), (angE om, -1)) := by unfold matS; rw [if_neg (by simp), if_pos h]
/-- What has been stamped by the first k elements. -/
def matK (l : List El) (om : Nat) : Nat → (Nat → Cx)
  | 0 => fun _ => cZero
  | k + 1 => match l[k]? with | some x => (stStep l om (matK l om k) x).1 | none => matK l om k
theorem matK_succ {l : List El} {om k : Nat} {x : El} (h : l[k]? = some x) : matK l om (k + 1) = (stStep l om (matK l om k) x).1 := by simp only [matK, h]
theorem matR_at {l : List El} {om : Nat} : ∀ (j k : Nat), k + j = l.length → (∀ (i : Nat) (x : El), i < k → l[i]? = some x → (stStep l om (matK l om i) x).2 = 0) → matR l om 0 l (fun _ => cZero) = matR l om k (l.drop k) (matK l om k) := by
  intro j
  have key : ∀ k, k ≤ l.length → (∀ (i : Nat) (x : El), i < k → l[i]? = some x → (stStep l om (matK l om i) x).2 = 0) → matR l om 0 l (fun _ => cZero) = matR l om k (l.drop k) (matK l om k) := by
    intro k
    induction k with
    | zero => intro _ _; rfl
    | succ k ih =>
      intro hk h
      have hx : l[k]? = some l[k] := List.getElem?_eq_getElem (by omega)
      rw [ih (by omega) (fun i x hi hx => h i x (by omega) hx), List.drop_eq_getElem_cons (by omega)]
      conv => lhs; unfold matR
      rw [if_pos (h k _ (by omega) hx), matK_succ hx]
  intro k hk h
  exact key k (by omega) h
theorem mat_stop {l : List El} {om k : Nat} {x : El} (ha : angE om = 0) (hx : l[k]? = some x) (h : ∀ (i : Nat) (x : El), i < k → l[i]? = some x → (stStep l om (matK l om i) x).2 = 0) (hb : (stStep l om (matK l om k) x).2 ≠ 0) :
    matS false l om = ((0, []), ((stStep l om (matK l om k) x).2, (k : Int))) := by
  have hk := (List.getElem?_eq_some_iff.1 hx).1
  have e := (List.getElem?_eq_some_iff.1 hx).2
  have h1 := matR_at (l := l) (om := om) (l.length - k) k (by omega) h
  rw [List.drop_eq_getElem_cons hk, e] at h1
  have h2 : matR l om k (x :: l.drop (k + 1)) (matK l om k) = (matK l om k, (stStep l om (matK l om k) x).2, (k : Int)) := by
    conv => lhs; unfold matR
    rw [if_neg hb]
  rw [h2] at h1
  unfold matS
  rw [if_neg (by simp), if_neg (by simpa using ha), h1, if_neg hb]
theorem mat_done {l : List El} {om : Nat} (ha : angE om = 0) (h : ∀ (i : Nat) (x : El), l[i]? = some x → (stStep l om (matK l om i) x).2 = 0) :
    matS false l om = ((szL l, (List.range (szL l * szL l)).map (matK l om l.length)), (0, 0)) := by
  have h1 := matR_at (l := l) (om := om) 0 l.length (by omega) (fun i x _ hx => h i x hx)
  rw [List.drop_length] at h1
  unfold matS
  rw [if_neg (by simp), if_neg (by simpa using ha), h1]
  unfold matR
  rw [if_pos rfl]
theorem rowI_lt (l : List El) (s : ByteArray) : rowI l s < (nds l).length := by
  unfold rowI
  split
  · rename_i h
    unfold plI
    rw [if_pos h]
    have : (nds l).findIdx (fun t => t.toList == s.toList) < (nds l).length := by
      rw [List.findIdx_lt_length]
      unfold has at h
      simpa using h
    omega
  · omega
theorem rowI_ge (l : List El) (s : ByteArray) : -1 ≤ rowI l s := by
  unfold rowI
  split
  · unfold plI; split <;> omega
  · omega
end

section
/- What a map from names to places holds: plain law. No function of the program is named here. -/
open Go.RowKit

abbrev DU := DataW Unit
/-- A name as a key; a place as an element. -/
def kls (s : ByteArray) : Lit := .string s.data.toList
def plD (i : Int) : DU := .lit (.int .i64 i)
theorem toList_data (s : ByteArray) : s.toList = s.data.toList := by
  first | exact ByteArray.toList_eq s | exact ByteArray.toList_data s | simp [ByteArray.toList_eq] | rfl
theorem same_iff (s t : ByteArray) : (s.toList == t.toList) = true ↔ s = t := by
  rw [beq_iff_eq, toList_data, toList_data]
  exact ⟨fun h => ByteArray.ext (Array.toList_inj.1 h), fun h => by rw [h]⟩
theorem kls_ne {s t : ByteArray} (h : ¬ s = t) : kls s ≠ kls t := fun e => h (ByteArray.ext (Array.toList_inj.1 (by injection e)))
theorem kls_key (s : ByteArray) : WideAt.IsKeyLit (kls s) := trivial
theorem has_iff (l : List ByteArray) (s : ByteArray) : has l s = true ↔ s ∈ l := by
  unfold has
  rw [List.any_eq_true]
  constructor
  · rintro ⟨t, ht, h⟩
    rw [same_iff] at h
    exact h ▸ ht
  · intro h
    exact ⟨s, h, by simp⟩
/-- The map holds each name of the list, at its place. -/
def MapIs (D : DU) (l : List ByteArray) : Prop := Maps.IsMap D ∧ ∀ s, D.atKey (kls s) (plD 0) = plD (plI l s) ∧ Maps.has D (kls s) = has l s
theorem mapIs_empty : MapIs (.map []) [] := ⟨Maps.isMap_empty, fun _ => ⟨rfl, rfl⟩⟩
theorem has_app (l : List ByteArray) (s t : ByteArray) : has (l ++ [s]) t = (has l t || (s.toList == t.toList)) := by simp [has]
theorem plI_old {l : List ByteArray} {s t : ByteArray} (h : ¬ s = t) : plI (l ++ [s]) t = plI l t := by
  have hf : (s.toList == t.toList) = false := by
    cases e : (s.toList == t.toList)
    · rfl
    · exact absurd ((same_iff s t).1 e) h
  unfold plI
  rw [has_app, hf, Bool.or_false]
  cases hh : has l t
  · simp
  · simp only [if_true]
    rw [List.findIdx_append]
    have : l.findIdx (fun u => u.toList == t.toList) < l.length := List.findIdx_lt_length.2 (by
      obtain ⟨u, hu, hu2⟩ := List.any_eq_true.1 hh
      exact ⟨u, hu, hu2⟩)
    rw [if_pos this]
theorem plI_new {l : List ByteArray} {s : ByteArray} (h : has l s = false) : plI (l ++ [s]) s = l.length ∧ has (l ++ [s]) s = true := by
  have := plI_at (l := l ++ [s]) (s := s) (t := s) (k := l.length) (by rw [List.take_left' rfl]; exact h) (by simp) (by simp)
  exact ⟨this.2, this.1⟩
theorem mapIs_put {D : DU} {l : List ByteArray} {s : ByteArray} (h : MapIs D l) (hs : has l s = false) : MapIs (D.put (kls s) (plD l.length)) (l ++ [s]) := by
  refine ⟨h.1.put _ _, fun t => ?_⟩
  by_cases e : s = t
  · subst e
    obtain ⟨h1, h2⟩ := plI_new hs
    rw [Maps.atKey_put_same h.1 (kls_key s), Maps.has_put_same h.1 (kls_key s), h1, h2]
    exact ⟨rfl, rfl⟩
  · have hf : (s.toList == t.toList) = false := by
      cases e2 : (s.toList == t.toList)
      · rfl
      · exact absurd ((same_iff s t).1 e2) e
    rw [Maps.atKey_put_other (kls_ne fun x => e x.symm), Maps.has_put_other (kls_ne fun x => e x.symm), plI_old e, has_app, hf, Bool.or_false]
    exact h.2 t
end
end Go.Proofs.Ytejooaeppcjhjaa
