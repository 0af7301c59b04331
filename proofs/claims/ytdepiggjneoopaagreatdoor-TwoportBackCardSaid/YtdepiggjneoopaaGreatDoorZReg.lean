/- a part of the proof of the last text -/
import Derived.Test.YtdepiggjneoopaaGreatDoorZOwns
namespace Go.Proofs.YtdepiggjneoopaaGreatDoor
set_option linter.all false
set_option maxHeartbeats 4000000
set_option maxRecDepth 100000
open Go.RowKit
section
variable {P : Program} {ops : Array Oper} {Q : Exit → Act → World → Prop}
/-- What an operation waits for. -/
def afterOf (ops : Array Oper) (k : Nat) : List Nat :=
  match ops[k]? with
  | some o => (o.after.toList.filter fun e => Region.binds .any e).map fun e => e.on
  | none => []
def ancOf (ops : Array Oper) : Nat → Nat → List Nat
  | 0, _ => []
  | n + 1, k => (afterOf ops k).flatMap fun j => j :: ancOf ops n j
def ahd (ops : Array Oper) (j k : Nat) : Bool := (ancOf ops ops.size k).contains j
def isIn (k : Nat) (es : List Nat) : Bool := es.contains k
def lst (l : Array Bool) (k : Nat) : Bool := l.getD k false
def dsOf (ops : Array Oper) (k : Nat) : Option Tmp := (ops[k]?).bind fun o => o.dst
/-- A frame with the results of some operations. -/
def fill (a : Act) (ops : Array Oper) (vs : Nat → Value) : List Nat → Act
  | [] => a
  | k :: es => (fill a ops vs es).put (dsOf ops k) (vs k)
/-- They are listed. -/
def listAll (l : Array Bool) : List Nat → Array Bool
  | [] => l
  | k :: es => (listAll l es).setIfInBounds k true
/-- What must be so of the edges: what is listed waits for what is listed; the operations told wait for such, or for earlier ones among them; all others wait for all of them; each of them has a slot of its own. -/
def edgesOk (ops : Array Oper) (l : Array Bool) (es : List Nat) : Bool :=
  (List.range ops.size).all (fun k => !lst l k || (afterOf ops k).all fun j => lst l j) &&
  (es.all (fun k => Nat.blt k ops.size && (!lst l k && (afterOf ops k).all fun j => lst l j || (isIn j es && Nat.blt j k))) &&
  ((List.range ops.size).all (fun i => lst l i || (isIn i es || es.all fun k => ahd ops k i)) &&
  (es.all (fun k => es.all fun j => Nat.beq j k || (match dsOf ops k, dsOf ops j with | some d, some e => !Nat.beq d e | _, _ => true)) &&
  (Nat.beq l.size ops.size && noDup es))))
where noDup : List Nat → Bool
  | [] => true
  | k :: l => !isIn k l && noDup l
theorem isIn_iff {k : Nat} {es : List Nat} : isIn k es = true ↔ k ∈ es := by unfold isIn; simp
theorem noDup_cons {k : Nat} {l : List Nat} (h : edgesOk.noDup (k :: l) = true) : ¬ k ∈ l ∧ edgesOk.noDup l = true := by
  simp only [edgesOk.noDup, Bool.and_eq_true, Bool.not_eq_true'] at h
  refine ⟨fun hm => ?_, h.2⟩
  have h1 := h.1
  rw [isIn_iff.2 hm] at h1
  cases h1
theorem put_put (a : Act) (d : Option Tmp) (u v : Value) : (a.put d u).put d v = a.put d v := by
  cases d with
  | none => rfl
  | some d => simp [Act.put]
theorem put_own (a : Act) (d : Tmp) : a.put (some d) (a.tmps.getD d undef) = a := by
  obtain ⟨t, df⟩ := a
  simp only [Act.put]
  congr 1
  apply Array.ext
  · simp
  · intro i h1 h2
    by_cases e : d = i
    · subst e; simp at h1; simp [h1]
    · rw [Array.getElem_setIfInBounds_ne h2 e]
theorem fill_congr {a : Act} {vs us : Nat → Value} : ∀ {es : List Nat}, (∀ k ∈ es, vs k = us k) → fill a ops vs es = fill a ops us es
  | [], _ => rfl
  | k :: es, h => by unfold fill; rw [fill_congr (fun j hj => h j (List.mem_cons_of_mem _ hj)), h k (List.mem_cons_self ..)]
def upd {α : Type} (f : Nat → α) (i : Nat) (x : α) (k : Nat) : α := if k = i then x else f k
theorem upd_same {α : Type} (f : Nat → α) (i : Nat) (x : α) : upd f i x i = x := by simp [upd]
theorem upd_ne {α : Type} (f : Nat → α) {i k : Nat} (x : α) (h : k ≠ i) : upd f i x k = f k := by simp [upd, h]
theorem fill_put {a : Act} {vs : Nat → Value} {i : Nat} {v : Value} : ∀ {es : List Nat}, i ∈ es → edgesOk.noDup es = true → (∀ k ∈ es, k ≠ i → ∀ d, dsOf ops k = some d → dsOf ops i ≠ some d) → (fill a ops vs es).put (dsOf ops i) v = fill a ops (upd vs i v) es
  | k :: es, hi, hn, hd => by
    obtain ⟨h1, h2⟩ := noDup_cons hn
    unfold fill
    by_cases e : k = i
    · subst e
      rw [put_put, upd_same, fill_congr (us := upd vs k v) (fun j hj => (upd_ne vs v (show j ≠ k from fun e2 => h1 (e2 ▸ hj))).symm)]
    · have hi' : i ∈ es := by rcases List.mem_cons.1 hi with h | h; exact absurd h.symm e; exact h
      rw [Act.put_comm _ _ _ (hd k (List.mem_cons_self ..) e), fill_put hi' h2 (fun j hj => hd j (List.mem_cons_of_mem _ hj)), upd_ne vs v e]
theorem fill_own {a : Act} : ∀ {es : List Nat}, fill a ops (fun k => match dsOf ops k with | some d => a.tmps.getD d undef | none => undef) es = a
  | [] => rfl
  | k :: es => by
    unfold fill
    rw [fill_own]
    cases h : dsOf ops k with
    | none => rfl
    | some d => exact put_own a d
theorem lst_set {l : Array Bool} {i k : Nat} (hi : i < l.size) : lst (l.setIfInBounds i true) k = if k = i then true else lst l k := by
  unfold lst
  by_cases e : k = i
  · subst e; simp [hi]
  · rw [if_neg e]; simp [Array.getElem?_setIfInBounds_ne (Ne.symm e)]
theorem listAll_size {l : Array Bool} : ∀ {es : List Nat}, (listAll l es).size = l.size
  | [] => rfl
  | k :: es => by unfold listAll; rw [Array.size_setIfInBounds, listAll_size]
theorem lst_all {l : Array Bool} {k : Nat} : ∀ {es : List Nat}, (∀ j ∈ es, j < l.size) → lst (listAll l es) k = (lst l k || isIn k es)
  | [], _ => by simp [listAll, isIn]
  | j :: es, h => by
    unfold listAll
    rw [lst_set (by rw [listAll_size]; exact h j (List.mem_cons_self ..)), lst_all (fun i hi => h i (List.mem_cons_of_mem _ hi))]
    by_cases e : k = j
    · subst e; simp [isIn]
    · simp [isIn, e]
theorem eq_listAll {l l0 : Array Bool} {es : List Nat} (hs : l.size = l0.size) (hlt : ∀ j ∈ es, j < l0.size) (h1 : ∀ k, ¬ k ∈ es → lst l k = lst l0 k) (h2 : ∀ k ∈ es, lst l k = true) : l = listAll l0 es := by
  apply Array.ext
  · rw [listAll_size, hs]
  · intro i hi hi2
    have h3 : lst l i = lst (listAll l0 es) i := by
      rw [lst_all hlt]
      by_cases e : i ∈ es
      · rw [h2 i e, isIn_iff.2 e, Bool.or_true]
      · rw [h1 i e]
        have : isIn i es = false := by cases h : isIn i es with | false => rfl | true => exact absurd (isIn_iff.1 h) e
        rw [this, Bool.or_false]
    unfold lst at h3
    simpa [hi, hi2] using h3
theorem anc_listed {l : Array Bool} (hc : ∀ k, lst l k = true → ∀ j ∈ afterOf ops k, lst l j = true) : ∀ (n k : Nat), (∀ j ∈ afterOf ops k, lst l j = true) → ∀ j ∈ ancOf ops n k, lst l j = true
  | 0, _, _, j, h => by simp [ancOf] at h
  | n + 1, k, hk, j, h => by
    unfold ancOf at h
    obtain ⟨i, hi, hj⟩ := List.mem_flatMap.1 h
    rcases List.mem_cons.1 hj with rfl | hj
    · exact hk j hi
    · exact anc_listed hc n i (hc i (hk i hi)) j hj
theorem ready_after {l : Array Bool} {i : Nat} (hsz : l.size = ops.size) : i ∈ Region.ready .any ops l ↔ i < ops.size ∧ lst l i = false ∧ ∀ j ∈ afterOf ops i, lst l j = true := by
  rw [mem_ready]
  constructor
  · rintro ⟨h0, o, ho, h⟩
    have hlt : i < ops.size := (Array.getElem?_eq_some_iff.1 ho).1
    refine ⟨hlt, ?_, fun j hj => ?_⟩
    · unfold lst; have hl : i < l.size := by omega
      simp [hl] at h0 ⊢; exact h0
    · unfold afterOf at hj
      rw [ho] at hj
      obtain ⟨e, he, rfl⟩ := List.mem_map.1 hj
      obtain ⟨h1, h2⟩ := List.mem_filter.1 he
      exact h e (by simpa using h1) h2
  · rintro ⟨hlt, h0, h⟩
    have hl : i < l.size := by omega
    refine ⟨by unfold lst at h0; simp [hl] at h0 ⊢; exact h0, ops[i], by simp [hlt], fun e he hb => h e.on ?_⟩
    unfold afterOf
    simp only [hlt, Array.getElem?_eq_getElem]
    exact List.mem_map.2 ⟨e, List.mem_filter.2 ⟨by simpa using he, hb⟩, rfl⟩
theorem unl_step {l : Array Bool} {i : Nat} (hi : i < l.size) (hu : lst l i = false) : ∀ {es : List Nat}, i ∈ es → edgesOk.noDup es = true → (es.filter fun k => !lst (l.setIfInBounds i true) k).length + 1 = (es.filter fun k => !lst l k).length
  | k :: es, hm, hn => by
    obtain ⟨h1, h2⟩ := noDup_cons hn
    by_cases e : k = i
    · subst e
      have hsame : (es.filter fun j => !lst (l.setIfInBounds k true) j) = es.filter fun j => !lst l j := List.filter_congr fun j hj => by rw [lst_set hi, if_neg (fun e2 => h1 (by rw [← e2]; exact hj))]
      rw [List.filter_cons, List.filter_cons, lst_set hi, if_pos rfl, hu, hsame]
      rfl
    · have hi' : i ∈ es := by rcases List.mem_cons.1 hm with h | h; exact absurd h.symm e; exact h
      have ih := unl_step hi hu hi' h2
      rw [List.filter_cons, List.filter_cons, lst_set hi, if_neg e]
      split
      · simp only [List.length_cons]; omega
      · exact ih
theorem min_unlisted {l : Array Bool} : ∀ (n : Nat) {es : List Nat}, (∃ k ∈ es, k < n ∧ lst l k = false) → ∃ k ∈ es, lst l k = false ∧ ∀ j ∈ es, j < k → lst l j = true
  | 0, es, ⟨k, _, h, _⟩ => by omega
  | n + 1, es, ⟨k, hk, hlt, hu⟩ => by
    by_cases h : ∃ j ∈ es, j < n ∧ lst l j = false
    · exact min_unlisted n h
    · refine ⟨k, hk, hu, fun j hj hjk => ?_⟩
      cases hc : lst l j with
      | true => rfl
      | false => exact absurd ⟨j, hj, by omega, hc⟩ h
set_option maxHeartbeats 1000000 in
theorem wpAny_makers (es : List Nat) (S : World → Prop) (R : Nat → Value → List Value → World → Nat → Nat → Prop) (dp : Nat → List Nat) {fuel : Nat} {l0 : Array Bool} {a0 : Act} {w0 : World}
    (hchk : edgesOk ops l0 es = true) (hdp : ∀ k ∈ es, ∀ j ∈ dp k, ahd ops j k = true ∧ isIn j es = true) (hf : es.length ≤ fuel) (hS0 : S w0) (hSs : ∀ w w', Below w.heap.size w w' → S w → S w')
    (hRs : ∀ k ∈ es, ∀ v xs w w' lo hi, Below w.heap.size w w' → hi ≤ w.heap.size → R k v xs w lo hi → R k v xs w' lo hi)
    (hop : ∀ k ∈ es, ∀ o, ops[k]? = some o → ∀ vs w, Below w0.heap.size w0 w → S w → (∀ j, ahd ops j k = true → isIn j es = true → ∃ lo hi, hi ≤ w.heap.size ∧ R j (vs j) ((dp j).map vs) w lo hi) → ∀ K : Act → World → Prop,
      Shut (∀ v w', Below w.heap.size w w' → R k v ((dp k).map vs) w' w.heap.size w'.heap.size → K ((fill a0 ops vs es).put o.dst v) w') →
      if Region.wanted o (yielded ops (fill a0 ops vs es).tmps) = true then Oper.wp P o (fill a0 ops vs es) w K Q else K ((fill a0 ops vs es).put o.dst undef) w)
    (hend : ∀ vs w (lo hi : Nat → Nat), Below w0.heap.size w0 w → S w → (∀ k ∈ es, R k (vs k) ((dp k).map vs) w (lo k) (hi k) ∧ w0.heap.size ≤ lo k ∧ hi k ≤ w.heap.size) → (∀ j ∈ es, ∀ k ∈ es, j ≠ k → hi j ≤ lo k ∨ hi k ≤ lo j) →
      wpAny P .any ops Q (fuel - es.length) (listAll l0 es) (fill a0 ops vs es) w) : wpAny P .any ops Q fuel l0 a0 w0 := by
  unfold edgesOk at hchk
  simp only [Bool.and_eq_true, List.all_eq_true, List.mem_range, Bool.or_eq_true, Bool.not_eq_true'] at hchk
  obtain ⟨c1, c2, c3, c4, c5, c6⟩ := hchk
  have c5 : l0.size = ops.size := Nat.eq_of_beq_eq_true c5
  have hlt : ∀ k ∈ es, k < ops.size := fun k hk => by have := (c2 k hk).1; exact Nat.lt_of_lt_of_le (Nat.lt_succ_self k) (Nat.le_of_ble_eq_true this)
  have hds : ∀ k ∈ es, ∀ j ∈ es, j ≠ k → ∀ d, dsOf ops j = some d → dsOf ops k ≠ some d := fun k hk j hj hne d h1 h2 => by
    rcases c4 k hk j hj with h | h
    · exact hne (Nat.eq_of_beq_eq_true h)
    · rw [h1, h2] at h
      simp at h
  have hcl0 : ∀ k, lst l0 k = true → ∀ j ∈ afterOf ops k, lst l0 j = true := fun k hk j hj => by
    have hks : k < ops.size := by
      rw [← c5]
      rcases Nat.lt_or_ge k l0.size with h | h
      · exact h
      · unfold lst at hk; simp [Array.getElem?_eq_none h] at hk
    rcases c1 k hks with h | h
    · rw [h] at hk; cases hk
    · exact h j hj
  have key : ∀ (m : Nat) (l : Array Bool) (vs : Nat → Value) (lo hi : Nat → Nat) (w : World), (es.filter fun k => !lst l k).length = m → l.size = ops.size → (∀ k, ¬ k ∈ es → lst l k = lst l0 k) →
      (∀ k, lst l k = true → ∀ j ∈ afterOf ops k, lst l j = true) → (∀ k ∈ es, lst l k = true → R k (vs k) ((dp k).map vs) w (lo k) (hi k) ∧ w0.heap.size ≤ lo k ∧ hi k ≤ w.heap.size) →
      (∀ j ∈ es, ∀ k ∈ es, lst l j = true → lst l k = true → j ≠ k → hi j ≤ lo k ∨ hi k ≤ lo j) → S w → Below w0.heap.size w0 w →
      wpAny P .any ops Q (m + (fuel - es.length)) l (fill a0 ops vs es) w := by
    intro m
    induction m with
    | zero =>
      intro l vs lo hi w hm hsz hsame hcl hR hdis hS hB
      have hall : ∀ k ∈ es, lst l k = true := fun k hk => by
        cases h : lst l k with
        | true => rfl
        | false =>
          have : k ∈ es.filter fun k => !lst l k := List.mem_filter.2 ⟨hk, by simp [h]⟩
          rw [List.eq_nil_of_length_eq_zero hm] at this
          cases this
      rw [eq_listAll (l := l) (l0 := l0) (by omega) (fun j hj => by rw [c5]; exact hlt j hj) hsame hall, Nat.zero_add]
      exact hend vs w lo hi hB hS (fun k hk => hR k hk (hall k hk)) (fun j hj k hk hne => hdis j hj k hk (hall j hj) (hall k hk) hne)
    | succ m ih =>
      intro l vs lo hi w hm hsz hsame hcl hR hdis hS hB
      obtain ⟨k0, hk0, hu0⟩ : ∃ k ∈ es, lst l k = false := by
        cases hx : es.filter fun k => !lst l k with
        | nil => rw [hx] at hm; cases hm
        | cons k t =>
          have : k ∈ es.filter fun k => !lst l k := by rw [hx]; simp
          obtain ⟨h1, h2⟩ := List.mem_filter.1 this
          exact ⟨k, h1, by simpa using h2⟩
      have hf1 : m + 1 + (fuel - es.length) = (m + (fuel - es.length)) + 1 := by omega
      rw [hf1]
      refine ⟨fun hr => ?_, fun i hi0 => ?_⟩
      · obtain ⟨k, hk, hu, hmin⟩ := min_unlisted (l := l) ops.size ⟨k0, hk0, hlt k0 hk0, hu0⟩
        have : k ∈ Region.ready .any ops l := by
          rw [ready_after hsz]
          refine ⟨hlt k hk, hu, fun j hj => ?_⟩
          rcases (c2 k hk).2.2 j hj with h | h
          · by_cases e : j ∈ es
            · have := (c2 j e).2.1; rw [this] at h; cases h
            · rw [hsame j e]; exact h
          · exact hmin j (isIn_iff.1 h.1) (Nat.lt_of_lt_of_le (Nat.lt_succ_self j) (Nat.le_of_ble_eq_true h.2))
        rw [hr] at this
        cases this
      · have hi1 := hi0
        rw [ready_after hsz] at hi1
        obtain ⟨hilt, hiu, hia⟩ := hi1
        have hie : i ∈ es := by
          by_cases e : i ∈ es
          · exact e
          · exfalso
            rcases c3 i hilt with h | h | h
            · rw [hsame i e, h] at hiu; cases hiu
            · exact e (isIn_iff.1 h)
            · have := h k0 hk0
              unfold ahd at this
              have := anc_listed hcl ops.size i hia k0 (by simpa using this)
              rw [hu0] at this
              cases this
        have ho : ops[i]? = some ops[i] := by simp [hilt]
        have hd : dsOf ops i = (ops[i]).dst := by unfold dsOf; rw [ho]; rfl
        have hil : i < l.size := by omega
        refine wpOp_step ho fun K hK => hop i hie ops[i] ho vs w hB hS (fun j hj hje => ?_) K fun v w' hb hr => hK _ _ ?_
        · have hjl := anc_listed hcl ops.size i hia j (by unfold ahd at hj; simpa using hj)
          obtain ⟨h1, h2, h3⟩ := hR j (isIn_iff.1 hje) hjl
          exact ⟨lo j, hi j, h3, h1⟩
        · rw [← hd, fill_put hie c6 (fun k hk hne d h1 => hds i hie k hk hne d h1)]
          have hB' : Below w0.heap.size w0 w' := hB.trans (hb.mono hB.size)
          refine ih (l.setIfInBounds i true) (upd vs i v) (upd lo i w.heap.size) (upd hi i w'.heap.size) w' ?_ (by simp [hsz]) (fun k hk => ?_) (fun k hk j hj => ?_) (fun k hk hkl => ?_) (fun j hj k hk hjl hkl hne => ?_) (hSs _ _ hb hS) hB'
          · have := unl_step hil hiu hie c6; omega
          · rw [lst_set hil, if_neg (fun e => hk (by rw [e]; exact hie))]; exact hsame k hk
          · rw [lst_set hil] at hk ⊢
            by_cases e : j = i
            · rw [if_pos e]
            · rw [if_neg e]
              by_cases e2 : k = i
              · subst e2; exact hia j hj
              · rw [if_neg e2] at hk; exact hcl k hk j hj
          · by_cases e : k = i
            · subst e
              have hmp : (dp k).map (upd vs k v) = (dp k).map vs := List.map_congr_left fun j hj => upd_ne vs v (show j ≠ k from fun e2 => by
                have := anc_listed hcl ops.size k hia j (by have := (hdp k hk j hj).1; unfold ahd at this; simpa using this)
                rw [e2, hiu] at this
                cases this)
              rw [hmp, upd_same, upd_same, upd_same]; exact ⟨hr, hB.size, Nat.le_refl _⟩
            · rw [lst_set hil, if_neg e] at hkl
              obtain ⟨h1, h2, h3⟩ := hR k hk hkl
              have hmp : (dp k).map (upd vs i v) = (dp k).map vs := List.map_congr_left fun j hj => upd_ne vs v (show j ≠ i from fun e2 => by
                have := anc_listed hcl ops.size k (fun x hx => hcl k hkl x hx) j (by have := (hdp k hk j hj).1; unfold ahd at this; simpa using this)
                rw [e2, hiu] at this
                cases this)
              rw [hmp, upd_ne _ _ e, upd_ne _ _ e, upd_ne _ _ e]
              exact ⟨hRs k hk _ _ _ _ _ _ hb h3 h1, h2, Nat.le_trans h3 hb.size⟩
          · rw [lst_set hil] at hjl hkl
            by_cases e : j = i
            · subst e
              rw [upd_same, upd_same]
              have e2 : k ≠ j := Ne.symm hne
              rw [if_neg e2] at hkl
              rw [upd_ne _ _ e2, upd_ne _ _ e2]
              exact .inr (hR k hk hkl).2.2
            · rw [upd_ne _ _ e, upd_ne _ _ e]
              by_cases e2 : k = i
              · subst e2
                rw [if_neg e] at hjl
                rw [upd_same, upd_same]
                exact .inl (hR j hj hjl).2.2
              · rw [if_neg e] at hjl
                rw [if_neg e2] at hkl
                rw [upd_ne _ _ e2, upd_ne _ _ e2]
                exact hdis j hj k hk hjl hkl hne
  have hun : ∀ k ∈ es, lst l0 k = false := fun k hk => (c2 k hk).2.1
  have h0 : (es.filter fun k => !lst l0 k).length = es.length := by rw [List.filter_eq_self.2 (fun k hk => by simp [hun k hk])]
  have := key es.length l0 (fun k => match dsOf ops k with | some d => a0.tmps.getD d undef | none => undef) (fun _ => 0) (fun _ => 0) w0 h0 c5 (fun _ _ => rfl) hcl0 (fun k hk hl => by rw [hun k hk] at hl; cases hl) (fun j hj k _ hl => by rw [hun j hj] at hl; cases hl) hS0 (Below.refl _ _)
  rw [fill_own, show es.length + (fuel - es.length) = fuel by omega] at this
  exact this
/-- An operation that is gone through: its slot, its number, those by whose results its own is told. -/
structure OpD where
  slot : Option Tmp
  no : Nat
  by_ : List Nat
/-- Results put into slots, by a list of slots and operations. -/
def fillD (a : Act) (vs : Nat → Value) : List OpD → Act
  | [] => a
  | q :: l => (fillD a vs l).put q.slot (vs q.no)
def nosD : List OpD → List Nat
  | [] => []
  | q :: l => q.no :: nosD l
def dpD : List OpD → Nat → List Nat
  | [], _ => []
  | q :: l, k => if k = q.no then q.by_ else dpD l k
def slotsOk (ops : Array Oper) : List OpD → Bool
  | [] => true
  | q :: l => (match dsOf ops q.no, q.slot with | some d, some e => Nat.beq d e | none, none => true | _, _ => false) && slotsOk ops l
def depsOk (ops : Array Oper) (ds : List OpD) : Bool := (nosD ds).all fun k => (dpD ds k).all fun j => ahd ops j k && isIn j (nosD ds)
theorem fillD_eq {a : Act} {vs : Nat → Value} : ∀ {ds : List OpD}, slotsOk ops ds = true → fill a ops vs (nosD ds) = fillD a vs ds
  | [], _ => rfl
  | q :: l, h => by
    simp only [slotsOk, Bool.and_eq_true] at h
    obtain ⟨h1, h2⟩ := h
    have : dsOf ops q.no = q.slot := by
      cases h3 : dsOf ops q.no <;> cases h4 : q.slot <;> rw [h3, h4] at h1 <;> simp at h1 <;> first | rfl | (rw [h1])
    simp only [nosD, fill, fillD, fillD_eq h2, this]
/-- Something of each operation of a list. -/
def Each (ops : Array Oper) (p : Nat → Oper → Prop) : List OpD → Prop
  | [] => True
  | q :: l => (∀ o, ops[q.no]? = some o → p q.no o) ∧ Each ops p l
theorem Each.nil {p : Nat → Oper → Prop} : Each ops p [] := trivial
theorem Each.cons {p : Nat → Oper → Prop} {q : OpD} {l : List OpD} {o : Oper} (ho : ops.toList[q.no]? = some o) (h : p q.no o) (t : Each ops p l) : Each ops p (q :: l) := by
  refine ⟨fun o' ho' => ?_, t⟩
  have : ops.toList[q.no]? = some o' := by simpa using ho'
  rw [ho] at this
  cases this
  exact h
theorem Each.mem {p : Nat → Oper → Prop} : ∀ {ds : List OpD}, Each ops p ds → ∀ k ∈ nosD ds, ∀ o, ops[k]? = some o → p k o
  | [], _, k, hk, _, _ => by simp [nosD] at hk
  | q :: l, h, k, hk, o, ho => by
    rcases List.mem_cons.1 hk with rfl | hk
    · exact h.1 o ho
    · exact Each.mem h.2 k hk o ho
abbrev RelD := Nat → Value → List Value → World → Nat → Nat → Prop
/-- What is owed of one operation. -/
def Owed (P : Program) (ops : Array Oper) (Q : Exit → Act → World → Prop) (S : World → Prop) (R : RelD) (ds : List OpD) (a0 : Act) (w0 : World) (k : Nat) (o : Oper) : Prop :=
  ∀ (vs : Nat → Value) (w : World), Below w0.heap.size w0 w → S w → (∀ j, (ahd ops j k && isIn j (nosD ds)) = true → ∃ lo hi, hi ≤ w.heap.size ∧ R j (vs j) ((dpD ds j).map vs) w lo hi) → ∀ K : Act → World → Prop,
    Shut (∀ v w', Below w.heap.size w w' → R k v ((dpD ds k).map vs) w' w.heap.size w'.heap.size → K ((fillD a0 vs ds).put o.dst v) w') →
    if Region.wanted o (yielded ops (fillD a0 vs ds).tmps) = true then Oper.wp P o (fillD a0 vs ds) w K Q else K ((fillD a0 vs ds).put o.dst undef) w
/-- The same, the slots told by a list. -/
theorem wpAny_makersD (ds : List OpD) (S : World → Prop) (R : RelD) {fuel : Nat} {l0 : Array Bool} {a0 : Act} {w0 : World}
    (hchk : (edgesOk ops l0 (nosD ds) && (depsOk ops ds && (slotsOk ops ds && Nat.ble (nosD ds).length fuel))) = true) (hS0 : S w0)
    (hSs : ∀ w w', Below w.heap.size w w' → S w → S w')
    (hRs : ∀ k v xs w w' lo hi, Below w.heap.size w w' → hi ≤ w.heap.size → R k v xs w lo hi → R k v xs w' lo hi)
    (hop : Each ops (Owed P ops Q S R ds a0 w0) ds)
    (hend : ∀ vs w (lo hi : Nat → Nat), Below w0.heap.size w0 w → S w → (∀ k, isIn k (nosD ds) = true → R k (vs k) ((dpD ds k).map vs) w (lo k) (hi k) ∧ w0.heap.size ≤ lo k ∧ hi k ≤ w.heap.size) →
      (∀ j k, (isIn j (nosD ds) && (isIn k (nosD ds) && !Nat.beq j k)) = true → hi j ≤ lo k ∨ hi k ≤ lo j) →
      wpAny P .any ops Q (fuel - (nosD ds).length) (listAll l0 (nosD ds)) (fillD a0 vs ds) w) : wpAny P .any ops Q fuel l0 a0 w0 := by
  simp only [Bool.and_eq_true] at hchk
  obtain ⟨h1, h2, h3, h4⟩ := hchk
  unfold depsOk at h2
  simp only [List.all_eq_true, Bool.and_eq_true] at h2
  refine wpAny_makers (nosD ds) S R (dpD ds) h1 h2 (Nat.le_of_ble_eq_true h4) hS0 hSs (fun k _ => hRs k) (fun k hk o ho vs w hb hS hR K hK => ?_) (fun vs w lo hi hb hS hR hdis => ?_)
  · have := Each.mem hop k hk o ho vs w hb hS (fun j hj => by rw [Bool.and_eq_true] at hj; exact hR j hj.1 hj.2) K (by rw [← fillD_eq h3]; exact hK)
    rw [fillD_eq h3]
    exact this
  · rw [fillD_eq h3]
    exact hend vs w lo hi hb hS (fun k hk => hR k (isIn_iff.1 hk)) (fun j k hjk => by
      simp only [Bool.and_eq_true, Bool.not_eq_true'] at hjk
      exact hdis j (isIn_iff.1 hjk.1) k (isIn_iff.1 hjk.2.1) (fun e => by subst e; simp at hjk))
/-- One operation alone may come up. -/
theorem wpAny_one {fuel : Nat} {l : Array Bool} {a : Act} {w : World} {i : Nat} {o : Oper} (hr : Region.ready .any ops l = [i]) (ho : ops[i]? = some o)
    (h : ∀ K : Act → World → Prop, Shut (∀ a w, wpAny P .any ops Q fuel (l.setIfInBounds i true) a w → K a w) → if Region.wanted o (yielded ops a.tmps) = true then Oper.wp P o a w K Q else K (a.put o.dst undef) w) : wpAny P .any ops Q (fuel + 1) l a w :=
  wpAny_all hr (by simp) fun j hj => by
    obtain rfl : j = i := by simpa using hj
    exact wpOp_step ho fun K hK => h K hK
/-- A row of the operation's own. -/
def RowD (t size n : Nat) (xs : List Value) (v : Value) (w : World) (lo hi : Nat) : Prop := (∃ a c, v = .slice a n c) ∧ w.ownsRow lo t size v n xs ∧ ∀ g, v.ownBlock = some g → g < hi
theorem RowD.later {t size n lo hi : Nat} {xs : List Value} {v : Value} {w w' : World} (h : RowD t size n xs v w lo hi) (hb : Below w.heap.size w w') : RowD t size n xs v w' lo hi :=
  ⟨h.1, own_none h.2.1 (grown_of_below hb none), h.2.2⟩
theorem RowD.of {t size n : Nat} {xs : List Value} {v : Value} {w w' : World} (h : w'.ownsRow w.heap.size t size v n xs) : RowD t size n xs v w' w.heap.size w'.heap.size :=
  ⟨(IsSl.of_own h).form, h, fun g hg => (World.ownsRow.lt h g hg).2⟩
/-- A block of the operation's own. -/
def BlkD (o : Obj) (v : Value) (w : World) (lo hi : Nat) : Prop := ∃ g, v = .pointer (some ⟨g, 0, none⟩) ∧ lo ≤ g ∧ g < hi ∧ w.heap[g]? = some o
theorem BlkD.later {o : Obj} {lo hi : Nat} {v : Value} {w w' : World} (h : BlkD o v w lo hi) (hb : Below w.heap.size w w') : BlkD o v w' lo hi := by
  obtain ⟨g, h1, h2, h3, h4⟩ := h
  exact ⟨g, h1, h2, h3, (hb.block g (Array.getElem?_eq_some_iff.1 h4).1).trans h4⟩
theorem BlkD.new (w : World) (o : Obj) : BlkD o (.pointer (some ⟨w.heap.size, 0, none⟩)) (w.alloc o) w.heap.size (w.alloc o).heap.size :=
  ⟨w.heap.size, rfl, Nat.le_refl _, by simp, heap_alloc_new w o⟩
theorem kept_ne {w w' : World} {B e size n : Nat} {v : Value} {xs : List Value} {row : Option Nat} (h : w.ownsRow B e size v n xs) (hg : w.grownBy w' row) (hne : ∀ k, v.ownBlock = some k → row ≠ some k) : w'.ownsRow B e size v n xs := by
  cases hx : v.ownBlock with
  | none => exact World.ownsRow.kept h hg (.inl hx)
  | some k => exact World.ownsRow.kept h hg (.inr (fun e => hne k hx (by rw [← e, hx])))
end
/-- Slices of the call's own, and a new list of them. -/
theorem famN {α : Type} {mk : α → Value} {E ST B m : Nat} {V : Nat → Value} {N : Nat → Nat} {L : Nat → List α} {w0 w1 : World} (hb : Below B w0 w1) (hB : B ≤ w1.heap.size)
    (hr : ∀ j, j < m → w1.ownsRow B E 1 (V j) (N j) ((L j).map mk)) (hd : ∀ j k, j < m → k < m → j ≠ k → Dis (V j) (V k)) :
    Sep m (.slice (some ⟨w1.heap.size, 0, none⟩) m m) V ∧ Fam mk E B m (.slice (some ⟨w1.heap.size, 0, none⟩) m m) V N L w0 (w1.alloc (.cells ((List.range m).map V).toArray ST)) := by
  refine ⟨⟨fun j k hj hk hjk => hd j k hj hk hjk, fun k hk g hg => ?_⟩, ⟨hb.alloc hB _, by simp; omega, ?_, fun j hj => (hr j hj).alloc _⟩⟩
  · intro e
    have h1 := ownBlock_lit e
    have := ((hr k hk).lt g hg).2
    omega
  · refine ⟨by simp, .inr ⟨w1.heap.size, 0, m, rfl, Nat.le_refl _, by simp, fun j hj => ?_⟩⟩
    rw [Nat.zero_add, cell_of_row _ _ _ ((List.range m).map V).toArray ST (0, 0) (heap_alloc_new w1 _)]
    simp
end Go.Proofs.YtdepiggjneoopaaGreatDoor
