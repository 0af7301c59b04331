/- a part of the proof of the last text -/
import Derived.Test.YtdepiggjneoopaaGreatDoorZReg2
import Derived.Test.YtdepiggjneoopaaGreatDoorZFlat
namespace Go.Proofs.YtdepiggjneoopaaGreatDoor
set_option linter.all false
set_option maxHeartbeats 4000000
set_option maxRecDepth 100000
open Go.RowKit
section
variable {P : Program} {ops : Array Oper} {Q : Exit → Act → World → Prop}
set_option maxHeartbeats 1000000 in
theorem wpAny_makersT (es : List Nat) (G : World → World → Prop) (St : Nat → World → World → Prop) (S : (Nat → Bool) → World → Prop) (R : Nat → Value → List Value → World → Nat → Nat → Prop) (dp : Nat → List Nat) {fuel : Nat} {l0 : Array Bool} {a0 : Act} {w0 : World}
    (hchk : edgesOk ops l0 es = true) (hdp : ∀ k ∈ es, ∀ j ∈ dp k, ahd ops j k = true ∧ isIn j es = true) (hf : es.length ≤ fuel) (hS0 : S (fun k => lst l0 k) w0) (hG0 : ∀ w, G w w) (hGt : ∀ w w1 w2, G w w1 → G w1 w2 → G w w2) (hGs : ∀ w w', G w w' → w.heap.size ≤ w'.heap.size) (hStG : ∀ k ∈ es, ∀ w w', St k w w' → G w w') (hSs : ∀ k ∈ es, ∀ d w w', d k = false → G w0 w → St k w w' → S d w → S (upd d k true) w')
    (hRs : ∀ k ∈ es, ∀ i ∈ es, k ≠ i → ∀ v xs w w' lo hi, w0.heap.size ≤ lo → St i w w' → hi ≤ w.heap.size → R k v xs w lo hi → R k v xs w' lo hi)
    (hop : ∀ k ∈ es, ∀ o, ops[k]? = some o → ∀ vs d w, G w0 w → d k = false → S d w → (∀ j, ahd ops j k = true → isIn j es = true → ∃ lo hi, hi ≤ w.heap.size ∧ R j (vs j) ((dp j).map vs) w lo hi) → ∀ K : Act → World → Prop,
      Shut (∀ v w', St k w w' → R k v ((dp k).map vs) w' w.heap.size w'.heap.size → K ((fill a0 ops vs es).put o.dst v) w') →
      if Region.wanted o (yielded ops (fill a0 ops vs es).tmps) = true then Oper.wp P o (fill a0 ops vs es) w K Q else K ((fill a0 ops vs es).put o.dst undef) w)
    (hend : ∀ vs w (lo hi : Nat → Nat), G w0 w → S (fun k => lst (listAll l0 es) k) w → (∀ k ∈ es, R k (vs k) ((dp k).map vs) w (lo k) (hi k) ∧ w0.heap.size ≤ lo k ∧ hi k ≤ w.heap.size) → (∀ j ∈ es, ∀ k ∈ es, j ≠ k → hi j ≤ lo k ∨ hi k ≤ lo j) →
      wpAny P .any ops Q (fuel - es.length) (listAll l0 es) (fill a0 ops vs es) w) : wpAny P .any ops Q fuel l0 a0 w0 := by
  unfold edgesOk at hchk
  simp only [Bool.and_eq_true, List.all_eq_true, List.mem_range, Bool.or_eq_true, Bool.not_eq_true'] at hchk
  obtain ⟨c1, c2, c3, c4, c5, c6⟩ := hchk
  have c5 : l0.size = ops.size := Nat.eq_of_beq_eq_true c5
  have hlt : ∀ k ∈ es, k < ops.size := fun k hk => by have := (c2 k hk).1; exact Nat.lt_of_lt_of_le (Nat.lt_succ_self k) (Nat.le_of_ble_eq_true this)
  have hds : ∀ k ∈ es, ∀ j ∈ es, j ≠ k → ∀ d, dsOf ops j = some d → dsOf ops k ≠ some d := fun k hk j hj hne d h1 h2 => by
    rcases c4 k hk j hj with h | h
    · exact hne (Nat.eq_of_beq_eq_true h)
    · rw [h1, h2] at h
      simp at h
  have hcl0 : ∀ k, lst l0 k = true → ∀ j ∈ afterOf ops k, lst l0 j = true := fun k hk j hj => by
    have hks : k < ops.size := by
      rw [← c5]
      rcases Nat.lt_or_ge k l0.size with h | h
      · exact h
      · unfold lst at hk; simp [Array.getElem?_eq_none h] at hk
    rcases c1 k hks with h | h
    · rw [h] at hk; cases hk
    · exact h j hj
  have key : ∀ (m : Nat) (l : Array Bool) (vs : Nat → Value) (lo hi : Nat → Nat) (w : World), (es.filter fun k => !lst l k).length = m → l.size = ops.size → (∀ k, ¬ k ∈ es → lst l k = lst l0 k) →
      (∀ k, lst l k = true → ∀ j ∈ afterOf ops k, lst l j = true) → (∀ k ∈ es, lst l k = true → R k (vs k) ((dp k).map vs) w (lo k) (hi k) ∧ w0.heap.size ≤ lo k ∧ hi k ≤ w.heap.size) →
      (∀ j ∈ es, ∀ k ∈ es, lst l j = true → lst l k = true → j ≠ k → hi j ≤ lo k ∨ hi k ≤ lo j) → S (fun k => lst l k) w → G w0 w →
      wpAny P .any ops Q (m + (fuel - es.length)) l (fill a0 ops vs es) w := by
    intro m
    induction m with
    | zero =>
      intro l vs lo hi w hm hsz hsame hcl hR hdis hS hB
      have hall : ∀ k ∈ es, lst l k = true := fun k hk => by
        cases h : lst l k with
        | true => rfl
        | false =>
          have : k ∈ es.filter fun k => !lst l k := List.mem_filter.2 ⟨hk, by simp [h]⟩
          rw [List.eq_nil_of_length_eq_zero hm] at this
          cases this
      have hLL := eq_listAll (l := l) (l0 := l0) (by omega) (fun j hj => by rw [c5]; exact hlt j hj) hsame hall
      rw [Nat.zero_add]
      rw [hLL] at hS ⊢
      exact hend vs w lo hi hB hS (fun k hk => hR k hk (hall k hk)) (fun j hj k hk hne => hdis j hj k hk (hall j hj) (hall k hk) hne)
    | succ m ih =>
      intro l vs lo hi w hm hsz hsame hcl hR hdis hS hB
      obtain ⟨k0, hk0, hu0⟩ : ∃ k ∈ es, lst l k = false := by
        cases hx : es.filter fun k => !lst l k with
        | nil => rw [hx] at hm; cases hm
        | cons k t =>
          have : k ∈ es.filter fun k => !lst l k := by rw [hx]; simp
          obtain ⟨h1, h2⟩ := List.mem_filter.1 this
          exact ⟨k, h1, by simpa using h2⟩
      have hf1 : m + 1 + (fuel - es.length) = (m + (fuel - es.length)) + 1 := by omega
      rw [hf1]
      refine ⟨fun hr => ?_, fun i hi0 => ?_⟩
      · obtain ⟨k, hk, hu, hmin⟩ := min_unlisted (l := l) ops.size ⟨k0, hk0, hlt k0 hk0, hu0⟩
        have : k ∈ Region.ready .any ops l := by
          rw [ready_after hsz]
          refine ⟨hlt k hk, hu, fun j hj => ?_⟩
          rcases (c2 k hk).2.2 j hj with h | h
          · by_cases e : j ∈ es
            · have := (c2 j e).2.1; rw [this] at h; cases h
            · rw [hsame j e]; exact h
          · exact hmin j (isIn_iff.1 h.1) (Nat.lt_of_lt_of_le (Nat.lt_succ_self j) (Nat.le_of_ble_eq_true h.2))
        rw [hr] at this
        cases this
      · have hi1 := hi0
        rw [ready_after hsz] at hi1
        obtain ⟨hilt, hiu, hia⟩ := hi1
        have hie : i ∈ es := by
          by_cases e : i ∈ es
          · exact e
          · exfalso
            rcases c3 i hilt with h | h | h
            · rw [hsame i e, h] at hiu; cases hiu
            · exact e (isIn_iff.1 h)
            · have := h k0 hk0
              unfold ahd at this
              have := anc_listed hcl ops.size i hia k0 (by simpa using this)
              rw [hu0] at this
              cases this
        have ho : ops[i]? = some ops[i] := by simp [hilt]
        have hd : dsOf ops i = (ops[i]).dst := by unfold dsOf; rw [ho]; rfl
        have hil : i < l.size := by omega
        refine wpOp_step ho fun K hK => hop i hie ops[i] ho vs (fun k => lst l k) w hB hiu hS (fun j hj hje => ?_) K fun v w' hb hr => hK _ _ ?_
        · have hjl := anc_listed hcl ops.size i hia j (by unfold ahd at hj; simpa using hj)
          obtain ⟨h1, h2, h3⟩ := hR j (isIn_iff.1 hje) hjl
          exact ⟨lo j, hi j, h3, h1⟩
        · rw [← hd, fill_put hie c6 (fun k hk hne d h1 => hds i hie k hk hne d h1)]
          have hG' := hStG i hie _ _ hb
          have hB' : G w0 w' := hGt _ _ _ hB hG'
          have hSn : S (fun k => lst (l.setIfInBounds i true) k) w' := by
            have hS2 := hSs i hie (fun k => lst l k) _ _ hiu hB hb hS
            have he : upd (fun k => lst l k) i true = fun k => lst (l.setIfInBounds i true) k := funext fun k => by rw [lst_set hil]; rfl
            rw [he] at hS2
            exact hS2
          refine ih (l.setIfInBounds i true) (upd vs i v) (upd lo i w.heap.size) (upd hi i w'.heap.size) w' ?_ (by simp [hsz]) (fun k hk => ?_) (fun k hk j hj => ?_) (fun k hk hkl => ?_) (fun j hj k hk hjl hkl hne => ?_) hSn hB'
          · have := unl_step hil hiu hie c6; omega
          · rw [lst_set hil, if_neg (fun e => hk (by rw [e]; exact hie))]; exact hsame k hk
          · rw [lst_set hil] at hk ⊢
            by_cases e : j = i
            · rw [if_pos e]
            · rw [if_neg e]
              by_cases e2 : k = i
              · subst e2; exact hia j hj
              · rw [if_neg e2] at hk; exact hcl k hk j hj
          · by_cases e : k = i
            · subst e
              have hmp : (dp k).map (upd vs k v) = (dp k).map vs := List.map_congr_left fun j hj => upd_ne vs v (show j ≠ k from fun e2 => by
                have := anc_listed hcl ops.size k hia j (by have := (hdp k hk j hj).1; unfold ahd at this; simpa using this)
                rw [e2, hiu] at this
                cases this)
              rw [hmp, upd_same, upd_same, upd_same]; exact ⟨hr, hGs _ _ hB, Nat.le_refl _⟩
            · rw [lst_set hil, if_neg e] at hkl
              obtain ⟨h1, h2, h3⟩ := hR k hk hkl
              have hmp : (dp k).map (upd vs i v) = (dp k).map vs := List.map_congr_left fun j hj => upd_ne vs v (show j ≠ i from fun e2 => by
                have := anc_listed hcl ops.size k (fun x hx => hcl k hkl x hx) j (by have := (hdp k hk j hj).1; unfold ahd at this; simpa using this)
                rw [e2, hiu] at this
                cases this)
              rw [hmp, upd_ne _ _ e, upd_ne _ _ e, upd_ne _ _ e]
              exact ⟨hRs k hk i hie e _ _ _ _ _ _ h2 hb h3 h1, h2, Nat.le_trans h3 (hGs _ _ hG')⟩
          · rw [lst_set hil] at hjl hkl
            by_cases e : j = i
            · subst e
              rw [upd_same, upd_same]
              have e2 : k ≠ j := Ne.symm hne
              rw [if_neg e2] at hkl
              rw [upd_ne _ _ e2, upd_ne _ _ e2]
              exact .inr (hR k hk hkl).2.2
            · rw [upd_ne _ _ e, upd_ne _ _ e]
              by_cases e2 : k = i
              · subst e2
                rw [if_neg e] at hjl
                rw [upd_same, upd_same]
                exact .inl (hR j hj hjl).2.2
              · rw [if_neg e] at hjl
                rw [if_neg e2] at hkl
                rw [upd_ne _ _ e2, upd_ne _ _ e2]
                exact hdis j hj k hk hjl hkl hne
  have hun : ∀ k ∈ es, lst l0 k = false := fun k hk => (c2 k hk).2.1
  have h0 : (es.filter fun k => !lst l0 k).length = es.length := by rw [List.filter_eq_self.2 (fun k hk => by simp [hun k hk])]
  have := key es.length l0 (fun k => match dsOf ops k with | some d => a0.tmps.getD d undef | none => undef) (fun _ => 0) (fun _ => 0) w0 h0 c5 (fun _ _ => rfl) hcl0 (fun k hk hl => by rw [hun k hk] at hl; cases hl) (fun j hj k _ hl => by rw [hun j hj] at hl; cases hl) hS0 (hG0 _)
  rw [show fill a0 ops (fun k => match dsOf ops k with | some d => a0.tmps.getD d undef | none => undef) es = a0 from fill_own, show es.length + (fuel - es.length) = fuel by omega] at this
  exact this
/-- What is owed of one operation. -/
def OwedT (P : Program) (ops : Array Oper) (Q : Exit → Act → World → Prop) (G : World → World → Prop) (St : Nat → World → World → Prop) (S : (Nat → Bool) → World → Prop) (R : RelD) (ds : List OpD) (a0 : Act) (w0 : World) (k : Nat) (o : Oper) : Prop :=
  ∀ (vs : Nat → Value) (d : Nat → Bool) (w : World), G w0 w → d k = false → S d w → (∀ j, (ahd ops j k && isIn j (nosD ds)) = true → ∃ lo hi, hi ≤ w.heap.size ∧ R j (vs j) ((dpD ds j).map vs) w lo hi) → ∀ K : Act → World → Prop,
    Shut (∀ v w', St k w w' → R k v ((dpD ds k).map vs) w' w.heap.size w'.heap.size → K ((fillD a0 vs ds).put o.dst v) w') →
    if Region.wanted o (yielded ops (fillD a0 vs ds).tmps) = true then Oper.wp P o (fillD a0 vs ds) w K Q else K ((fillD a0 vs ds).put o.dst undef) w
/-- The same, the slots told by a list. -/
theorem wpAny_makersTD (ds : List OpD) (G : World → World → Prop) (St : Nat → World → World → Prop) (S : (Nat → Bool) → World → Prop) (R : RelD) {fuel : Nat} {l0 : Array Bool} {a0 : Act} {w0 : World}
    (hchk : (edgesOk ops l0 (nosD ds) && (depsOk ops ds && (slotsOk ops ds && Nat.ble (nosD ds).length fuel))) = true) (hS0 : S (fun k => lst l0 k) w0)
    (hG0 : ∀ w, G w w) (hGt : ∀ w w1 w2, G w w1 → G w1 w2 → G w w2) (hGs : ∀ w w', G w w' → w.heap.size ≤ w'.heap.size) (hStG : ∀ k w w', St k w w' → G w w')
    (hSs : ∀ k d w w', d k = false → G w0 w → St k w w' → S d w → S (upd d k true) w')
    (hRs : ∀ k i, k ≠ i → ∀ v xs w w' lo hi, w0.heap.size ≤ lo → St i w w' → hi ≤ w.heap.size → R k v xs w lo hi → R k v xs w' lo hi)
    (hop : Each ops (OwedT P ops Q G St S R ds a0 w0) ds)
    (hend : ∀ vs w (lo hi : Nat → Nat), G w0 w → S (fun k => lst (listAll l0 (nosD ds)) k) w → (∀ k, isIn k (nosD ds) = true → R k (vs k) ((dpD ds k).map vs) w (lo k) (hi k) ∧ w0.heap.size ≤ lo k ∧ hi k ≤ w.heap.size) →
      (∀ j k, (isIn j (nosD ds) && (isIn k (nosD ds) && !Nat.beq j k)) = true → hi j ≤ lo k ∨ hi k ≤ lo j) →
      wpAny P .any ops Q (fuel - (nosD ds).length) (listAll l0 (nosD ds)) (fillD a0 vs ds) w) : wpAny P .any ops Q fuel l0 a0 w0 := by
  simp only [Bool.and_eq_true] at hchk
  obtain ⟨h1, h2, h3, h4⟩ := hchk
  unfold depsOk at h2
  simp only [List.all_eq_true, Bool.and_eq_true] at h2
  refine wpAny_makersT (nosD ds) G St S R (dpD ds) h1 h2 (Nat.le_of_ble_eq_true h4) hS0 hG0 hGt hGs (fun k _ => hStG k) (fun k _ => hSs k) (fun k _ i _ => hRs k i) (fun k hk o ho vs d w hb hdk hS hR K hK => ?_) (fun vs w lo hi hb hS hR hdis => ?_)
  · have := Each.mem hop k hk o ho vs d w hb hdk hS (fun j hj => by rw [Bool.and_eq_true] at hj; exact hR j hj.1 hj.2) K (by rw [← fillD_eq h3]; exact hK)
    rw [fillD_eq h3]
    exact this
  · rw [fillD_eq h3]
    exact hend vs w lo hi hb hS (fun k hk => hR k (isIn_iff.1 hk)) (fun j k hjk => by
      simp only [Bool.and_eq_true, Bool.not_eq_true'] at hjk
      exact hdis j (isIn_iff.1 hjk.1) k (isIn_iff.1 hjk.2.1) (fun e => by subst e; simp at hjk))
end
theorem append_own_op {P : Program} {o : Oper} {a : Act} {w : World} {K : Act → World → Prop} {Q : Exit → Act → World → Prop}
    (hg : o.guard = none) (s x : Operand) (t : TypeId) (hop : o.op = Op.call { callee := Callee.builtin Builtin.append, args := #[s, x], argTypes := #[t, t] })
    (base e size bytes : Nat) (i : TypeInfo) (z : Value) (ht : P.underlying t = some (.slice e)) (hi : P.info? e = some i) (hz : i.zero = some z)
    (hsize : i.size = size) (hby : i.bytes = bytes) (hzs : z.cells.size = size)
    (v : Value) (n : Nat) (xs : List Value) (hown : w.ownsRow base e size v n xs) (ad : Addr) (m c : Nat) (news : List Value) (hs : a.eval s = v) (hx : a.eval x = .slice (some ad) m c)
    (hl : news.length = m * size) (hnews : ∀ j u, news[j]? = some u → w.cell? (ad.add j) = some u) (h1 : ∀ u ∈ news, u.oneCell' = true) (hm0 : 0 < m)
    (h63 : n + m ≤ maxLen) (hbytes : (n + m) * bytes ≤ 140737488355328) (hbase : base ≤ w.heap.size)
    (hK : ∀ g cap w', w'.ownsRow base e size (.slice (some ⟨g, 0, none⟩) (n + m) cap) (n + m) (xs ++ news) → g < w'.heap.size → ((v.ownBlock = some g ∧ w.grownBy w' (some g)) ∨ (g = w.heap.size ∧ w.grownBy w' none)) →
      K (a.put o.dst (.slice (some ⟨g, 0, none⟩) (n + m) cap)) w') : Oper.wp P o a w K Q := by
  have h := step_append_own (ops := #[]) (Q := Q) (E := False) hg s x t hop base e size bytes i z ht hi hz hsize hby hzs v n xs hown ad m c news hs hx hl hnews h1 hm0 h63 hbytes hbase hK
  have hw : Region.wanted o (yielded #[] a.tmps) = true := by simp [Region.wanted, hg]
  rwa [if_pos hw] at h
/-- A slice of one element, made. -/
def OneD (x : Value) (t : Nat) (v : Value) (w : World) (lo hi : Nat) : Prop := ∃ b, v = .slice (some ⟨b, 0, none⟩) 1 1 ∧ lo ≤ b ∧ b < hi ∧ w.heap[b]? = some (.cells #[x] t (0, 0))
theorem OneD.later {x : Value} {t lo hi : Nat} {v : Value} {w w' : World} (h : OneD x t v w lo hi) (hb : Below w.heap.size w w') : OneD x t v w' lo hi := by
  obtain ⟨b, h1, h2, h3, h4⟩ := h
  exact ⟨b, h1, h2, h3, heap_next hb h4⟩
theorem OneD.grown {x : Value} {t lo hi g : Nat} {v : Value} {w w' : World} (h : OneD x t v w lo hi) (hg : w.grownBy w' (some g)) (hl : g < lo) : OneD x t v w' lo hi := by
  obtain ⟨b, h1, h2, h3, h4⟩ := h
  exact ⟨b, h1, h2, h3, heap_nextG hg (by omega) h4⟩
end Go.Proofs.YtdepiggjneoopaaGreatDoor
