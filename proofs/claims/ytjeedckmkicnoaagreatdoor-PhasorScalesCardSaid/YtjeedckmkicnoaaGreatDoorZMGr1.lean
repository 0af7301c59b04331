/- a part of the proof of the last text -/
import Derived.Test.YtjeedckmkicnoaaGreatDoorZMRNone
namespace Go.Proofs.YtjeedckmkicnoaaGreatDoor
set_option linter.all false
set_option maxHeartbeats 4000000
set_option maxRecDepth 100000
section
open Go.RowKit
/-- Does an element join its nodes? -/
def joinsE (x : El) : Bool := x.kind != 4 && x.kind != 6
/-- The place of a node, the ground's is 0. -/
def gIx (l : List El) (s : ByteArray) : Nat := if has (nds l) s = true then (plI (nds l) s).toNat + 1 else 0
def rootF (up : List Nat) : Nat → Nat → Nat
  | 0, k => k
  | f + 1, k => if up.getD k 0 = k then k else rootF up f (up.getD k 0)
/-- Each place leads to one not above it. -/
def Fine (up : List Nat) : Prop := ∀ k, k < up.length → up.getD k 0 ≤ k
def rootOf (up : List Nat) (k : Nat) : Nat := rootF up (k + 1) k
theorem rootF_more {up : List Nat} (h : Fine up) : ∀ (f g k : Nat), k < up.length → k < f → k < g → rootF up f k = rootF up g k
  | 0, _, _, _, h1, _ => by omega
  | _, 0, _, _, _, h2 => by omega
  | f + 1, g + 1, k, hk, h1, h2 => by
    unfold rootF
    split
    · rfl
    · have := h k hk
      exact rootF_more h f g _ (by omega) (by omega) (by omega)
theorem root_step {up : List Nat} (h : Fine up) {k : Nat} (hk : k < up.length) : rootOf up k = if up.getD k 0 = k then k else rootOf up (up.getD k 0) := by
  have h1 := h k hk
  show rootF up (k + 1) k = _
  unfold rootF
  split
  · rfl
  · exact rootF_more h _ _ _ (by omega) (by omega) (by omega)
theorem root_le {up : List Nat} (h : Fine up) : ∀ (k : Nat), k < up.length → rootOf up k ≤ k := by
  intro k
  induction k using Nat.strongRecOn with
  | _ k ih =>
    intro hk
    rw [root_step h hk]
    split
    · omega
    · have := h k hk
      have := ih (up.getD k 0) (by omega) (by omega)
      omega
theorem root_fix {up : List Nat} (h : Fine up) : ∀ (k : Nat), k < up.length → up.getD (rootOf up k) 0 = rootOf up k := by
  intro k
  induction k using Nat.strongRecOn with
  | _ k ih =>
    intro hk
    rw [root_step h hk]
    split
    · assumption
    · have := h k hk
      exact ih _ (by omega) (by omega)
theorem getD_set {up : List Nat} {i j k : Nat} (hi : i < up.length) : (up.set i j).getD k 0 = if k = i then j else up.getD k 0 := by
  rw [List.getD_eq_getElem?_getD, List.getD_eq_getElem?_getD]
  by_cases e : k = i
  · subst e; rw [List.getElem?_set_self hi, if_pos rfl]; rfl
  · rw [List.getElem?_set_ne (Ne.symm e), if_neg e]
theorem fine_set {up : List Nat} {i j : Nat} (h : Fine up) (hi : i < up.length) (hj : j ≤ i) : Fine (up.set i j) := fun k hk => by
  rw [getD_set hi]
  split
  · omega
  · exact h k (by simpa using hk)
theorem root_set {up : List Nat} {i j : Nat} (h : Fine up) (hi : i < up.length) (hj : j ≤ i) (fi : up.getD i 0 = i) (fj : up.getD j 0 = j) :
    ∀ (k : Nat), k < up.length → rootOf (up.set i j) k = if rootOf up k = i then j else rootOf up k := by
  have h' := fine_set h hi hj
  have hlen : (up.set i j).length = up.length := by simp
  have hroot_j : rootOf (up.set i j) j = j := by
    rw [root_step h' (by omega), getD_set hi]
    by_cases e : j = i
    · rw [if_pos e, if_pos rfl]
    · rw [if_neg e, if_pos fj]
  intro k
  induction k using Nat.strongRecOn with
  | _ k ih =>
    intro hk
    rw [root_step h' (by omega), root_step h hk, getD_set hi]
    by_cases e : k = i
    · subst e
      rw [if_pos rfl, if_pos fi, if_pos rfl]
      by_cases e2 : j = k
      · rw [if_pos e2, e2]
      · rw [if_neg e2, hroot_j]
    · rw [if_neg e]
      by_cases e2 : up.getD k 0 = k
      · rw [if_pos e2, if_pos e2, if_neg e]
      · rw [if_neg e2, if_neg e2]
        have := h k hk
        exact ih _ (by omega) (by omega)
/-- Two sets are joined. -/
def joinU (up : List Nat) (a b : Nat) : List Nat := up.set (max (rootOf up a) (rootOf up b)) (min (rootOf up a) (rootOf up b))
theorem joinU_ok {up : List Nat} (h : Fine up) {a b : Nat} (ha : a < up.length) (hb : b < up.length) : Fine (joinU up a b) ∧ (joinU up a b).length = up.length ∧
    ∀ k, k < up.length → rootOf (joinU up a b) k = if rootOf up k = max (rootOf up a) (rootOf up b) then min (rootOf up a) (rootOf up b) else rootOf up k := by
  have r1 := root_le h a ha
  have r2 := root_le h b hb
  have f1 := root_fix h a ha
  have f2 := root_fix h b hb
  have hmx : up.getD (max (rootOf up a) (rootOf up b)) 0 = max (rootOf up a) (rootOf up b) := by
    rcases Nat.le_total (rootOf up a) (rootOf up b) with e | e
    · rw [Nat.max_eq_right e]; exact f2
    · rw [Nat.max_eq_left e]; exact f1
  have hmn : up.getD (min (rootOf up a) (rootOf up b)) 0 = min (rootOf up a) (rootOf up b) := by
    rcases Nat.le_total (rootOf up a) (rootOf up b) with e | e
    · rw [Nat.min_eq_left e]; exact f1
    · rw [Nat.min_eq_right e]; exact f2
  exact ⟨fine_set h (by omega) (by omega), by simp [joinU], fun k hk => root_set h (by omega) (by omega) hmx hmn k hk⟩
def joinP (p : List Nat) (a b : Nat) : List Nat := p.map fun x => if x = p.getD a 0 then p.getD b 0 else x
theorem joinP_get {p : List Nat} {a b k : Nat} (hk : k < p.length) : (joinP p a b).getD k 0 = if p.getD k 0 = p.getD a 0 then p.getD b 0 else p.getD k 0 := by
  unfold joinP
  rw [List.getD_eq_getElem?_getD, List.getElem?_map, List.getElem?_eq_getElem hk, List.getD_eq_getElem?_getD (l := p) (i := k), List.getElem?_eq_getElem hk]; rfl
/-- Both tell the same of who hangs together with whom. -/
structure Alike (up p : List Nat) : Prop where
  fine : Fine up
  len : p.length = up.length
  same : ∀ a b, a < up.length → b < up.length → (rootOf up a = rootOf up b ↔ p.getD a 0 = p.getD b 0)
theorem Alike.join {up p : List Nat} (h : Alike up p) {a b : Nat} (ha : a < up.length) (hb : b < up.length) : Alike (joinU up a b) (joinP p a b) := by
  obtain ⟨h1, h2, h3⟩ := joinU_ok h.fine ha hb
  refine ⟨h1, by simp [joinP, h2, h.len], fun x y hx hy => ?_⟩
  rw [h2] at hx hy
  rw [h3 x hx, h3 y hy, joinP_get (by rw [h.len]; exact hx), joinP_get (by rw [h.len]; exact hy)]
  have xa := h.same x a hx ha
  have xb := h.same x b hx hb
  have ya := h.same y a hy ha
  have yb := h.same y b hy hb
  have xy := h.same x y hx hy
  generalize rootOf up x = rx at *
  generalize rootOf up y = ry at *
  generalize rootOf up a = ra at *
  generalize rootOf up b = rb at *
  generalize p.getD x 0 = px at *
  generalize p.getD y 0 = py at *
  generalize p.getD a 0 = pa at *
  generalize p.getD b 0 = pb at *
  have L1 : ∀ r : Nat, (if r = max ra rb then min ra rb else r) = (if r = ra ∨ r = rb then min ra rb else r) := fun r => by split <;> split <;> omega
  have L2 : ∀ q : Nat, (if q = pa then pb else q) = (if q = pa ∨ q = pb then pb else q) := fun q => by split <;> split <;> omega
  rw [L1, L1, L2, L2]
  have cx : (rx = ra ∨ rx = rb) ↔ (px = pa ∨ px = pb) := or_congr xa xb
  have cy : (ry = ra ∨ ry = rb) ↔ (py = pa ∨ py = pb) := or_congr ya yb
  by_cases hx1 : rx = ra ∨ rx = rb <;> by_cases hy1 : ry = ra ∨ ry = rb
  · rw [if_pos hx1, if_pos hy1, if_pos (cx.1 hx1), if_pos (cy.1 hy1)]; simp
  · have hy2 := fun h => hy1 (cy.2 h)
    rw [if_pos hx1, if_neg hy1, if_pos (cx.1 hx1), if_neg hy2]
    constructor <;> intro h <;> omega
  · have hx2 := fun h => hx1 (cx.2 h)
    rw [if_neg hx1, if_pos hy1, if_neg hx2, if_pos (cy.1 hy1)]
    constructor <;> intro h <;> omega
  · rw [if_neg hx1, if_neg hy1, if_neg (fun h => hx1 (cx.2 h)), if_neg (fun h => hy1 (cy.2 h))]
    exact xy
/-- The nodes' sets by all elements that join. -/
def upK (l : List El) : Nat → List Nat
  | 0 => List.range ((nds l).length + 1)
  | k + 1 => match l[k]? with
    | some x => if joinsE x = true then joinU (upK l k) (gIx l x.a) (gIx l x.b) else upK l k
    | none => upK l k
def ptK (l : List El) : Nat → List Nat
  | 0 => List.range ((nds l).length + 1)
  | k + 1 => match l[k]? with
    | some x => if joinsE x = true then joinP (ptK l k) (gIx l x.a) (gIx l x.b) else ptK l k
    | none => ptK l k
theorem gIx_lt (l : List El) (s : ByteArray) : gIx l s < (nds l).length + 1 := by
  unfold gIx
  split
  · rename_i h
    unfold plI
    rw [if_pos h]
    have : (nds l).findIdx (fun t => t.toList == s.toList) < (nds l).length := by
      rw [List.findIdx_lt_length]
      unfold has at h
      simpa using h
    omega
  · omega
theorem range_getD {n k : Nat} (h : k < n) : (List.range n).getD k 0 = k := by
  rw [List.getD_eq_getElem?_getD, List.getElem?_range h]; rfl
theorem fine_range (n : Nat) : Fine (List.range n) := fun k hk => by rw [range_getD (by simpa using hk)]; exact Nat.le_refl _
theorem root_range {n k : Nat} (h : k < n) : rootOf (List.range n) k = k := by
  rw [root_step (fine_range n) (by simpa using h), range_getD h, if_pos rfl]
theorem upK_len (l : List El) : ∀ k, Alike (upK l k) (ptK l k) ∧ (upK l k).length = (nds l).length + 1
  | 0 => ⟨⟨fine_range _, by simp [upK, ptK], fun a b ha hb => by
      simp only [upK, List.length_range] at ha hb
      simp only [upK, ptK]
      rw [root_range ha, root_range hb, range_getD ha, range_getD hb]⟩, by simp [upK]⟩
  | k + 1 => by
    obtain ⟨h1, h2⟩ := upK_len l k
    unfold upK ptK
    cases hx : l[k]? with
    | none => exact ⟨h1, h2⟩
    | some x =>
      simp only
      split
      · have ha : gIx l x.a < (upK l k).length := by rw [h2]; exact gIx_lt l _
        have hb : gIx l x.b < (upK l k).length := by rw [h2]; exact gIx_lt l _
        exact ⟨h1.join ha hb, by rw [(joinU_ok h1.fine ha hb).2.1, h2]⟩
      · exact ⟨h1, h2⟩
/-- The first node that does not hang together with the ground. -/
def grdU (l : List El) : Option Nat := (List.range (nds l).length).find? fun i => rootOf (upK l l.length) (i + 1) != 0
def grdP (l : List El) : Option Nat := (List.range (nds l).length).find? fun i => (ptK l l.length).getD (i + 1) 0 != (ptK l l.length).getD 0 0
theorem grd_same (l : List El) : grdU l = grdP l := by
  obtain ⟨h1, h2⟩ := upK_len l l.length
  unfold grdU grdP
  have key : ∀ i ∈ List.range (nds l).length, (rootOf (upK l l.length) (i + 1) != 0) = ((ptK l l.length).getD (i + 1) 0 != (ptK l l.length).getD 0 0) := fun i hi => by
    have hi := List.mem_range.1 hi
    have h0 := root_le h1.fine 0 (by omega)
    have := h1.same (i + 1) 0 (by omega) (by omega)
    rw [show rootOf (upK l l.length) 0 = 0 by omega] at this
    rw [Bool.eq_iff_iff]
    simp only [bne_iff_ne, ne_eq, this]
  have gen : ∀ (m : List Nat) {p q : Nat → Bool}, (∀ i ∈ m, p i = q i) → m.find? p = m.find? q := fun m => by
    induction m with
    | nil => intro p q _; rfl
    | cons a m ih =>
      intro p q h
      rw [List.find?_cons, List.find?_cons, h a (by simp), ih (fun i hi => h i (by simp [hi]))]
  exact gen _ key
/-- The fault of a net that does not hang together with the ground. -/
def grdS (b : Bool) (l : List El) : Int × Int := if b = true then (1, -1) else match grdU l with
  | some i => (11, i)
  | none => (0, 0)
end
section
/- Places of nodes, the ground's ahead: plain law. -/
open Go.RowKit
/-- The ground, then the net's nodes. -/
def gnds (l : List El) : List ByteArray := ⟨#[48]⟩ :: nds l
theorem gnds_len (l : List El) : (gnds l).length = (nds l).length + 1 := by simp [gnds]
theorem gnds_take {l : List El} {k : Nat} {t : ByteArray} (h : (nds l)[k]? = some t) : (gnds l).take (k + 2) = (gnds l).take (k + 1) ++ [t] := by
  unfold gnds
  rw [List.take_succ_cons, List.take_succ_cons, List.take_add_one, h]; rfl
theorem nd1_gnd {acc : List ByteArray} {s t : ByteArray} (hs : gnd s = true) (h : has acc s = false) : has (nd1 acc t) s = false := by
  unfold nd1
  split
  · exact h
  · rename_i h2
    rw [has_app, h, Bool.false_or]
    cases e : (t.toList == s.toList)
    · rfl
    · exfalso
      rw [(same_iff t s).1 e, hs] at h2
      simp at h2
theorem fold_gnd {s : ByteArray} (hs : gnd s = true) : ∀ (r acc : List ByteArray), has acc s = false → has (r.foldl nd1 acc) s = false
  | [], _, h => h
  | t :: r, _, h => fold_gnd hs r _ (nd1_gnd hs h)
theorem nds_gnd {s : ByteArray} (hs : gnd s = true) : ∀ (l : List El) (acc : List ByteArray), has acc s = false → has (l.foldl nd4 acc) s = false
  | [], _, h => h
  | x :: l, _, h => nds_gnd hs l _ (fold_gnd hs (fr x) _ h)
theorem has_nd1 {acc : List ByteArray} {s t : ByteArray} (h : has acc s = true) : has (nd1 acc t) s = true := by
  unfold nd1
  split
  · exact h
  · rw [has_app, h, Bool.true_or]
theorem has_fold {s : ByteArray} : ∀ (r acc : List ByteArray), has acc s = true → has (r.foldl nd1 acc) s = true
  | [], _, h => h
  | _ :: r, _, h => has_fold r _ (has_nd1 h)
theorem has_nds {s : ByteArray} : ∀ (l : List El) (acc : List ByteArray), has acc s = true → has (l.foldl nd4 acc) s = true
  | [], _, h => h
  | x :: l, _, h => has_nds l _ (has_fold (fr x) _ h)
theorem nd1_has {acc : List ByteArray} {s : ByteArray} (h : gnd s = false) : has (nd1 acc s) s = true := by
  unfold nd1
  split
  · rename_i h2
    rw [h, Bool.false_or] at h2
    exact h2
  · rw [has_app]; simp
theorem fold_has {s : ByteArray} (hs : gnd s = false) : ∀ (r acc : List ByteArray), s ∈ r → has (r.foldl nd1 acc) s = true
  | t :: r, acc, h => by
    rcases List.mem_cons.1 h with rfl | h
    · exact has_fold r _ (nd1_has hs)
    · exact fold_has hs r _ h
/-- A node of an element is a node of the net, or the ground. -/
theorem node_in {s : ByteArray} (hs : gnd s = false) {x : El} (hx : s ∈ fr x) : ∀ (l : List El) (acc : List ByteArray), x ∈ l → has (l.foldl nd4 acc) s = true
  | y :: l, acc, h => by
    rcases List.mem_cons.1 h with rfl | h
    · exact has_nds l _ (fold_has hs (fr x) _ hx)
    · exact node_in hs hx l _ h
/-- A place among the nodes, the ground's ahead. -/
theorem gIx_at {l : List El} {s : ByteArray} (h : s = ⟨#[48]⟩ ∨ has (nds l) s = true) : has (gnds l) s = true ∧ plI (gnds l) s = gIx l s := by
  by_cases e : s = ⟨#[48]⟩
  · subst e
    have h0 : has (nds l) ⟨#[48]⟩ = false := nds_gnd (by unfold gnd; rw [toList_data]; rfl) l [] rfl
    have hg : has (gnds l) ⟨#[48]⟩ = true := by unfold gnds has; rw [List.any_cons]; simp
    refine ⟨hg, ?_⟩
    unfold plI gIx
    rw [if_pos hg, h0]
    unfold gnds
    rw [List.findIdx_cons]
    simp
  · have hn : has (nds l) s = true := h.resolve_left e
    have hne : ((⟨#[48]⟩ : ByteArray).toList == s.toList) = false := by
      cases e2 : ((⟨#[48]⟩ : ByteArray).toList == s.toList)
      · rfl
      · exact absurd ((same_iff _ _).1 e2).symm e
    have hg : has (gnds l) s = true := by
      have h1 := hn
      unfold has at h1
      unfold gnds has; rw [List.any_cons, h1, Bool.or_true]
    refine ⟨hg, ?_⟩
    unfold plI gIx
    rw [if_pos hg, if_pos hn]
    unfold plI
    rw [if_pos hn]
    unfold gnds
    rw [List.findIdx_cons, hne]
    simp
/-- A node that is no node of the net: the ground's place. -/
theorem gIx_none {l : List El} {s : ByteArray} (h : has (nds l) s = false) : plI (gnds l) s = gIx l s := by
  by_cases e : s = ⟨#[48]⟩
  · exact (gIx_at (.inl e)).2
  · have hne : ((⟨#[48]⟩ : ByteArray).toList == s.toList) = false := by
      cases e2 : ((⟨#[48]⟩ : ByteArray).toList == s.toList)
      · rfl
      · exact absurd ((same_iff _ _).1 e2).symm e
    have hg : has (gnds l) s = false := by
      have h1 := h
      unfold has at h1
      unfold gnds has; rw [List.any_cons, h1, Bool.or_false, hne]
    unfold plI gIx
    rw [if_neg (by rw [hg]; simp), if_neg (by rw [h]; simp)]; rfl
theorem gIx_all (l : List El) (s : ByteArray) : plI (gnds l) s = gIx l s := by
  cases h : has (nds l) s with
  | true => exact (gIx_at (.inr h)).2
  | false => exact gIx_none h
/-- The nodes that an element joins. -/
theorem joined {l : List El} {x : El} (hx : x ∈ l) (h : checkE x = 0) : has (gnds l) x.a = true ∧ has (gnds l) x.b = true := by
  have hk := check_isK h
  unfold checkE at h
  rw [if_pos hk] at h
  have hn : nameBad x = false := by
    cases e : nameBad x with
    | false => rfl
    | true => rw [e] at h; simp at h
  unfold nameBad at hn
  simp only [Bool.or_eq_false_iff, Bool.not_eq_false'] at hn
  have ha := hn.1.1.2
  have hb := hn.1.2
  have key : ∀ s, s ∈ fr x → nodeB s = true → has (gnds l) s = true := fun s hs hnb => by
    by_cases hg : gnd s = true
    · refine (gIx_at (.inl ?_)).1
      unfold gnd at hg
      rw [Bool.or_eq_true] at hg
      rcases hg with hg | hg
      · exfalso
        have : s = ⟨#[]⟩ := (same_iff s ⟨#[]⟩).1 (by rw [beq_iff_eq] at hg ⊢; rw [hg, toList_data])
        rw [this] at hnb
        revert hnb
        decide
      · exact (same_iff s ⟨#[48]⟩).1 (by rw [beq_iff_eq] at hg ⊢; rw [hg, toList_data])
    · exact (gIx_at (.inr (node_in (by simpa using hg) hs l [] hx))).1
  exact ⟨key _ (by simp [fr]) ha, key _ (by simp [fr]) hb⟩
end
end Go.Proofs.YtjeedckmkicnoaaGreatDoor
