/- a part of the proof of the last text -/
import Derived.Test.YtjeedckmkicnoaaGreatDoorZOf15
import Derived.Maps.OwnSet
namespace Go.Proofs.YtjeedckmkicnoaaGreatDoor
set_option linter.all false
set_option maxHeartbeats 4000000
set_option maxRecDepth 100000
section
open Go.RowKit
/-- A text's place in a list; 0 where it is not there. -/
def plI (l : List ByteArray) (s : ByteArray) : Int := if has l s = true then (l.findIdx fun t => t.toList == s.toList : Nat) else 0
theorem plI_no {l : List ByteArray} {s : ByteArray} (h : has l s = false) : plI l s = 0 := by unfold plI; rw [if_neg (by rw [h]; simp)]
theorem find_first {α : Type} {p : α → Bool} : ∀ (l : List α) (k : Nat) (x : α), (l.take k).any p = false → l[k]? = some x → p x = true → l.findIdx p = k ∧ l.any p = true ∧ l.find? p = some x
  | [], k, x, _, h, _ => by simp at h
  | y :: l, 0, x, _, h, hx => by
    obtain rfl : y = x := by simpa using h
    simp [List.findIdx_cons, hx]
  | y :: l, k + 1, x, hn, h, hx => by
    rw [List.take_succ_cons, List.any_cons, Bool.or_eq_false_iff] at hn
    obtain ⟨h1, h2, h3⟩ := find_first l k x hn.2 (by simpa using h) hx
    simp [List.findIdx_cons, hn.1, h1, h2, h3]
theorem plI_at {l : List ByteArray} {s t : ByteArray} {k : Nat} (hn : has (l.take k) s = false) (h : l[k]? = some t) (ht : (t.toList == s.toList) = true) : has l s = true ∧ plI l s = k := by
  obtain ⟨h1, h2, _⟩ := find_first l k t hn h ht
  have h3 : has l s = true := h2
  refine ⟨h3, ?_⟩
  unfold plI
  rw [if_pos h3, h1]
def RetIB (k : Int) (b : Bool) (w : World) (en : Ending) (w' : World) : Prop := en = .returned (.tuple #[.int .i64 k, .bool b]) ∧ Below w.heap.size w w'
end
section
/- What a map from names to places holds: plain law. No function of the program is named here. -/
open Go.RowKit
abbrev DU := DataW Unit
/-- A name as a key; a place as an element. -/
def kls (s : ByteArray) : Lit := .string s.data.toList
def plD (i : Int) : DU := .lit (.int .i64 i)
theorem toList_data (s : ByteArray) : s.toList = s.data.toList := by
  first | exact ByteArray.toList_eq s | exact ByteArray.toList_data s | simp [ByteArray.toList_eq] | rfl
theorem same_iff (s t : ByteArray) : (s.toList == t.toList) = true ↔ s = t := by
  rw [beq_iff_eq, toList_data, toList_data]
  exact ⟨fun h => ByteArray.ext (Array.toList_inj.1 h), fun h => by rw [h]⟩
theorem kls_ne {s t : ByteArray} (h : ¬ s = t) : kls s ≠ kls t := fun e => h (ByteArray.ext (Array.toList_inj.1 (by injection e)))
theorem kls_key (s : ByteArray) : WideAt.IsKeyLit (kls s) := trivial
theorem has_iff (l : List ByteArray) (s : ByteArray) : has l s = true ↔ s ∈ l := by
  unfold has
  rw [List.any_eq_true]
  constructor
  · rintro ⟨t, ht, h⟩
    rw [same_iff] at h
    exact h ▸ ht
  · intro h
    exact ⟨s, h, by simp⟩
/-- The map holds each name of the list, at its place. -/
def MapIs (D : DU) (l : List ByteArray) : Prop := Maps.IsMap D ∧ ∀ s, D.atKey (kls s) (plD 0) = plD (plI l s) ∧ Maps.has D (kls s) = has l s
theorem mapIs_empty : MapIs (.map []) [] := ⟨Maps.isMap_empty, fun _ => ⟨rfl, rfl⟩⟩
theorem has_app (l : List ByteArray) (s t : ByteArray) : has (l ++ [s]) t = (has l t || (s.toList == t.toList)) := by simp [has]
theorem plI_old {l : List ByteArray} {s t : ByteArray} (h : ¬ s = t) : plI (l ++ [s]) t = plI l t := by
  have hf : (s.toList == t.toList) = false := by
    cases e : (s.toList == t.toList)
    · rfl
    · exact absurd ((same_iff s t).1 e) h
  unfold plI
  rw [has_app, hf, Bool.or_false]
  cases hh : has l t
  · simp
  · simp only [if_true]
    rw [List.findIdx_append]
    have : l.findIdx (fun u => u.toList == t.toList) < l.length := List.findIdx_lt_length.2 (by
      obtain ⟨u, hu, hu2⟩ := List.any_eq_true.1 hh
      exact ⟨u, hu, hu2⟩)
    rw [if_pos this]
theorem plI_new {l : List ByteArray} {s : ByteArray} (h : has l s = false) : plI (l ++ [s]) s = l.length ∧ has (l ++ [s]) s = true := by
  have := plI_at (l := l ++ [s]) (s := s) (t := s) (k := l.length) (by rw [List.take_left' rfl]; exact h) (by simp) (by simp)
  exact ⟨this.2, this.1⟩
theorem mapIs_put {D : DU} {l : List ByteArray} {s : ByteArray} (h : MapIs D l) (hs : has l s = false) : MapIs (D.put (kls s) (plD l.length)) (l ++ [s]) := by
  refine ⟨h.1.put _ _, fun t => ?_⟩
  by_cases e : s = t
  · subst e
    obtain ⟨h1, h2⟩ := plI_new hs
    rw [Maps.atKey_put_same h.1 (kls_key s), Maps.has_put_same h.1 (kls_key s), h1, h2]
    exact ⟨rfl, rfl⟩
  · have hf : (s.toList == t.toList) = false := by
      cases e2 : (s.toList == t.toList)
      · rfl
      · exact absurd ((same_iff s t).1 e2) e
    rw [Maps.atKey_put_other (kls_ne fun x => e x.symm), Maps.has_put_other (kls_ne fun x => e x.symm), plI_old e, has_app, hf, Bool.or_false]
    exact h.2 t
end
section
/- A net in memory, as netlist lays it: what it holds, what becomes of it. No walk here. -/
open Go.RowKit
theorem zeroInt (w : World) : (zeroValue 3).run Tryz.prog w = .ok (.int .i64 0) w := by kernel_rfl
/-- The map in block b holds the places of the names. -/
def MapAt (w : World) (b : Nat) (ns : List ByteArray) : Prop := ∃ D : DU, w.ownsMap Tryz.prog 9 (plainElem Tryz.prog 3) b ns.length D ∧ MapIs D ns
theorem MapAt.kept {w w' : World} {b : Nat} {ns : List ByteArray} {row : Option Nat} (h : MapAt w b ns) (hg : w.grownBy w' row) (hne : some b ≠ row) : MapAt w' b ns := by
  obtain ⟨D, h1, h2⟩ := h
  exact ⟨D, h1.kept hg hne, h2⟩
theorem MapAt.lt {w : World} {b : Nat} {ns : List ByteArray} (h : MapAt w b ns) : b < w.heap.size := by
  obtain ⟨D, h1, _⟩ := h
  exact h1.lt
/-- No block is both a map and a row of cells. -/
theorem MapAt.ne_row {w : World} {b B e size n : Nat} {ns : List ByteArray} {v : Value} {xs : List Value} (h : MapAt w b ns) (ho : w.ownsRow B e size v n xs) : v.ownBlock ≠ some b := by
  intro hv
  obtain ⟨D, ⟨es, clock, hb, _⟩, _⟩ := h
  rcases ho.2 with ⟨rfl, _⟩ | ⟨g, cap, cur, rfl, _, hg, _⟩
  · cases hv
  · cases hv
    rw [hb] at hg
    cases hg
theorem MapAt.ne_blk {w : World} {b g : Nat} {ns : List ByteArray} {cs : Array Value} {t : TypeId} {f : Nat × Nat} (h : MapAt w b ns) (hg : w.heap[g]? = some (.cells cs t f)) : g ≠ b := by
  intro e
  subst e
  obtain ⟨D, ⟨es, clock, hb, _⟩, _⟩ := h
  rw [hb] at hg
  cases hg
/-- A net in the making: its block, its elements, its names, its nodes, its branches. -/
structure NetAt (B : Nat) (w : World) (g : Nat) (vl vn vb : Value) (bn bp bb : Nat) (l : List El) (ns N Np bs Bp : List ByteArray) : Prop where
  gB : B ≤ g
  blk : w.heap[g]? = some (.cells #[.bool true, vl, .map (some bn), vn, .map (some bp), vb, .map (some bb)] 88)
  ol : w.ownsRow B 81 8 vl l.length (l.flatMap ea)
  on : w.ownsRow B 9 1 vn N.length (sts N)
  ob : w.ownsRow B 9 1 vb bs.length (sts bs)
  lg : vl.ownBlock ≠ some g
  ng : vn.ownBlock ≠ some g
  bg : vb.ownBlock ≠ some g
  ln : ∀ r, vl.ownBlock = some r → vn.ownBlock ≠ some r
  lb : ∀ r, vl.ownBlock = some r → vb.ownBlock ≠ some r
  nb : ∀ r, vn.ownBlock = some r → vb.ownBlock ≠ some r
  bnB : B ≤ bn
  bpB : B ≤ bp
  bbB : B ≤ bb
  np : bn ≠ bp
  nbb : bn ≠ bb
  pb : bp ≠ bb
  mn : MapAt w bn ns
  mp : MapAt w bp Np
  mb : MapAt w bb Bp
/-- Behind a push onto the row of v: whose block the new row lies in. -/
def Pushed (w w' : World) (v : Value) (r : Nat) : Prop := (v.ownBlock = some r ∧ w.grownBy w' (some r)) ∨ (w.heap.size ≤ r ∧ w.grownBy w' none)
theorem fresh_ne {w w' : World} {r B e size n : Nat} {v u : Value} {xs : List Value} (h : Pushed w w' v r) (hne : ∀ k, v.ownBlock = some k → u.ownBlock ≠ some k) (hu : w.ownsRow B e size u n xs) : u.ownBlock ≠ some r := by
  rcases h with ⟨h1, _⟩ | ⟨h1, _⟩
  · exact hne r h1
  · intro x
    have := (hu.lt _ x).2
    omega
theorem fresh_blk {w w' : World} {r g : Nat} {v : Value} (h : Pushed w w' v r) (hne : v.ownBlock ≠ some g) (hg : g < w.heap.size) : g ≠ r := by
  rcases h with ⟨h1, _⟩ | ⟨h1, _⟩
  · intro e; subst e; exact hne h1
  · omega
theorem pushed_row {w w' : World} {r B e size n : Nat} {v u : Value} {xs : List Value} (h : Pushed w w' v r) (hne : ∀ k, v.ownBlock = some k → u.ownBlock ≠ some k) (hu : w.ownsRow B e size u n xs) : w'.ownsRow B e size u n xs := by
  rcases h with ⟨h1, h2⟩ | ⟨_, h2⟩
  · exact hu.kept h2 (.inr (hne r h1))
  · exact hu.kept h2 (by cases u.ownBlock <;> simp)
theorem pushed_map {w w' : World} {r B e size n b : Nat} {v : Value} {xs : List Value} {ns : List ByteArray} (h : Pushed w w' v r) (hv : w.ownsRow B e size v n xs) (hm : MapAt w b ns) : MapAt w' b ns := by
  rcases h with ⟨h1, h2⟩ | ⟨_, h2⟩
  · exact hm.kept h2 (fun x => hm.ne_row hv (h1.trans x.symm))
  · exact hm.kept h2 (by simp)
theorem pushed_blk {w w' : World} {r g : Nat} {v : Value} {o : Obj} (h : Pushed w w' v r) (hne : v.ownBlock ≠ some g) (hg : w.heap[g]? = some o) : w'.heap[g]? = some o := by
  have hlt := (Array.getElem?_eq_some_iff.1 hg).1
  rcases h with ⟨h1, h2⟩ | ⟨_, h2⟩
  · exact (h2.block g hlt (fun x => hne (h1.trans x.symm))).trans hg
  · exact (h2.block g hlt (by simp)).trans hg
theorem grown_set (w : World) (g o : Nat) (v : Value) : w.grownBy (w.setCell ⟨g, o, none⟩ v) (some g) :=
  ⟨rfl, rfl, rfl, by simp [World.setCell], fun k _ hne => Below.heap_setCell _ _ _ _ (fun e => hne (by rw [e]))⟩
theorem blk_set {w : World} {g o : Nat} {cs : Array Value} {t : TypeId} {f : Nat × Nat} (h : w.heap[g]? = some (.cells cs t f)) (v : Value) : (w.setCell ⟨g, o, none⟩ v).heap[g]? = some (.cells (cs.setIfInBounds o v) t f) := by
  unfold World.setCell
  simp [Array.getElem?_modify, h]
section
variable {B g bn bp bb : Nat} {w w' : World} {vl vn vb : Value} {l : List El} {ns N Np bs Bp : List ByteArray}
/-- Behind a turn of a map. -/
theorem NetAt.names (h : NetAt B w g vl vn vb bn bp bb l ns N Np bs Bp) (hg : w.grownBy w' (some bn)) {ns' : List ByteArray} (hm : MapAt w' bn ns') : NetAt B w' g vl vn vb bn bp bb l ns' N Np bs Bp :=
  { h with
    blk := (hg.block g (Array.getElem?_eq_some_iff.1 h.blk).1 (by simpa using h.mn.ne_blk h.blk)).trans h.blk
    ol := h.ol.kept hg (.inr (h.mn.ne_row h.ol))
    on := h.on.kept hg (.inr (h.mn.ne_row h.on))
    ob := h.ob.kept hg (.inr (h.mn.ne_row h.ob))
    mn := hm
    mp := h.mp.kept hg (by simpa using h.np.symm)
    mb := h.mb.kept hg (by simpa using h.nbb.symm) }
theorem NetAt.places (h : NetAt B w g vl vn vb bn bp bb l ns N Np bs Bp) (hg : w.grownBy w' (some bp)) {Np' : List ByteArray} (hm : MapAt w' bp Np') : NetAt B w' g vl vn vb bn bp bb l ns N Np' bs Bp :=
  { h with
    blk := (hg.block g (Array.getElem?_eq_some_iff.1 h.blk).1 (by simpa using h.mp.ne_blk h.blk)).trans h.blk
    ol := h.ol.kept hg (.inr (h.mp.ne_row h.ol))
    on := h.on.kept hg (.inr (h.mp.ne_row h.on))
    ob := h.ob.kept hg (.inr (h.mp.ne_row h.ob))
    mn := h.mn.kept hg (by simpa using h.np)
    mp := hm
    mb := h.mb.kept hg (by simpa using h.pb.symm) }
theorem NetAt.branch (h : NetAt B w g vl vn vb bn bp bb l ns N Np bs Bp) (hg : w.grownBy w' (some bb)) {Bp' : List ByteArray} (hm : MapAt w' bb Bp') : NetAt B w' g vl vn vb bn bp bb l ns N Np bs Bp' :=
  { h with
    blk := (hg.block g (Array.getElem?_eq_some_iff.1 h.blk).1 (by simpa using h.mb.ne_blk h.blk)).trans h.blk
    ol := h.ol.kept hg (.inr (h.mb.ne_row h.ol))
    on := h.on.kept hg (.inr (h.mb.ne_row h.on))
    ob := h.ob.kept hg (.inr (h.mb.ne_row h.ob))
    mn := h.mn.kept hg (by simpa using h.nbb)
    mp := h.mp.kept hg (by simpa using h.pb)
    mb := hm }
theorem NetAt.kept (h : NetAt B w g vl vn vb bn bp bb l ns N Np bs Bp) (hg : w.grownBy w' none) : NetAt B w' g vl vn vb bn bp bb l ns N Np bs Bp :=
  { h with
    blk := (hg.block g (Array.getElem?_eq_some_iff.1 h.blk).1 (by simp)).trans h.blk
    ol := own_none h.ol hg
    on := own_none h.on hg
    ob := own_none h.ob hg
    mn := h.mn.kept hg (by simp)
    mp := h.mp.kept hg (by simp)
    mb := h.mb.kept hg (by simp) }
theorem NetAt.alloc (h : NetAt B w g vl vn vb bn bp bb l ns N Np bs Bp) (o : Obj) : NetAt B (w.alloc o) g vl vn vb bn bp bb l ns N Np bs Bp := h.kept (World.grownBy_alloc w o none)
theorem NetAt.drew (h : NetAt B w g vl vn vb bn bp bb l ns N Np bs Bp) : NetAt B w.drew g vl vn vb bn bp bb l ns N Np bs Bp := h.kept ⟨rfl, rfl, rfl, Nat.le_refl _, fun _ _ _ => rfl⟩
/-- Behind a push onto the elements. -/
theorem NetAt.pushL (h : NetAt B w g vl vn vb bn bp bb l ns N Np bs Bp) {r n c : Nat} {e : El} (ho : w'.ownsRow B 81 8 (.slice (some ⟨r, 0, none⟩) n c) (l.length + 1) (l.flatMap ea ++ ea e)) (hp : Pushed w w' vl r) :
    NetAt B (w'.setCell ⟨g, 1, none⟩ (.slice (some ⟨r, 0, none⟩) n c)) g (.slice (some ⟨r, 0, none⟩) n c) vn vb bn bp bb (l ++ [e]) ns N Np bs Bp := by
  have hgl := (Array.getElem?_eq_some_iff.1 h.blk).1
  have hgr := fresh_blk hp h.lg hgl
  have hs := grown_set w' g 1 (.slice (some ⟨r, 0, none⟩) n c)
  have hb := pushed_blk hp h.lg h.blk
  exact
  { h with
    blk := blk_set hb _
    ol := by rw [flat_snoc, List.length_append]; exact ho.kept hs (.inr (fun x => hgr (Option.some.inj x).symm))
    on := (pushed_row hp h.ln h.on).kept hs (.inr h.ng)
    ob := (pushed_row hp h.lb h.ob).kept hs (.inr h.bg)
    lg := fun x => hgr (Option.some.inj x).symm
    ln := fun k hk => by cases hk; exact fresh_ne hp h.ln h.on
    lb := fun k hk => by cases hk; exact fresh_ne hp h.lb h.ob
    mn := (pushed_map hp h.ol h.mn).kept hs (fun x => h.mn.ne_blk h.blk (Option.some.inj x).symm)
    mp := (pushed_map hp h.ol h.mp).kept hs (fun x => h.mp.ne_blk h.blk (Option.some.inj x).symm)
    mb := (pushed_map hp h.ol h.mb).kept hs (fun x => h.mb.ne_blk h.blk (Option.some.inj x).symm) }
/-- Behind a push onto the nodes. -/
theorem NetAt.pushN (h : NetAt B w g vl vn vb bn bp bb l ns N Np bs Bp) {r n c : Nat} {s : ByteArray} (ho : w'.ownsRow B 9 1 (.slice (some ⟨r, 0, none⟩) n c) (N.length + 1) (sts N ++ [.string s])) (hp : Pushed w w' vn r) :
    NetAt B (w'.setCell ⟨g, 3, none⟩ (.slice (some ⟨r, 0, none⟩) n c)) g vl (.slice (some ⟨r, 0, none⟩) n c) vb bn bp bb l ns (N ++ [s]) Np bs Bp := by
  have hgl := (Array.getElem?_eq_some_iff.1 h.blk).1
  have hgr := fresh_blk hp h.ng hgl
  have hs := grown_set w' g 3 (.slice (some ⟨r, 0, none⟩) n c)
  have hb := pushed_blk hp h.ng h.blk
  have hnl : ∀ k, vn.ownBlock = some k → vl.ownBlock ≠ some k := fun k hk hl => h.ln k hl hk
  exact
  { h with
    blk := blk_set hb _
    ol := (pushed_row hp hnl h.ol).kept hs (.inr h.lg)
    on := by rw [sts_snoc, List.length_append]; exact ho.kept hs (.inr (fun x => hgr (Option.some.inj x).symm))
    ob := (pushed_row hp h.nb h.ob).kept hs (.inr h.bg)
    ng := fun x => hgr (Option.some.inj x).symm
    ln := fun k hk x => fresh_ne hp hnl h.ol (hk.trans x.symm)
    nb := fun k hk => by cases hk; exact fresh_ne hp h.nb h.ob
    mn := (pushed_map hp h.on h.mn).kept hs (fun x => h.mn.ne_blk h.blk (Option.some.inj x).symm)
    mp := (pushed_map hp h.on h.mp).kept hs (fun x => h.mp.ne_blk h.blk (Option.some.inj x).symm)
    mb := (pushed_map hp h.on h.mb).kept hs (fun x => h.mb.ne_blk h.blk (Option.some.inj x).symm) }
/-- Behind a push onto the branches. -/
theorem NetAt.pushB (h : NetAt B w g vl vn vb bn bp bb l ns N Np bs Bp) {r n c : Nat} {s : ByteArray} (ho : w'.ownsRow B 9 1 (.slice (some ⟨r, 0, none⟩) n c) (bs.length + 1) (sts bs ++ [.string s])) (hp : Pushed w w' vb r) :
    NetAt B (w'.setCell ⟨g, 5, none⟩ (.slice (some ⟨r, 0, none⟩) n c)) g vl vn (.slice (some ⟨r, 0, none⟩) n c) bn bp bb l ns N Np (bs ++ [s]) Bp := by
  have hgl := (Array.getElem?_eq_some_iff.1 h.blk).1
  have hgr := fresh_blk hp h.bg hgl
  have hs := grown_set w' g 5 (.slice (some ⟨r, 0, none⟩) n c)
  have hb := pushed_blk hp h.bg h.blk
  have hbl : ∀ k, vb.ownBlock = some k → vl.ownBlock ≠ some k := fun k hk hl => h.lb k hl hk
  have hbn : ∀ k, vb.ownBlock = some k → vn.ownBlock ≠ some k := fun k hk hl => h.nb k hl hk
  exact
  { h with
    blk := blk_set hb _
    ol := (pushed_row hp hbl h.ol).kept hs (.inr h.lg)
    on := (pushed_row hp hbn h.on).kept hs (.inr h.ng)
    ob := by rw [sts_snoc, List.length_append]; exact ho.kept hs (.inr (fun x => hgr (Option.some.inj x).symm))
    bg := fun x => hgr (Option.some.inj x).symm
    lb := fun k hk x => fresh_ne hp hbl h.ol (hk.trans x.symm)
    nb := fun k hk x => fresh_ne hp hbn h.on (hk.trans x.symm)
    mn := (pushed_map hp h.ob h.mn).kept hs (fun x => h.mn.ne_blk h.blk (Option.some.inj x).symm)
    mp := (pushed_map hp h.ob h.mp).kept hs (fun x => h.mp.ne_blk h.blk (Option.some.inj x).symm)
    mb := (pushed_map hp h.ob h.mb).kept hs (fun x => h.mb.ne_blk h.blk (Option.some.inj x).symm) }
end
end
end Go.Proofs.YtjeedckmkicnoaaGreatDoor
