/- a part of the proof of the last text -/
import Derived.Test.YtjeedckmkicnoaaGreatDoorZOfN
import Derived.Test.YtjeedckmkicnoaaGreatDoorZReg3
namespace Go.Proofs.YtjeedckmkicnoaaGreatDoor
set_option linter.all false
set_option maxHeartbeats 4000000
set_option maxRecDepth 100000
open Go.RowKit
theorem own_typ {w : World} {B e size n r : Nat} {v : Value} {xs : List Value} (h : w.ownsRow B e size v n xs) (hr : v.ownBlock = some r) : B ≤ r ∧ ∃ cs, w.heap[r]? = some (.cells cs e (0, 0)) := by
  rcases h.2 with ⟨rfl, _⟩ | ⟨b, c, cs, rfl, hb, hblk, _⟩
  · cases hr
  · cases hr
    exact ⟨hb, _, hblk⟩
theorem typ_ne {w : World} {g h t t' : Nat} {cs cs' : Array Value} (hg : w.heap[g]? = some (.cells cs t (0, 0))) (hh : w.heap[h]? = some (.cells cs' t' (0, 0))) (hne : t ≠ t') : g ≠ h := fun e => by
  subst e
  rw [hg] at hh
  cases hh
  exact hne rfl
theorem grown_any {w w' : World} {r : Option Nat} (h : w.grownBy w' none) : w.grownBy w' r := ⟨h.os, h.tape, h.output, h.size, fun k hk _ => h.block k hk (by simp)⟩
/-- A net stays, whatever is written into a fault's block. -/
theorem NN.fault {w w' : World} {p : Value} {l : List El} {b : Nat} {cs : Array Value} (h : NN w p l) (hx : w.heap[b]? = some (.cells cs 62 (0, 0))) (hg : w.grownBy w' (some b)) : NN w' p l := by
  rcases h with h | ⟨B, g, vl, vn, vb, bn, bp, bb, hp, h⟩
  · exact .inl h
  · have row : ∀ {e size n : Nat} {v : Value} {xs : List Value}, w.ownsRow B e size v n xs → e ≠ 62 → w'.ownsRow B e size v n xs := fun ho hne =>
      kept_ne ho hg fun k hk e => by
        cases e
        obtain ⟨_, c, hc⟩ := own_typ ho hk
        exact typ_ne hc hx hne rfl
    refine .inr ⟨B, g, vl, vn, vb, bn, bp, bb, hp, { h with
      blk := heap_nextG hg (typ_ne h.blk hx (by decide)) h.blk
      ol := row h.ol (by decide)
      on := row h.on (by decide)
      ob := row h.ob (by decide)
      mn := h.mn.kept hg (by have := h.mn.ne_blk hx; intro e; cases e; exact this rfl)
      mp := h.mp.kept hg (by have := h.mp.ne_blk hx; intro e; cases e; exact this rfl)
      mb := h.mb.kept hg (by have := h.mb.ne_blk hx; intro e; cases e; exact this rfl) }⟩
theorem NN.set {w : World} {p : Value} {l : List El} {b : Nat} {cs : Array Value} (h : NN w p l) (hx : w.heap[b]? = some (.cells cs 62 (0, 0))) (o : Nat) (v : Value) :
    NN (w.setCell ⟨b, o, none⟩ v) p l ∧ (w.setCell ⟨b, o, none⟩ v).heap[b]? = some (.cells (cs.setIfInBounds o v) 62 (0, 0)) :=
  ⟨h.fault hx (grown_set w b o v), blk_set hx v⟩
/-- A slice of one element of eight cells. -/
def EightD (x : El) (v : Value) (w : World) (lo hi : Nat) : Prop := ∃ b, v = .slice (some ⟨b, 0, none⟩) 1 1 ∧ lo ≤ b ∧ b < hi ∧ w.heap[b]? = some (.cells #[.int .u8 x.kind, .string x.name, .string x.a, .string x.b, .string x.c, .string x.d, .float .f64 x.val, .int .i64 x.ph] 81 (0, 0))
theorem EightD.later {x : El} {v : Value} {w w' : World} {lo hi : Nat} (h : EightD x v w lo hi) (hb : Below w.heap.size w w') : EightD x v w' lo hi := by
  obtain ⟨b, h1, h2, h3, h4⟩ := h
  exact ⟨b, h1, h2, h3, heap_next hb h4⟩
theorem news_cells {w : World} {b t : Nat} {cs : Array Value} (h : w.heap[b]? = some (.cells cs t (0, 0))) : ∀ j u, cs.toList[j]? = some u → w.cell? ((⟨b, 0, none⟩ : Addr).add j) = some u := fun j u hj => by
  have : (⟨b, 0, none⟩ : Addr).add j = ⟨b, j, none⟩ := by
    simp only [Addr.add]
    simp
    try (intro h; exact h.symm)
  rw [this]
  exact (block_cells h).1 j u (by simpa using hj)
set_option maxRecDepth 100000 in
set_option maxHeartbeats 2000000 in
theorem nwith_net (pa : Addr) (l : List El) (x : El) (w : World) (hp : NN w (.pointer (some pa)) l) (hl : l.length ≤ 100000) (hok : ∀ y ∈ l, y.Ok) (hx : x.Ok) :
    Calls Tryz.prog 108 #[.pointer (some pa), .agg #[.int .u8 x.kind, .string x.name, .string x.a, .string x.b, .string x.c, .string x.d, .float .f64 x.val, .int .i64 x.ph]] w (RetOf NN (l ++ [x]) w) := by
  obtain ⟨ie, hie, hi0, hi1, hi2⟩ := info_parts infoEa
  have hb2 := ((Below.refl w.heap.size w).alloc (Nat.le_refl _) (.cells #[.int .u8 x.kind, .string x.name, .string x.a, .string x.b, .string x.c, .string x.d, .float .f64 x.val, .int .i64 x.ph] 81)).alloc (by simp) (.cells #[.int .i64 0, .int .i64 0] 62)
  have HP := hid (hp.below hb2 (Nat.le_refl _))
  have HB := hid hb2
  have HEL : Hid (((w.alloc (.cells #[.int .u8 x.kind, .string x.name, .string x.a, .string x.b, .string x.c, .string x.d, .float .f64 x.val, .int .i64 x.ph] 81)).alloc (.cells #[.int .i64 0, .int .i64 0] 62)).heap[w.heap.size]? = some (.cells #[.int .u8 x.kind, .string x.name, .string x.a, .string x.b, .string x.c, .string x.d, .float .f64 x.val, .int .i64 x.ph] 81 (0, 0))) := hid ((heap_alloc_old _ _ (by simp)).trans (heap_alloc_new w (.cells #[.int .u8 x.kind, .string x.name, .string x.a, .string x.b, .string x.c, .string x.d, .float .f64 x.val, .int .i64 x.ph] 81)))
  have HFZ : Hid (((w.alloc (.cells #[.int .u8 x.kind, .string x.name, .string x.a, .string x.b, .string x.c, .string x.d, .float .f64 x.val, .int .i64 x.ph] 81)).alloc (.cells #[.int .i64 0, .int .i64 0] 62)).heap[w.heap.size + 1]? = some (.cells #[.int .i64 0, .int .i64 0] 62 (0, 0))) := hid (by have h := heap_alloc_new (w.alloc (.cells #[.int .u8 x.kind, .string x.name, .string x.a, .string x.b, .string x.c, .string x.d, .float .f64 x.val, .int .i64 x.ph] 81)) (.cells #[.int .i64 0, .int .i64 0] 62); simpa using h)
  have HS1 := hid (show ((w.alloc (.cells #[.int .u8 x.kind, .string x.name, .string x.a, .string x.b, .string x.c, .string x.d, .float .f64 x.val, .int .i64 x.ph] 81)).alloc (.cells #[.int .i64 0, .int .i64 0] 62)).heap.size = w.heap.size + 2 by simp)
  have HOK := hid (show ∀ y ∈ l ++ [x], y.Ok from fun y hy => by rcases List.mem_append.1 hy with h | h; exact hok y h; have e : y = x := (by simpa using h); rw [e]; exact hx)
  have HLE := hid hl
  obtain ⟨g0, B0, hgb⟩ : ∃ (g0 : Nat) (B0 : Bool), pa = ⟨g0, 0, none⟩ := by
    rcases hp with ⟨h, _⟩ | ⟨_, g, _, _, _, _, _, _, h, _⟩
    · cases h
    · cases h; exact ⟨g, true, rfl⟩
  subst hgb
  have hmd : ((w.alloc (.cells #[.int .u8 x.kind, .string x.name, .string x.a, .string x.b, .string x.c, .string x.d, .float .f64 x.val, .int .i64 x.ph] 81)).alloc (.cells #[.int .i64 0, .int .i64 0] 62)).cell? ⟨g0, 0, none⟩ = some (.bool true) := by
    rcases HP.out with ⟨h, _⟩ | ⟨_, g, _, _, _, _, _, _, h, hh⟩
    · cases h
    · cases h; exact (block_cells hh.blk).1 0 _ rfl
  have HMD := hid hmd
  clear hp hb2 hok hx hmd
  go_enter Tryz.func108, Tryz.ntmps108
  go_upto_region 1 with fail
  generalize (w.alloc (.cells #[.int .u8 x.kind, .string x.name, .string x.a, .string x.b, .string x.c, .string x.d, .float .f64 x.val, .int .i64 x.ph] 81)).alloc (.cells #[.int .i64 0, .int .i64 0] 62) = w1 at *
  go_upto_region 3 with (go_at_call 43; refine (nis_made _ _ HMD.out).mono ?_; rintro e wn ⟨rfl, rfl⟩)
  clear HMD
  generalize hgz : w.heap.size = gz at *
  refine wp_region_any (by kernel_rfl) ?_
  change wpAny _ _ _ _ _ _ _ (World.drew _)
  refine wpAny_makersD [⟨some 10, 0, []⟩, ⟨some 11, 1, []⟩, ⟨some 12, 2, []⟩, ⟨some 13, 3, []⟩]
    (fun w' => w'.heap[gz]? = some (.cells #[.int .u8 x.kind, .string x.name, .string x.a, .string x.b, .string x.c, .string x.d, .float .f64 x.val, .int .i64 x.ph] 81 (0, 0)) ∧ w'.heap[gz + 1]? = some (.cells #[.int .i64 0, .int .i64 0] 62 (0, 0)))
    (fun oq v _ ww lo hi => (match oq with | 0 => v = .pointer (some ⟨g0, 0, none⟩) | 1 => True | 2 => v = .agg #[.int .u8 x.kind, .string x.name, .string x.a, .string x.b, .string x.c, .string x.d, .float .f64 x.val, .int .i64 x.ph] | 3 => True | _ => True) ∧ (oq = 1 → RowD 81 8 l.length (l.flatMap ea) v ww lo hi) ∧ (oq = 3 → EightD x v ww lo hi)) (by kernel_rfl) ?hSt (fun _ _ hb h => ⟨heap_next hb h.1, heap_next hb h.2⟩) (fun _ _ _ _ _ _ _ hb _ h => ⟨h.1, fun e => (h.2.1 e).later hb, fun e => (h.2.2 e).later hb⟩) ?hopt ?hendt
  case hSt => exact ⟨heap_next (Below.refl _ _).drew HEL.out, heap_next (Below.refl _ _).drew HFZ.out⟩
  case hopt =>
    delta Owed
    simp only [fillD, Act.put, List.setIfInBounds_toArray, List.set_cons_zero, List.set_cons_succ]
    refine Each.cons rfl ?_ (Each.cons rfl ?_ (Each.cons rfl ?_ (Each.cons rfl ?_ Each.nil)))
    · intro vs w2 hb2 hS2 hR2 K hK
      simp only [List.set_cons_zero, List.set_cons_succ] at hK ⊢
      go_simp
      exact hK.out _ _ (Below.refl _ _) ⟨rfl, (fun e => (by cases e)), (fun e => (by cases e))⟩
    · intro vs w2 hb2 hS2 hR2 K hK
      have h0 : vs 0 = .pointer (some ⟨g0, 0, none⟩) := by obtain ⟨_, _, _, h⟩ := hR2 0 (by kernel_rfl); exact h.1
      simp only [List.set_cons_zero, List.set_cons_succ] at hK ⊢
      simp only [h0] at hK ⊢
      rw [if_pos (by rfl)]
      go_wp2_with (go_at_call 15; refine (nelements_any _ l _ (HP.out.below (below_drew_left hb2) (Nat.le_refl _)) HLE.out).mono ?_; rintro e w4 ⟨v0, xs, rfl, hown, rfl, hb⟩)
      exact hK.out _ _ hb ⟨trivial, fun _ => RowD.of hown, (fun e => (by cases e))⟩
    · intro vs w2 hb2 hS2 hR2 K hK
      simp only [List.set_cons_zero, List.set_cons_succ] at hK ⊢
      have k0 := (block_cells hS2.1).1 0 _ rfl
      have k1 := (block_cells hS2.1).1 1 _ rfl
      have k2 := (block_cells hS2.1).1 2 _ rfl
      have k3 := (block_cells hS2.1).1 3 _ rfl
      have k4 := (block_cells hS2.1).1 4 _ rfl
      have k5 := (block_cells hS2.1).1 5 _ rfl
      have k6 := (block_cells hS2.1).1 6 _ rfl
      have k7 := (block_cells hS2.1).1 7 _ rfl
      go_simp
      exact hK.out _ _ (Below.refl _ _) ⟨rfl, (fun e => (by cases e)), (fun e => (by cases e))⟩
    · intro vs w2 hb2 hS2 hR2 K hK
      have h2 : vs 2 = .agg #[.int .u8 x.kind, .string x.name, .string x.a, .string x.b, .string x.c, .string x.d, .float .f64 x.val, .int .i64 x.ph] := by obtain ⟨_, _, _, h⟩ := hR2 2 (by kernel_rfl); exact h.1
      simp only [List.set_cons_zero, List.set_cons_succ] at hK ⊢
      simp only [h2] at hK ⊢
      go_simp
      exact hK.out _ _ ((Below.refl _ _).alloc (Nat.le_refl _) _) ⟨trivial, (fun e => (by cases e)), fun _ => ⟨w2.heap.size, rfl, Nat.le_refl _, by simp, heap_alloc_new _ _⟩⟩
  case hendt =>
    intro vs wx lo hiv hbx hSx hRx hdx
    have h0 : vs 0 = .pointer (some ⟨g0, 0, none⟩) := (hRx 0 (by kernel_rfl)).1.1
    have Y1 := (hRx 1 (by kernel_rfl)).1.2.1 rfl
    have Z1 := (hRx 1 (by kernel_rfl)).2
    have h2 : vs 2 = .agg #[.int .u8 x.kind, .string x.name, .string x.a, .string x.b, .string x.c, .string x.d, .float .f64 x.val, .int .i64 x.ph] := (hRx 2 (by kernel_rfl)).1.1
    have Y3 := (hRx 3 (by kernel_rfl)).1.2.2 rfl
    have Z3 := (hRx 3 (by kernel_rfl)).2
    simp only [fillD, Act.put, List.setIfInBounds_toArray, List.set_cons_zero, List.set_cons_succ, h0, h2]
    have hb := below_drew_left hbx
    obtain ⟨⟨a0, c0, h1⟩, hown, hlt1⟩ := Y1
    obtain ⟨b3, h3, hlo3, hhi3, hrow3⟩ := Y3
    have HB2 := hid (HB.out.trans (hb.mono (by have := HS1.out; omega)))
    have HFZ2 := hid hSx.2
    have HOW := hid hown
    have HROW := hid hrow3
    have HLO := hid (show gz + 2 ≤ lo 1 by have h := Z1.1; have h2 : w1.heap.size ≤ lo 1 := h; have := HS1.out; omega)
    have HSX := hid (show gz + 2 ≤ wx.heap.size by have := hb.size; have := HS1.out; omega)
    clear hbx hSx hRx hdx hb hown hlt1 hlo3 hhi3 hrow3 Z1 Z3 h0 h2 HEL HFZ HP
    rw [h1] at HOW
    simp only [h1, h3]
    clear h1 h3
    have HOV := hid (own_base HOW.out HLO.out)
    clear HOW HLO
    refine wpAny_one (i := 4) (by kernel_rfl) rfl (fun K hK => ?_)
    rw [if_pos (by rfl)]
    refine append_own_op rfl _ _ _ rfl (gz + 2) 81 8 104 ie (.agg #[.int .u8 0, .string ⟨#[]⟩, .string ⟨#[]⟩, .string ⟨#[]⟩, .string ⟨#[]⟩, .string ⟨#[]⟩, .float .f64 0, .int .i64 0]) Tryz.underlying37 hie hi0 hi1 hi2 rfl _ l.length _ HOV.out ⟨b3, 0, none⟩ 1 1 (ea x) (by rfl) (by rfl) rfl (news_cells HROW.out) (ea_one x) (by decide) (by have := HLE.out; unfold maxLen; omega) (by have := HLE.out; omega) HSX.out ?_
    intro g6 cap6 w6 hown6 hlt6 htwo
    refine hK.out _ _ ?_
    clear hK
    have hgr : wx.grownBy w6 (Value.slice a0 l.length c0).ownBlock := by
      rcases htwo with ⟨e, h⟩ | ⟨_, h⟩
      · rw [e]; exact h
      · exact grown_any h
    have HGE := hid (show ∀ r, (Value.slice a0 l.length c0).ownBlock = some r → gz + 2 ≤ r from fun r e => (World.ownsRow.lt HOV.out r e).1)
    have HB6 := hid (HB2.out.grown hgr (by have := HSX.out; omega) (fun r e => by have := HGE.out r e; omega))
    have HFZ6 := hid ((hgr.block _ (Array.getElem?_eq_some_iff.1 HFZ2.out).1 (fun e => by have := HGE.out _ e.symm; omega)).trans HFZ2.out)
    have HS6 := hid (show gz + 2 ≤ w6.heap.size from Nat.le_trans HSX.out hgr.size)
    obtain ⟨n1, hn1⟩ : ∃ n1, l.length + 1 = n1 := ⟨_, rfl⟩
    obtain ⟨L, hL⟩ : ∃ L, l ++ [x] = L := ⟨_, rfl⟩
    have HLL := hid hL
    have HSL := hid (show IsSl w6 8 (.slice (some ⟨g6, 0, none⟩) n1 cap6) L.length (L.flatMap ea) by have h := IsSl.of_own hown6; rw [← hn1, ← hL]; simpa using h)
    have HLN := hid (show L.length ≤ 100001 by rw [← hL]; have := HLE.out; simp; omega)
    rw [hL] at HOK
    rw [hn1]
    clear hgr hown6 hlt6 htwo HB2 HFZ2 HOV HROW HSX HGE hn1 hL
    refine wpAny_one (i := 5) (by kernel_rfl) rfl (fun K hK => ?_)
    rw [if_pos (by rfl)]
    go_wp2_with (go_at_call 27; refine (nof_any _ L _ HSL.out HOK.out (by have := HLN.out; omega)).mono ?_; rintro e w7 ⟨p', rfl, hpp, hb⟩; have HPP := hid hpp; clear hpp; have HB7 := hid (HB6.out.trans (hb.mono (by have := HS6.out; omega))); have HFZ7 := hid (heap_next hb HFZ6.out); clear hb HB6 HFZ6)
    refine hK.out _ _ ?_
    clear hK
    have z0 := (block_cells HFZ7.out).1 0 _ rfl
    have z1 := (block_cells HFZ7.out).1 1 _ rfl
    have f0 := (block_cells HFZ7.out).2 0
    have f1 := (block_cells HFZ7.out).2 1
    refine wpAny_two (i := 6) (j := 7) (by kernel_rfl) rfl rfl (fun K hK => ?_) (fun K hK => ?_)
    all_goals go_simp
    all_goals refine hK.out _ _ ?_
    all_goals clear hK
    rotate_left
    refine wpAny_one (i := 6) (by kernel_rfl) rfl (fun K hK => ?_)
    rotate_left
    refine wpAny_one (i := 7) (by kernel_rfl) rfl (fun K hK => ?_)
    all_goals go_simp
    all_goals refine hK.out _ _ ?_
    all_goals clear hK
    all_goals
      refine wpAny_one (i := 8) (by kernel_rfl) rfl (fun K hK => ?_)
      go_simp
      refine hK.out _ _ ?_
      clear hK
      refine wpAny_one (i := 9) (by kernel_rfl) rfl (fun K hK => ?_)
      go_simp
      refine hK.out _ _ ?_
      clear hK
      refine wpAny_done (by kernel_rfl) ?_ _
      go_wp2
      (try simp only [Exit.inBlock, Exit.then])
      refine bodyPost_ret (v := .tuple #[p', .agg #[.int .i64 (ofL L).2.1, .int .i64 (ofL L).2.2]]) ?_ rfl ⟨p', by rw [HLL.out], ?_, ?_⟩
      · rw [results_tmp_cell rfl]; go_simp
      · rw [HLL.out]
        rcases HPP.out with h | ⟨h1, h2, h3⟩
        · exact .inl h
        · exact .inr ⟨h1, h2, (NN.set (NN.set h3 HFZ7.out _ _).1 (NN.set h3 HFZ7.out _ _).2 _ _).1⟩
      · subst hgz
        repeat (first | with_reducible exact HB7.out | with_reducible refine Below.setCell ?_ (by dsimp only; omega) _)
theorem nwith_any (pa : Addr) (l : List El) (x : El) (w : World) (hp : NN w (.pointer (some pa)) l) (hl : l.length ≤ 100000) (hok : ∀ y ∈ l, y.Ok) (hx : x.Ok) :
    Calls Tryz.prog 108 #[.pointer (some pa), .agg #[.int .u8 x.kind, .string x.name, .string x.a, .string x.b, .string x.c, .string x.d, .float .f64 x.val, .int .i64 x.ph]] w fun e w' => (∃ p' : Value, e = .returned (.tuple #[p', .agg #[.int .i64 (ofL (l ++ [x])).2.1, .int .i64 (ofL (l ++ [x])).2.2]])) ∧ Below w.heap.size w w' :=
  (nwith_net pa l x w hp hl hok hx).mono fun _ _ ⟨p', h, _, hb⟩ => ⟨⟨p', h⟩, hb⟩
end Go.Proofs.YtjeedckmkicnoaaGreatDoor
