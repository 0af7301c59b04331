/- Walk of gridworklaw21's solution. -/
import Derived.Test.YtlaibmeokghdmaaGreatDoorLent
import Derived.Test.YtlaibmeokghdmaaGreatDoorReg
namespace Go.Proofs.YtlaibmeokghdmaaGreatDoor
open Go.RowKit

/-- A solution's block: its omega, two rows of one's own. -/
def BoxS (o nV nA : Nat) (xV xA : List Value) (t : TypeId) (w1 wx : World) (s : Value) : Prop :=
  ∃ (g : Nat) (a b : Option Addr) (ca cb : Nat), s = .pointer (some ⟨g, 0, none⟩) ∧ w1.heap.size ≤ g ∧ wx.heap[g]? = some (.cells #[.float .f64 o, .slice a nV ca, .slice b nA cb] t (0, 0)) ∧
    wx.ownsRow w1.heap.size 47 1 (.slice a nV ca) nV xV ∧ wx.ownsRow w1.heap.size 47 1 (.slice b nA cb) nA xA ∧
    (∀ k, (Value.slice a nV ca).ownBlock = some k → (Value.slice b nA cb).ownBlock ≠ some k) ∧ (Value.slice a nV ca).ownBlock ≠ some g ∧ (Value.slice b nA cb).ownBlock ≠ some g ∧ Below w1.heap.size w1 wx
theorem boxs_new {o nV nA : Nat} {xV xA : List Value} {t : TypeId} {w1 w : World} {a b : Option Addr} {ca cb : Nat} (hb : Below w1.heap.size w1 w)
    (hV : w.ownsRow w1.heap.size 47 1 (.slice a nV ca) nV xV) (hA : w.ownsRow w1.heap.size 47 1 (.slice b nA cb) nA xA)
    (hne : ∀ k, (Value.slice a nV ca).ownBlock = some k → (Value.slice b nA cb).ownBlock ≠ some k) :
    BoxS o nV nA xV xA t w1 (w.alloc (.cells #[.float .f64 o, .slice a nV ca, .slice b nA cb] t)) (.pointer (some ⟨w.heap.size, 0, none⟩)) :=
  ⟨_, a, b, ca, cb, rfl, hb.size, heap_alloc_new _ _, own_none hV (World.grownBy_alloc _ _ none), own_none hA (World.grownBy_alloc _ _ none), hne,
    fun h => Nat.lt_irrefl _ (hV.lt _ h).2, fun h => Nat.lt_irrefl _ (hA.lt _ h).2, hb.alloc hb.size _⟩
theorem boxs_set {o nV nA g : Nat} {xV xA : List Value} {t : TypeId} {w1 w : World} {a b : Option Addr} {ca cb : Nat} {z0 z1 z2 : Value} (hb : Below w1.heap.size w1 w) (hg : w1.heap.size ≤ g)
    (hz : w.heap[g]? = some (.cells #[z0, z1, z2] t (0, 0)))
    (hV : w.ownsRow w1.heap.size 47 1 (.slice a nV ca) nV xV) (hA : w.ownsRow w1.heap.size 47 1 (.slice b nA cb) nA xA)
    (hne : ∀ k, (Value.slice a nV ca).ownBlock = some k → (Value.slice b nA cb).ownBlock ≠ some k) (hVg : (Value.slice a nV ca).ownBlock ≠ some g) (hAg : (Value.slice b nA cb).ownBlock ≠ some g) :
    BoxS o nV nA xV xA t w1 (((w.setCell ⟨g, 0, none⟩ (.float .f64 o)).setCell ⟨g, 1, none⟩ (.slice a nV ca)).setCell ⟨g, 2, none⟩ (.slice b nA cb)) (.pointer (some ⟨g, 0, none⟩)) :=
  ⟨g, a, b, ca, cb, rfl, hg, by have := blk_set (o := 2) (blk_set (o := 1) (blk_set (o := 0) hz (.float .f64 o)) (.slice a nV ca)) (.slice b nA cb); simpa using this,
    ((hV.kept (grown_set _ _ _ _) (.inr hVg)).kept (grown_set _ _ _ _) (.inr hVg)).kept (grown_set _ _ _ _) (.inr hVg), ((hA.kept (grown_set _ _ _ _) (.inr hAg)).kept (grown_set _ _ _ _) (.inr hAg)).kept (grown_set _ _ _ _) (.inr hAg), hne, hVg, hAg, ((hb.setCell hg _).setCell hg _).setCell hg _⟩
theorem results_cell1 {fn : Func} {p : Tmp} {ty : TypeId} (h : fn.results = #[.cell p ty]) (tmps : Array Value) (P : Program) (w : World) :
    (results fn tmps).run P w = ((asAddr (tmps.getD p undef)).run P w).andThen fun a w₁ => (loadVar ty a).run P w₁ := by
  simp only [results, h]
  simp [Sem.run_bind, Result.andThen]
theorem IsSl.drew1 {w : World} {size n : Nat} {v : Value} {xs : List Value} (h : IsSl w size v n xs) : IsSl w.drew size v n xs := h
/-- A solution: its lists. -/
def RetSol (om : Nat) (V A : List Cx) (w : World) (en : Ending) (w' : World) : Prop :=
  ∃ u1 u2, en = .returned (.agg #[.float .f64 om, u1, u2]) ∧ IsSl w' 1 u1 V.length (V.map mkC) ∧ IsSl w' 1 u2 A.length (A.map mkC) ∧ Below w.heap.size w w'
/-- What the operations of the first region come to. -/
def SolR1 (B om : Nat) (a1 : Option Addr) (c1 : Nat) (a2 : Option Addr) (c2 : Nat) (V A : List Cx) (z : Obj) : RelD
  | 0, v, _, _, _, _ => v = .pointer (some ⟨B, 0, none⟩)
  | 1, v, _, _, _, _ => v = .int .u64 om
  | 2, v, _, _, _, _ => v = .float .f64 om
  | 3, v, _, _, _, _ => v = .pointer (some ⟨B, 1, none⟩)
  | 4, v, _, _, _, _ => v = .slice a1 V.length c1
  | 5, v, _, w, lo, hi => RowD 47 1 V.length (V.map mkC) v w lo hi
  | 6, v, _, _, _, _ => v = .pointer (some ⟨B, 2, none⟩)
  | 7, v, _, _, _, _ => v = .slice a2 A.length c2
  | 8, v, _, w, lo, hi => RowD 47 1 A.length (A.map mkC) v w lo hi
  | 9, v, xs, _, _, _ => v = .agg xs.toArray
  | 10, v, _, w, lo, hi => BlkD z v w lo hi
  | _, _, _, _, _, _ => True
theorem SolR1.later {B om : Nat} {a1 : Option Addr} {c1 : Nat} {a2 : Option Addr} {c2 : Nat} {V A : List Cx} {z : Obj} : ∀ k v xs w w' lo hi, Below w.heap.size w w' → hi ≤ w.heap.size → SolR1 B om a1 c1 a2 c2 V A z k v xs w lo hi → SolR1 B om a1 c1 a2 c2 V A z k v xs w' lo hi := by
  intro k v xs w w' lo hi hb _ h
  rcases k with _ | _ | _ | _ | _ | _ | _ | _ | _ | _ | _ | k
  all_goals first
    | exact h
    | exact RowD.later h hb
    | exact BlkD.later h hb
/-- What the operations of a region that fits a row come to. -/
def SolR2 (g off : Nat) (v0 p : Value) (n : Nat) : RelD
  | 0, v, _, _, _, _ => v = .pointer (some ⟨g, off, none⟩)
  | 1, v, _, _, _, _ => v = v0
  | 2, v, _, _, _, _ => v = p
  | 3, v, _, _, _, _ => ∃ a c, v = .slice a n c
  | 4, v, _, _, _, _ => v = .int .i64 n
  | _, _, _, _, _, _ => True
theorem SolR2.later {g off : Nat} {v0 p : Value} {n : Nat} : ∀ k v xs w w' lo hi, Below w.heap.size w w' → hi ≤ w.heap.size → SolR2 g off v0 p n k v xs w lo hi → SolR2 g off v0 p n k v xs w' lo hi := by
  intro k v xs w w' lo hi hb _ h
  rcases k with _ | _ | _ | _ | _ | k <;> exact h
set_option maxRecDepth 100000 in
set_option maxHeartbeats 4000000 in
theorem solution_any (v1 v2 p : Value) (om : Nat) (ft : Bool) (V A : List Cx) (l : List El) (w : World) (hp : NN w p l) (hl : l.length ≤ 100000) (h1 : InSl w 2 v1 V.length (V.flatMap zc)) (h2 : InSl w 2 v2 A.length (A.flatMap zc)) (hlv : V.length * 16 ≤ 140737488351232) (hla : A.length * 16 ≤ 140737488351232) :
    Calls Tryz.prog 23 #[.agg #[.int .u64 om, v1, v2, .bool ft], p] w (RetSol om (if ft = true then fitL V (nds l).length else V) (if ft = true then fitL A (brs l).length else A) w) := by
  have b2 := frombits_law
  obtain ⟨a1, c1, rfl⟩ := h1.form
  obtain ⟨a2, c2, rfl⟩ := h2.form
  have hbw : Below w.heap.size w ((w.alloc (.cells #[.int .u64 om, .slice a1 V.length c1, .slice a2 A.length c2, .bool ft] 60)).alloc (.cells #[.float .f64 0, .slice none 0 0, .slice none 0 0] 63)) := ((Below.refl w.heap.size w).alloc (Nat.le_refl _) _).alloc (by simp) _
  have hs0 := heap_past_of (o' := (.cells #[.float .f64 0, .slice none 0 0, .slice none 0 0] 63)) (heap_alloc_new w (.cells #[.int .u64 om, .slice a1 V.length c1, .slice a2 A.length c2, .bool ft] 60))
  have hr1 := heap_alloc_new (w.alloc (.cells #[.int .u64 om, .slice a1 V.length c1, .slice a2 A.length c2, .bool ft] 60)) (.cells #[.float .f64 0, .slice none 0 0, .slice none 0 0] 63)
  rw [show (w.alloc (.cells #[.int .u64 om, .slice a1 V.length c1, .slice a2 A.length c2, .bool ft] 60)).heap.size = w.heap.size + 1 by simp] at hr1
  have HR1 := hid hr1
  have HVS := hid (h1.below hbw (Nat.le_refl _))
  have HAS := hid (h2.below hbw (Nat.le_refl _))
  have HP := hid (hp.below' hbw)
  have HBW := hid hbw
  have HS := hid hs0
  clear h1 h2 hbw hs0 hr1 hp
  go_enter Tryz.func23, Tryz.ntmps23
  go_upto_region 1 with fail
  generalize (w.alloc (.cells #[.int .u64 om, .slice a1 V.length c1, .slice a2 A.length c2, .bool ft] 60)).alloc (.cells #[.float .f64 0, .slice none 0 0, .slice none 0 0] 63) = w1 at *
  have hsc := (block_cells HS.out).1
  have s0 := hsc 0 _ rfl
  have s1 := hsc 1 _ rfl
  have s2 := hsc 2 _ rfl
  have s3 := hsc 3 _ rfl
  clear hsc
  have HLT1 := hid (Array.getElem?_eq_some_iff.1 HS.out).1
  go_cut [5] (fun s5 wx => BoxS om V.length A.length (V.map mkC) (A.map mkC) 63 w1 wx s5)
  case first =>
    refine wp_region_any (by kernel_rfl) ?_
    change wpAny _ _ _ _ _ _ _ (World.drew _)
    refine wpAny_makersD [⟨some 6, 0, []⟩, ⟨some 7, 1, []⟩, ⟨some 8, 2, []⟩, ⟨some 9, 3, []⟩, ⟨some 10, 4, []⟩, ⟨some 11, 5, []⟩, ⟨some 12, 6, []⟩, ⟨some 13, 7, []⟩, ⟨some 14, 8, []⟩, ⟨some 15, 9, [2, 5, 8]⟩, ⟨some 5, 10, []⟩]
      (fun w' => w'.heap[w.heap.size]? = some (.cells #[.int .u64 om, .slice a1 V.length c1, .slice a2 A.length c2, .bool ft] 60 (0, 0)))
      (SolR1 w.heap.size om a1 c1 a2 c2 V A (.cells #[.float .f64 0, .slice none 0 0, .slice none 0 0] 63)) (by kernel_rfl) ?hS0 (fun _ _ hb h => heap_later2 hb h) SolR1.later ?hop ?hend
    case hS0 => exact HS.out
    case hop =>
      refine Each.cons rfl ?_ (Each.cons rfl ?_ (Each.cons rfl ?_ (Each.cons rfl ?_ (Each.cons rfl ?_ (Each.cons rfl ?_ (Each.cons rfl ?_ (Each.cons rfl ?_ (Each.cons rfl ?_ (Each.cons rfl ?_ (Each.cons rfl ?_ Each.nil))))))))))
      · intro vs w2 hb2 hS2 hR2 K hK
        simp only [fillD, Act.put, List.setIfInBounds_toArray, List.set_cons_zero, List.set_cons_succ] at hK ⊢
        (try simp only [Nat.add_zero] at hK ⊢)
        go_simp
        exact hK.out _ _ (Below.refl _ _) rfl
      · intro vs w2 hb2 hS2 hR2 K hK
        have h0 : vs 0 = (.pointer (some ⟨w.heap.size, 0, none⟩)) := by obtain ⟨_, _, _, h⟩ := hR2 0 (by kernel_rfl); exact h
        simp only [fillD, Act.put, List.setIfInBounds_toArray, List.set_cons_zero, List.set_cons_succ] at hK ⊢
        have c0 := (block_cells hS2).1 0 _ rfl
        (try simp only [h0] at hK ⊢)
        go_simp
        exact hK.out _ _ (Below.refl _ _) rfl
      · intro vs w2 hb2 hS2 hR2 K hK
        have h1 : vs 1 = (.int .u64 om) := by obtain ⟨_, _, _, h⟩ := hR2 1 (by kernel_rfl); exact h
        simp only [fillD, Act.put, List.setIfInBounds_toArray, List.set_cons_zero, List.set_cons_succ] at hK ⊢
        (try simp only [h1] at hK ⊢)
        go_simp
        exact hK.out _ _ (Below.refl _ _) rfl
      · intro vs w2 hb2 hS2 hR2 K hK
        simp only [fillD, Act.put, List.setIfInBounds_toArray, List.set_cons_zero, List.set_cons_succ] at hK ⊢
        (try simp only [Nat.add_zero] at hK ⊢)
        go_simp
        exact hK.out _ _ (Below.refl _ _) rfl
      · intro vs w2 hb2 hS2 hR2 K hK
        have h3 : vs 3 = (.pointer (some ⟨w.heap.size, 1, none⟩)) := by obtain ⟨_, _, _, h⟩ := hR2 3 (by kernel_rfl); exact h
        simp only [fillD, Act.put, List.setIfInBounds_toArray, List.set_cons_zero, List.set_cons_succ] at hK ⊢
        have c0 := (block_cells hS2).1 1 _ rfl
        (try simp only [h3] at hK ⊢)
        go_simp
        exact hK.out _ _ (Below.refl _ _) rfl
      · intro vs w2 hb2 hS2 hR2 K hK
        have h4 : vs 4 = (.slice a1 V.length c1) := by obtain ⟨_, _, _, h⟩ := hR2 4 (by kernel_rfl); exact h
        simp only [fillD, Act.put, List.setIfInBounds_toArray, List.set_cons_zero, List.set_cons_succ] at hK ⊢
        simp only [h4] at hK ⊢
        rw [if_pos (by rfl)]
        go_wp2_with (go_at_call 42; refine (numbers_any _ V _ (HVS.out.below (below_drew_left hb2) (Nat.le_refl _)) (by omega)).mono ?_; rintro e w3 ⟨v, xs, rfl, hown, rfl, hb3⟩)
        exact hK.out _ _ hb3 (RowD.of hown)
      · intro vs w2 hb2 hS2 hR2 K hK
        simp only [fillD, Act.put, List.setIfInBounds_toArray, List.set_cons_zero, List.set_cons_succ] at hK ⊢
        (try simp only [Nat.add_zero] at hK ⊢)
        go_simp
        exact hK.out _ _ (Below.refl _ _) rfl
      · intro vs w2 hb2 hS2 hR2 K hK
        have h6 : vs 6 = (.pointer (some ⟨w.heap.size, 2, none⟩)) := by obtain ⟨_, _, _, h⟩ := hR2 6 (by kernel_rfl); exact h
        simp only [fillD, Act.put, List.setIfInBounds_toArray, List.set_cons_zero, List.set_cons_succ] at hK ⊢
        have c0 := (block_cells hS2).1 2 _ rfl
        (try simp only [h6] at hK ⊢)
        go_simp
        exact hK.out _ _ (Below.refl _ _) rfl
      · intro vs w2 hb2 hS2 hR2 K hK
        have h7 : vs 7 = (.slice a2 A.length c2) := by obtain ⟨_, _, _, h⟩ := hR2 7 (by kernel_rfl); exact h
        simp only [fillD, Act.put, List.setIfInBounds_toArray, List.set_cons_zero, List.set_cons_succ] at hK ⊢
        simp only [h7] at hK ⊢
        rw [if_pos (by rfl)]
        go_wp2_with (go_at_call 42; refine (numbers_any _ A _ (HAS.out.below (below_drew_left hb2) (Nat.le_refl _)) (by omega)).mono ?_; rintro e w3 ⟨v, xs, rfl, hown, rfl, hb3⟩)
        exact hK.out _ _ hb3 (RowD.of hown)
      · intro vs w2 hb2 hS2 hR2 K hK
        have h2 : vs 2 = .float .f64 om := by obtain ⟨_, _, _, h⟩ := hR2 2 (by kernel_rfl); exact h
        obtain ⟨_, _, _, ⟨a5, c5, h5⟩, _⟩ := hR2 5 (by kernel_rfl)
        obtain ⟨_, _, _, ⟨a8, c8, h8⟩, _⟩ := hR2 8 (by kernel_rfl)
        simp only [fillD, Act.put, List.setIfInBounds_toArray, List.set_cons_zero, List.set_cons_succ] at hK ⊢
        simp only [h2, h5, h8] at hK ⊢
        go_simp
        exact hK.out _ _ (Below.refl _ _) (show _ = Value.agg #[vs 2, vs 5, vs 8] by rw [h2, h5, h8])
      · intro vs w2 hb2 hS2 hR2 K hK
        simp only [fillD, Act.put, List.setIfInBounds_toArray, List.set_cons_zero, List.set_cons_succ] at hK ⊢
        go_simp
        exact hK.out _ _ ((Below.refl _ _).alloc (Nat.le_refl _) _) (BlkD.new _ _)
    case hend =>
      intro vs wx lo hi hbx hSx hRx hdx
      obtain ⟨⟨⟨a, ca, e5⟩, hV, hVh⟩, hl5, _⟩ := hRx 5 (by kernel_rfl)
      obtain ⟨⟨⟨b, cb, e8⟩, hA, hAh⟩, hl8, _⟩ := hRx 8 (by kernel_rfl)
      obtain ⟨⟨g, e10, hg, hgh, hblk⟩, hl10, _⟩ := hRx 10 (by kernel_rfl)
      have e9 : vs 9 = .agg #[.float .f64 om, .slice a V.length ca, .slice b A.length cb] := by
        obtain ⟨h9, _, _⟩ := hRx 9 (by kernel_rfl)
        obtain ⟨h2, _, _⟩ := hRx 2 (by kernel_rfl)
        exact (show vs 9 = Value.agg #[vs 2, vs 5, vs 8] from h9).trans (by rw [show vs 2 = .float .f64 om from h2, e5, e8])
      have d58 := hdx 5 8 (by kernel_rfl)
      have d5g := hdx 5 10 (by kernel_rfl)
      have d8g := hdx 8 10 (by kernel_rfl)
      rw [e5] at hV hVh
      rw [e8] at hA hAh
      have hne : ∀ k, (Value.slice a V.length ca).ownBlock = some k → (Value.slice b A.length cb).ownBlock ≠ some k := fun k h1 h2 => by
        have := (World.ownsRow.lt hV k h1).1; have := (World.ownsRow.lt hA k h2).1; have := hVh k h1; have := hAh k h2; omega
      have hVg : (Value.slice a V.length ca).ownBlock ≠ some g := fun h1 => by have := (World.ownsRow.lt hV g h1).1; have := hVh g h1; omega
      have hAg : (Value.slice b A.length cb).ownBlock ≠ some g := fun h1 => by have := (World.ownsRow.lt hA g h1).1; have := hAh g h1; omega
      have hgw : w1.heap.size ≤ g := Nat.le_trans hl10 hg
      have HBO := hid hV
      have hV := own_base hV hl5
      have hA := own_base hA hl8
      have hb : Below w1.heap.size w1 wx := below_drew_left hbx
      simp only [fillD, Act.put, List.setIfInBounds_toArray, List.set_cons_zero, List.set_cons_succ, e9, e10]
      have zc := block_cells hblk
      have z0 := zc.1 0 _ rfl
      have z1 := zc.1 1 _ rfl
      have z2 := zc.1 2 _ rfl
      have y0 := zc.2 0
      have y1 := zc.2 1
      have y2 := zc.2 2
      clear zc
      refine wpAny_one (i := 11) (by kernel_rfl) rfl (fun K hK => ?_)
      go_simp
      refine hK.out _ _ (wpAny_done (by kernel_rfl) ?_ _)
      go_wp2_with fail
      go_meet
      exact boxs_set hb hgw hblk hV hA hne hVg hAg
  case rest =>
    obtain ⟨g, a, b, ca, cb, rfl, hg, hblk, hV, hA, hne, hVg, hAg, hb⟩ := hcut
    have hgc := (block_cells hblk).1
    have z0 := hgc 0 _ rfl
    have z1 := hgc 1 _ rfl
    have z2 := hgc 2 _ rfl
    have fz := (block_cells hblk).2
    have s3 := (block_cells (heap_later2 hb HS.out)).1 3 _ rfl
    obtain ⟨hrc, fr1⟩ := block_cells (heap_later2 hb HR1.out)
    have r0 := hrc 0 _ rfl
    have r1 := hrc 1 _ rfl
    have r2 := hrc 2 _ rfl
    have hlt3 : w.heap.size + 1 < w1.heap.size := (Array.getElem?_eq_some_iff.1 HR1.out).1
    have HVO := hid hV
    have HAO := hid hA
    have HNE := hid hne
    have HBF := hid (below_next HBW.out hb)
    have hg1 : ¬ g = w.heap.size + 1 := by omega
    have hg2 : ¬ w.heap.size + 1 = g := by omega
    have HBC := hid hb
    have HBK := hid hblk
    have HPC := hid (HP.out.below hb (Nat.le_refl _))
    have HVG := hid hVg
    have HGW := hid hg
    have HAG := hid hAg
    clear hgc hrc hblk hV hA hne hb hVg hAg
    cases ft
    · go_wp2_with fail
      (try simp only [Exit.inBlock, Exit.then])
      (try rw [Exit.noGoto_ret])
      refine bodyPost_ret (v := .agg #[.float .f64 om, .slice a V.length ca, .slice b A.length cb]) ?_ rfl ⟨_, _, rfl, IsSl.of_own (show World.ownsRow _ w1.heap.size 47 1 _ _ _ from by repeat (first | with_reducible exact HVO.out | with_reducible refine own_drew ?_ | with_reducible refine ownsRow_setCell_below ?_ (by dsimp only; omega) _)), IsSl.of_own (show World.ownsRow _ w1.heap.size 47 1 _ _ _ from by repeat (first | with_reducible exact HAO.out | with_reducible refine own_drew ?_ | with_reducible refine ownsRow_setCell_below ?_ (by dsimp only; omega) _)), (by repeat (first | with_reducible exact HBF.out | with_reducible refine Below.drew ?_ | with_reducible refine Below.setCell ?_ (by dsimp only; omega) _))⟩
      rw [results_cell1 rfl]; go_simp
    · have HPC1 := HPC
      clear HPC
      have HPC := HPC1
      go_upto_region 3 with fail
      refine wp_region_any (by kernel_rfl) ?_
      change wpAny _ _ _ _ _ _ _ (World.drew _)
      refine wpAny_makersD [⟨some 18, 0, []⟩, ⟨some 19, 1, []⟩, ⟨some 20, 2, []⟩, ⟨some 21, 3, []⟩, ⟨some 22, 4, []⟩]
        (fun w' => w'.heap[g]? = some (.cells #[.float .f64 om, .slice a V.length ca, .slice b A.length cb] 63 (0, 0)))
        (SolR2 g 1 (.slice a V.length ca) p ((nds l).length)) (by kernel_rfl) ?hS3 (fun _ _ hb h => heap_later2 hb h) SolR2.later ?hop3 ?hend3
      case hS3 => exact HBK.out
      case hop3 =>
        refine Each.cons rfl ?_ (Each.cons rfl ?_ (Each.cons rfl ?_ (Each.cons rfl ?_ (Each.cons rfl ?_ Each.nil))))
        · intro vs w2 hb2 hS2 hR2 K hK
          simp only [fillD, Act.put, List.setIfInBounds_toArray, List.set_cons_zero, List.set_cons_succ] at hK ⊢
          go_simp
          exact hK.out _ _ (Below.refl _ _) rfl
        · intro vs w2 hb2 hS2 hR2 K hK
          have h0 : vs 0 = .pointer (some ⟨g, 1, none⟩) := by obtain ⟨_, _, _, h⟩ := hR2 0 (by kernel_rfl); exact h
          simp only [fillD, Act.put, List.setIfInBounds_toArray, List.set_cons_zero, List.set_cons_succ] at hK ⊢
          have q0 := (block_cells hS2).1 1 _ rfl
          simp only [h0] at hK ⊢
          go_simp
          exact hK.out _ _ (Below.refl _ _) rfl
        · intro vs w2 hb2 hS2 hR2 K hK
          simp only [fillD, Act.put, List.setIfInBounds_toArray, List.set_cons_zero, List.set_cons_succ] at hK ⊢
          go_simp
          exact hK.out _ _ (Below.refl _ _) rfl
        · intro vs w2 hb2 hS2 hR2 K hK
          have h2 : vs 2 = p := by obtain ⟨_, _, _, h⟩ := hR2 2 (by kernel_rfl); exact h
          simp only [fillD, Act.put, List.setIfInBounds_toArray, List.set_cons_zero, List.set_cons_succ] at hK ⊢
          simp only [h2] at hK ⊢
          rw [if_pos (by rfl)]
          go_wp2_with (go_at_call 31; refine (nnodes_any p l _ (HPC.out.below (below_drew_left hb2) (Nat.le_refl _)) hl).mono ?_; rintro e w3 ⟨v, xs, rfl, hown, rfl, hb3⟩)
          exact hK.out _ _ hb3 (IsSl.of_own hown).form
        · intro vs w2 hb2 hS2 hR2 K hK
          obtain ⟨_, _, _, a3, c3, h3⟩ := hR2 3 (by kernel_rfl)
          simp only [fillD, Act.put, List.setIfInBounds_toArray, List.set_cons_zero, List.set_cons_succ] at hK ⊢
          simp only [h3] at hK ⊢
          go_simp
          exact hK.out _ _ (Below.refl _ _) rfl
      case hend3 =>
        intro vs w2 lo hi hb2 hS2 hR2 _
        have h1 : vs 1 = .slice a V.length ca := by obtain ⟨h, _⟩ := hR2 1 (by kernel_rfl); exact h
        have h4 : vs 4 = .int .i64 ((nds l).length : Nat) := by obtain ⟨h, _⟩ := hR2 4 (by kernel_rfl); exact h
        simp only [fillD, Act.put, List.setIfInBounds_toArray, List.set_cons_zero, List.set_cons_succ, h1, h4]
        have hb2 := below_drew_left hb2
        have HB2 := hid hb2
        have HR2 := hid (own_none HVO.out (grown_of_below hb2 none))
        have HS2 := hid hS2
        have HNL := hid (nds_len l)
        clear hR2 hb2 hS2
        refine wpAny_one (i := 5) (by kernel_rfl) rfl (fun K hK => ?_)
        rw [if_pos (by rfl)]
        go_wp2_with (go_at_call 43; refine (fit_any w1.heap.size _ V ((nds l).length) _ HR2.out (Nat.le_trans HBC.out.size HB2.out.size) (by omega) (by have := HNL.out; omega)).mono ?_; rintro e w3 ⟨u1, rfl, hsl, hgr, hu⟩)
        refine hK.out _ _ ?_
        clear hK
        obtain ⟨au1, cu1, rfl⟩ := hsl.form
        have HGR := hid hgr
        have HU := hid hu
        have HSL := hid hsl
        clear hgr hu hsl
        have hgl2 : g < w2.heap.size := (Array.getElem?_eq_some_iff.1 HS2.out).1
        have hbk3 := (HGR.out.block g hgl2 (fun x => HVG.out x.symm)).trans HS2.out
        have x1 := (block_cells hbk3).1 1 _ rfl
        have fx := (block_cells hbk3).2 1
        refine wpAny_one (i := 6) (by kernel_rfl) rfl (fun K hK => ?_)
        go_simp
        refine hK.out _ _ ?_
        clear hK
        refine wpAny_one (i := 7) (by kernel_rfl) rfl (fun K hK => ?_)
        go_simp
        refine hK.out _ _ (wpAny_done (by kernel_rfl) ?_ _)
        clear hK
        have HBK3 := hid hbk3
        clear x1 fx hbk3
        have hblk4 := blk_set (o := 1) HBK3.out (.slice au1 (nds l).length cu1)
        have hne1 : ∀ k, (Value.slice au1 (nds l).length cu1).ownBlock = some k → k ≠ g := fun k h e => by
          subst e
          rcases HU.out _ h with h | h
          · exact HVG.out h
          · omega
        have hn1w : ∀ k, (Value.slice au1 (nds l).length cu1).ownBlock = some k → w1.heap.size ≤ k := fun k h => by
          rcases HU.out _ h with h | h
          · exact (World.ownsRow.lt HVO.out k h).1
          · exact Nat.le_trans (Nat.le_trans HBC.out.size HB2.out.size) h
        have HN1w := hid hn1w
        clear hn1w
        have hs4 := IsSl.grown HSL.out (grown_set w3 g 1 (.slice au1 (nds l).length cu1)) (fun k h e => hne1 k h (Option.some.inj e).symm)
        have ha2 := own_none HAO.out (grown_of_below HB2.out none)
        have hna : ∀ k, (Value.slice au1 (nds l).length cu1).ownBlock = some k → (Value.slice b A.length cb).ownBlock ≠ some k := fun k h e => by
          rcases HU.out _ h with h | h
          · exact HNE.out k h e
          · have := (World.ownsRow.lt ha2 k e).2; omega
        have ha4 := kept_ne (kept_ne ha2 HGR.out (fun k h e => HNE.out k e h)) (grown_set w3 g 1 (.slice au1 (nds l).length cu1)) (fun k h e => HAG.out (by rw [h]; exact e.symm))
        have hb4 : Below w1.heap.size w1 (w3.setCell ⟨g, 1, none⟩ (.slice au1 (nds l).length cu1)) := ((below_next HBC.out HB2.out).grown HGR.out (Nat.le_trans HBC.out.size HB2.out.size) (fun k h => (World.ownsRow.lt HVO.out k h).1)).setCell HGW.out _
        generalize w3.setCell ⟨g, 1, none⟩ (.slice au1 (nds l).length cu1) = w4 at *
        have HBK4 := hid hblk4
        have HS4 := hid hs4
        have HA4 := hid ha4
        have HNA := hid hna
        have HB4 := hid hb4
        have HP4 := hid (HP.out.below hb4 (Nat.le_refl _))
        have HN1 := hid hne1
        clear hblk4 hs4 ha4 hna hb4 ha2 hne1 HR2 HS2 HSL HBK3 HGR HU HB2 hgl2 h1 h4
        go_upto_region 4 with fail
        refine wp_region_any (by kernel_rfl) ?_
        change wpAny _ _ _ _ _ _ _ (World.drew _)
        refine wpAny_makersD [⟨some 25, 0, []⟩, ⟨some 26, 1, []⟩, ⟨some 27, 2, []⟩, ⟨some 28, 3, []⟩, ⟨some 29, 4, []⟩]
          (fun w' => w'.heap[g]? = some (.cells #[.float .f64 om, .slice au1 (nds l).length cu1, .slice b A.length cb] 63 (0, 0)))
          (SolR2 g 2 (.slice b A.length cb) p ((brs l).length)) (by kernel_rfl) ?hS4 (fun _ _ hb h => heap_later2 hb h) SolR2.later ?hop4 ?hend4
        case hS4 => exact HBK4.out
        case hop4 =>
          refine Each.cons rfl ?_ (Each.cons rfl ?_ (Each.cons rfl ?_ (Each.cons rfl ?_ (Each.cons rfl ?_ Each.nil))))
          · intro vs w2 hb2 hS2 hR2 K hK
            simp only [fillD, Act.put, List.setIfInBounds_toArray, List.set_cons_zero, List.set_cons_succ] at hK ⊢
            go_simp
            exact hK.out _ _ (Below.refl _ _) rfl
          · intro vs w2 hb2 hS2 hR2 K hK
            have h0 : vs 0 = .pointer (some ⟨g, 2, none⟩) := by obtain ⟨_, _, _, h⟩ := hR2 0 (by kernel_rfl); exact h
            simp only [fillD, Act.put, List.setIfInBounds_toArray, List.set_cons_zero, List.set_cons_succ] at hK ⊢
            have q0 := (block_cells hS2).1 2 _ rfl
            simp only [h0] at hK ⊢
            go_simp
            exact hK.out _ _ (Below.refl _ _) rfl
          · intro vs w2 hb2 hS2 hR2 K hK
            simp only [fillD, Act.put, List.setIfInBounds_toArray, List.set_cons_zero, List.set_cons_succ] at hK ⊢
            go_simp
            exact hK.out _ _ (Below.refl _ _) rfl
          · intro vs w2 hb2 hS2 hR2 K hK
            have h2 : vs 2 = p := by obtain ⟨_, _, _, h⟩ := hR2 2 (by kernel_rfl); exact h
            simp only [fillD, Act.put, List.setIfInBounds_toArray, List.set_cons_zero, List.set_cons_succ] at hK ⊢
            simp only [h2] at hK ⊢
            rw [if_pos (by rfl)]
            go_wp2_with (go_at_call 44; refine (nbranches_any p l _ (HP4.out.below (below_drew_left hb2) (Nat.le_refl _)) hl).mono ?_; rintro e w3 ⟨v, xs, rfl, hown, rfl, hb3⟩)
            exact hK.out _ _ hb3 (IsSl.of_own hown).form
          · intro vs w2 hb2 hS2 hR2 K hK
            obtain ⟨_, _, _, a3, c3, h3⟩ := hR2 3 (by kernel_rfl)
            simp only [fillD, Act.put, List.setIfInBounds_toArray, List.set_cons_zero, List.set_cons_succ] at hK ⊢
            simp only [h3] at hK ⊢
            go_simp
            exact hK.out _ _ (Below.refl _ _) rfl
        case hend4 =>
          intro vs w2 lo hi hb2 hS2 hR2 _
          have h1 : vs 1 = .slice b A.length cb := by obtain ⟨h, _⟩ := hR2 1 (by kernel_rfl); exact h
          have h4 : vs 4 = .int .i64 ((brs l).length : Nat) := by obtain ⟨h, _⟩ := hR2 4 (by kernel_rfl); exact h
          simp only [fillD, Act.put, List.setIfInBounds_toArray, List.set_cons_zero, List.set_cons_succ, h1, h4]
          have hb2 := below_drew_left hb2
          have HB2 := hid hb2
          have HR2 := hid (own_none HA4.out (grown_of_below hb2 none))
          have HS2 := hid hS2
          have HNL := hid (brs_len l)
          clear hR2 hb2 hS2
          refine wpAny_one (i := 5) (by kernel_rfl) rfl (fun K hK => ?_)
          rw [if_pos (by rfl)]
          go_wp2_with (go_at_call 43; refine (fit_any w1.heap.size _ A ((brs l).length) _ HR2.out (Nat.le_trans HB4.out.size HB2.out.size) (by omega) (by have := HNL.out; omega)).mono ?_; rintro e w3 ⟨u1, rfl, hsl, hgr, hu⟩)
          refine hK.out _ _ ?_
          clear hK
          obtain ⟨au2, cu2, rfl⟩ := hsl.form
          have HGR := hid hgr
          have HU := hid hu
          have HSL := hid hsl
          clear hgr hu hsl
          have hgl2 : g < w2.heap.size := (Array.getElem?_eq_some_iff.1 HS2.out).1
          have hbk3 := (HGR.out.block g hgl2 (fun x => HAG.out x.symm)).trans HS2.out
          have x1 := (block_cells hbk3).1 2 _ rfl
          have fx := (block_cells hbk3).2 2
          refine wpAny_one (i := 6) (by kernel_rfl) rfl (fun K hK => ?_)
          go_simp
          refine hK.out _ _ ?_
          clear hK
          refine wpAny_one (i := 7) (by kernel_rfl) rfl (fun K hK => ?_)
          go_simp
          refine hK.out _ _ (wpAny_done (by kernel_rfl) ?_ _)
          clear hK
          have HBK3 := hid hbk3
          clear x1 fx hbk3
          have hblk5 := blk_set (o := 2) HBK3.out (.slice au2 (brs l).length cu2)
          have hne2 : ∀ k, (Value.slice au2 (brs l).length cu2).ownBlock = some k → k ≠ g := fun k h e => by
            subst e
            rcases HU.out _ h with h | h
            · exact HAG.out h
            · omega
          have hn2w : ∀ k, (Value.slice au2 (brs l).length cu2).ownBlock = some k → w1.heap.size ≤ k := fun k h => by
            rcases HU.out _ h with h | h
            · exact (World.ownsRow.lt HA4.out k h).1
            · exact Nat.le_trans (Nat.le_trans HB4.out.size HB2.out.size) h
          have HN2w := hid hn2w
          clear hn2w
          have hs5 := IsSl.grown HSL.out (grown_set w3 g 2 (.slice au2 (brs l).length cu2)) (fun k h e => hne2 k h (Option.some.inj e).symm)
          have hv5 := IsSl.grown (IsSl.grown (HS4.out.below HB2.out (Nat.le_refl _)) HGR.out (fun k h e => HNA.out k h e)) (grown_set w3 g 2 (.slice au2 (brs l).length cu2)) (fun k h e => HN1.out k h (Option.some.inj e).symm)
          have hb5 : Below w1.heap.size w1 (w3.setCell ⟨g, 2, none⟩ (.slice au2 (brs l).length cu2)) := ((below_next HB4.out HB2.out).grown HGR.out (Nat.le_trans HB4.out.size HB2.out.size) (fun k h => (World.ownsRow.lt HA4.out k h).1)).setCell HGW.out _
          have hrc5 := (block_cells ((hb5.block _ hlt3).trans HR1.out))
          generalize w3.setCell ⟨g, 2, none⟩ (.slice au2 (brs l).length cu2) = w5 at *
          obtain ⟨hrc5, fr5⟩ := hrc5
          have r0 := hrc5 0 _ rfl
          have r1 := hrc5 1 _ rfl
          have r2 := hrc5 2 _ rfl
          have hgc5 := (block_cells hblk5).1
          have z0 := hgc5 0 _ rfl
          have z1 := hgc5 1 _ rfl
          have z2 := hgc5 2 _ rfl
          have HB5 := hid (below_next HBW.out hb5)
          have HV5 := hid hv5
          have HS5 := hid hs5
          clear hrc5 hblk5 hs5 hv5 hb5 hne2 HBK3 HSL HU HGR hgl2 hgc5 HS2 HR2
          go_wp2_with fail
          (try simp only [Exit.inBlock, Exit.then])
          (try rw [Exit.noGoto_ret])
          refine bodyPost_ret (v := .agg #[.float .f64 om, .slice au1 (nds l).length cu1, .slice au2 (brs l).length cu2]) ?_ rfl ⟨_, _, rfl, (show IsSl _ 1 _ (fitL V (nds l).length).length ((fitL V (nds l).length).map mkC) from by
            rw [fitL_len]
            repeat (first | with_reducible exact HV5.out | with_reducible refine IsSl.drew1 ?_ | with_reducible refine IsSl.grown ?_ (grown_set _ _ _ _) (fun k h e => by have := HN1w.out k h; have := Option.some.inj e; omega))), (show IsSl _ 1 _ (fitL A (brs l).length).length ((fitL A (brs l).length).map mkC) from by
            rw [fitL_len]
            repeat (first | with_reducible exact HS5.out | with_reducible refine IsSl.drew1 ?_ | with_reducible refine IsSl.grown ?_ (grown_set _ _ _ _) (fun k h e => by have := HN2w.out k h; have := Option.some.inj e; omega))), (by repeat (first | with_reducible exact HB5.out | with_reducible refine Below.drew ?_ | with_reducible refine Below.setCell ?_ (by dsimp only; omega) _))⟩
          rw [results_cell1 rfl]; go_simp

end Go.Proofs.YtlaibmeokghdmaaGreatDoor
