/- CurrentAll walked: of every net, every solution and every name the package and the reference give the same. -/
import Derived.Test.YtaobncojdonhlaaSolu
import Derived.Test.YtaobncojdonhlaaApartNumbers
import Derived.Test.YtaobncojdonhlaaNRows
namespace Go.Proofs.Ytaobncojdonhlaa
open Go.RowKit

theorem firstBad_none {l : List El} : ∀ {r : List El} {k : Nat}, firstBad l k r = none → ∀ (j : Nat) (e : El), r[j]? = some e → bad1 l (k + j) e = 0
  | [], _, _, j, e, h => by simp at h
  | x :: r, k, hf, j, e, h => by
    unfold firstBad at hf
    split at hf
    · rename_i h0
      cases j with
      | zero => simp at h; subst h; exact h0
      | succ j =>
        have := firstBad_none hf j e (by simpa using h)
        rw [show k + (j + 1) = k + 1 + j by omega]
        exact this
    · cases hf
theorem ofL_true {l : List El} (h : (ofL l).1 = true) : l.length ≤ 256 ∧ ∀ x ∈ l, checkE x = 0 := by
  unfold ofL at h
  split at h
  · cases h
  · rename_i hl
    refine ⟨by omega, fun x hx => ?_⟩
    split at h
    · cases h
    · rename_i hf
      obtain ⟨j, hj⟩ := List.getElem?_of_mem hx
      have := firstBad_none hf j x hj
      unfold bad1 at this
      split at this
      · assumption
      · exact this
theorem no_empty {l : List El} (h : ∀ x ∈ l, checkE x = 0) : has (l.map El.name) ⟨#[]⟩ = false := by
  cases hh : has (l.map El.name) ⟨#[]⟩ with
  | false => rfl
  | true =>
    exfalso
    unfold has at hh
    simp only [List.any_eq_true, List.mem_map] at hh
    obtain ⟨s, ⟨x, hx, rfl⟩, he⟩ := hh
    have h0 := h x hx
    have he2 : x.name.toList = [] := by simpa using he
    have hn : nameK x.name = 0 := by
      rw [(same_iff x.name ⟨#[]⟩).1 (by rw [he2, toList_data]; rfl)]; rfl
    unfold checkE at h0
    unfold nameBad at h0
    rw [hn] at h0
    simp at h0
    split at h0 <;> simp at h0

/-- The elements of the net that is made. -/
def nl (l : List El) : List El := if (ofL l).1 = true then l else []
theorem nl_yes {l : List El} (h : (ofL l).1 = true) : nl l = l := if_pos h
theorem nl_no {l : List El} (h : (ofL l).1 = false) : nl l = [] := if_neg (by rw [h]; simp)
theorem nl_ok {l : List El} (hok : ∀ e ∈ l, e.Ok) : (nl l).length ≤ 256 ∧ NetOk (nl l) ∧ has ((nl l).map El.name) ⟨#[]⟩ = false := by
  cases h : (ofL l).1 with
  | true =>
    rw [nl_yes h]
    obtain ⟨h1, h2⟩ := ofL_true h
    exact ⟨h1, fun x hx => ⟨hok x hx, h2 x hx⟩, no_empty h2⟩
  | false =>
    rw [nl_no h]
    exact ⟨by simp, fun x hx => (by cases hx), rfl⟩
theorem noNet_ptr {p : Value} (h : p ≠ .pointer none) : noNet p = false := by
  unfold noNet
  split
  · exact absurd rfl h
  · rfl
/-- A net was made, or there is none. -/
def RetNet (R : World → Value → List El → Prop) (l : List El) (w : World) (en : Ending) (w' : World) : Prop :=
  ∃ p x y, en = .returned (.tuple #[p, .agg #[.int .i64 x, .int .i64 y]]) ∧ R w' p (nl l) ∧ noNet p = !(ofL l).1 ∧ Below w.heap.size w w'
theorem retnet_of {R : World → Value → List El → Prop} {l : List El} {w w' : World} {en : Ending} (h : RetOf R l w en w') (hn : R w' (.pointer none) []) : RetNet R l w en w' := by
  obtain ⟨p, rfl, h, hb⟩ := h
  rcases h with ⟨h1, rfl⟩ | ⟨h1, h2, h3⟩
  · exact ⟨_, _, _, rfl, by rw [nl_no h1]; exact hn, by rw [h1]; rfl, hb⟩
  · exact ⟨_, _, _, rfl, by rw [nl_yes h1]; exact h3, by rw [h1]; exact noNet_ptr h2, hb⟩
theorem nofn_any (v : Value) (l : List El) (w : World) (hv : IsSl w 8 v l.length (l.flatMap ea)) (hok : ∀ e ∈ l, e.Ok) (hlen : l.length ≤ 140737488355328) :
    Calls Try.prog 5 #[v] w (RetNet NN l w) := (nof_any v l w hv hok hlen).mono fun _ _ h => retnet_of h (.inl ⟨rfl, rfl⟩)
theorem rofn_any (v : Value) (l : List El) (w : World) (hv : IsSl w 8 v l.length (l.flatMap ea)) (hok : ∀ e ∈ l, e.Ok) (hlen : l.length ≤ 140737488355328) :
    Calls Try.prog 6 #[v] w (RetNet RN l w) := (rof_any15 v l w hv hok hlen).mono fun _ _ h => retnet_of h (.inl ⟨rfl, rfl⟩)
theorem all_len {S : List Cx × Int} {xs : List Cx} {k : Int} (h : (xs.map ck, k) = S) : xs.length = S.1.length := by rw [← h]; simp
theorem nn_form {w : World} {p : Value} {l : List El} (h : NN w p l) : ∃ pa : Option Addr, p = .pointer pa ∧ noNet p = pa.isNone := by
  rcases h with ⟨rfl, _⟩ | ⟨_, g, _, _, _, _, _, _, rfl, _⟩
  · exact ⟨none, rfl, rfl⟩
  · exact ⟨some ⟨g, 0, none⟩, rfl, rfl⟩
theorem rn_form {w : World} {p : Value} {l : List El} (h : RN w p l) : ∃ pa : Option Addr, p = .pointer pa ∧ noNet p = pa.isNone := by
  rcases h with ⟨rfl, _⟩ | ⟨g, _, rfl, _⟩
  · exact ⟨none, rfl, rfl⟩
  · exact ⟨some ⟨g, 0, none⟩, rfl, rfl⟩
theorem allS_len (b : Bool) (l : List El) (V A : List Cx) (o : Nat) : (allS b l V A o).1.length ≤ l.length := by
  unfold allS
  split
  · split
    · simp
    · simp
  · simp
theorem samenumbers_true (v u : Value) (l m : List Cx) (w : World) (hv : IsSl w 1 v l.length (l.map mkC)) (hu : IsSl w 1 u m.length (m.map mkC)) (hl : l.length ≤ 140737488355328) (hm : m.length ≤ 140737488355328) (he : l.map ck = m.map ck) :
    Calls Try.prog 16 #[v, u] w fun e wz => e = .returned (.bool true) ∧ Below w.heap.size w wz :=
  (samenumbers_any v u l m w hv hu hl hm).mono fun _ _ ⟨v, n, h1, h2, h3⟩ => ⟨by rw [h1, h3, he]; simp, by rw [h2]; exact below_n (Below.refl _ _) n⟩
def quad {α : Type} (a b c d : α) (j : Nat) : α := if j = 0 then a else if j = 1 then b else if j = 2 then c else d
theorem four {p : Nat → Prop} (h0 : p 0) (h1 : p 1) (h2 : p 2) (h3 : p 3) : ∀ j, j < 4 → p j := fun j hj => by
  rcases (show j = 0 ∨ j = 1 ∨ j = 2 ∨ j = 3 by omega) with rfl | rfl | rfl | rfl <;> assumption
theorem four_ne {B : Nat} {o : Nat → ORow} {w : World} {n : Nat} {a b c d : Value} (h : Owns B (ndom (n + 4)) (nrows o) w) (h0 : (o 0).v = a) (h1 : (o 1).v = b) (h2 : (o 2).v = c) (h3 : (o 3).v = d) : ∀ j k, j < 4 → k < 4 → j ≠ k → Dis (quad a b c d j) (quad a b c d k) := by
  have key : ∀ j, j < 4 → quad a b c d j = (o j).v := four h0.symm h1.symm h2.symm h3.symm
  intro j k hj hk hjk
  rw [key j hj, key k hk]
  exact h.dis (j, 0) (k, 0) ⟨by show j < n + 4; omega, rfl⟩ ⟨by show k < n + 4; omega, rfl⟩ (fun e => hjk (Prod.mk.inj e).1)
theorem own_marks {w : World} {B t m n : Nat} {v : Value} (h : w.ownsRow B t 1 v (marksNumbers m n).length ((marksNumbers m n).map mkC)) : w.ownsRow B t 1 v n ((marksNumbers m n).map mkC) := by rw [marksNumbers_len] at h; exact h
theorem fit_bound (l : List Cx) (n : Nat) (ft : Bool) (hl : l.length * 16 ≤ 140737488351232) (hn : n ≤ 400000) : (if ft = true then fitL l n else l).length * 16 ≤ 140737488351232 := by
  split
  · rw [fitL_len]; omega
  · exact hl
set_option maxRecDepth 100000 in
set_option maxHeartbeats 2000000 in
theorem curall_walk (v v1 v2 : Value) (l : List El) (om : Nat) (ft : Bool) (V A : List Cx) (s : ByteArray) (w : World) (hv : InSl w 8 v l.length (l.flatMap ez)) (hle : l.length * 104 ≤ 140737488351232) (hok : ∀ e ∈ l, e.Ok)
    (h1 : InSl w 2 v1 V.length (V.flatMap zc)) (h2 : InSl w 2 v2 A.length (A.flatMap zc)) (hlv : V.length * 16 ≤ 140737488351232) (hla : A.length * 16 ≤ 140737488351232) (hs : s.size ≤ maxLen) :
    Calls Try.prog 3 #[v, .agg #[.int .u64 om, v1, v2, .bool ft], .string s] w fun e w' => e = .returned (.bool true) ∧ Below w.heap.size w w' := by
  obtain ⟨a0, c0, rfl⟩ := hv.form
  obtain ⟨a1, c1, rfl⟩ := h1.form
  obtain ⟨a2, c2, rfl⟩ := h2.form
  obtain ⟨hn1, hn2, hn3⟩ := nl_ok hok
  have hbw : Below w.heap.size w (w.alloc (.cells #[.int .u64 om, .slice a1 V.length c1, .slice a2 A.length c2, .bool ft] 26)) := (Below.refl w.heap.size w).alloc (Nat.le_refl _) _
  have HS0 := hid (heap_alloc_new w (.cells #[.int .u64 om, .slice a1 V.length c1, .slice a2 A.length c2, .bool ft] 26))
  have HV := hid (hv.below hbw (Nat.le_refl _))
  have H1 := hid (h1.below hbw (Nat.le_refl _))
  have H2 := hid (h2.below hbw (Nat.le_refl _))
  have HBW := hid hbw
  have HN1 := hid (show (nl l).length ≤ 100000 by omega)
  have HN2 := hid hn2
  have HN3 := hid hn3
  have HOK := hid hok
  have HLE := hid hle
  clear hv h1 h2 hbw hn1 hn2 hn3 hok
  go_enter Try.func3, Try.ntmps3
  go_upto_region 1 with fail
  generalize w.alloc (.cells #[.int .u64 om, .slice a1 V.length c1, .slice a2 A.length c2, .bool ft] 26) = w0 at *
  go_upto_region 2 with (go_at_call 4; refine (elements_any _ l _ HV.out HLE.out).mono ?_; rintro e w1 ⟨vo, xs, rfl, hown, rfl, hb⟩; have HV1 := hid (HV.out.below hb (Nat.le_refl _)); have HS1 := hid (heap_later2 hb HS0.out); have HX1 := hid (H1.out.below hb (Nat.le_refl _)); have HY1 := hid (H2.out.below hb (Nat.le_refl _)); have HB1 := hid (below_next HBW.out hb); obtain ⟨ao, co, rfl⟩ := (IsSl.of_own hown).form; have HO := hid (IsSl.of_own hown); clear hown; clear hb)
  clear HV HS0 H1 H2 HBW HV1
  go_upto_region 3 with (go_at_call 5; refine (nofn_any _ l _ HO.out HOK.out (by have := HLE.out; omega)).mono ?_; rintro e w2 ⟨p, fx, fy, rfl, hnn, hnp, hb⟩; have HS2 := hid (heap_later2 hb HS1.out); have HX2 := hid (HX1.out.below hb (Nat.le_refl _)); have HY2 := hid (HY1.out.below hb (Nat.le_refl _)); have HO2 := hid (HO.out.below hb (Nat.le_refl _)); have HB2 := hid (below_next HB1.out hb); have HN := hid hnn; have HNP := hid hnp; clear hnn hnp; clear hb)
  clear HS1 HX1 HY1 HO HB1
  have HS3 := hid (heap_later2 ((Below.refl w2.heap.size w2).alloc (Nat.le_refl _) (.cells #[.int .i64 fx, .int .i64 fy] 32)) HS2.out)
  have HX3 := hid (HX2.out.below ((Below.refl w2.heap.size w2).alloc (Nat.le_refl _) (.cells #[.int .i64 fx, .int .i64 fy] 32)) (Nat.le_refl _))
  have HY3 := hid (HY2.out.below ((Below.refl w2.heap.size w2).alloc (Nat.le_refl _) (.cells #[.int .i64 fx, .int .i64 fy] 32)) (Nat.le_refl _))
  have HO3 := hid (HO2.out.below ((Below.refl w2.heap.size w2).alloc (Nat.le_refl _) (.cells #[.int .i64 fx, .int .i64 fy] 32)) (Nat.le_refl _))
  have HN3 := hid (HN.out.below' ((Below.refl w2.heap.size w2).alloc (Nat.le_refl _) (.cells #[.int .i64 fx, .int .i64 fy] 32)))
  have HB3 := hid (below_next HB2.out ((Below.refl w2.heap.size w2).alloc (Nat.le_refl _) (.cells #[.int .i64 fx, .int .i64 fy] 32)))
  clear HS2 HX2 HY2 HO2 HN HB2
  generalize w2.alloc (.cells #[.int .i64 fx, .int .i64 fy] 32) = w3 at *
  go_upto_region 4 with (go_at_call 6; refine (rofn_any _ l _ HO3.out HOK.out (by have := HLE.out; omega)).mono ?_; rintro e w4 ⟨q, gx, gy, rfl, hnn, hnq, hb⟩; have HS4 := hid (heap_later2 hb HS3.out); have HX4 := hid (HX3.out.below hb (Nat.le_refl _)); have HY4 := hid (HY3.out.below hb (Nat.le_refl _)); have HO4 := hid (HO3.out.below hb (Nat.le_refl _)); have HN4 := hid (HN3.out.below' hb); have HB4 := hid (below_next HB3.out hb); have HR := hid hnn; have HNQ := hid hnq; clear hnn hnq; clear hb)
  clear HS3 HX3 HY3 HO3 HN3 HB3
  have HS5 := hid (heap_later2 ((Below.refl w4.heap.size w4).alloc (Nat.le_refl _) (.cells #[.int .i64 gx, .int .i64 gy] 32)) HS4.out)
  have HX5 := hid (HX4.out.below ((Below.refl w4.heap.size w4).alloc (Nat.le_refl _) (.cells #[.int .i64 gx, .int .i64 gy] 32)) (Nat.le_refl _))
  have HY5 := hid (HY4.out.below ((Below.refl w4.heap.size w4).alloc (Nat.le_refl _) (.cells #[.int .i64 gx, .int .i64 gy] 32)) (Nat.le_refl _))
  have HO5 := hid (HO4.out.below ((Below.refl w4.heap.size w4).alloc (Nat.le_refl _) (.cells #[.int .i64 gx, .int .i64 gy] 32)) (Nat.le_refl _))
  have HN5 := hid (HN4.out.below' ((Below.refl w4.heap.size w4).alloc (Nat.le_refl _) (.cells #[.int .i64 gx, .int .i64 gy] 32)))
  have HR5 := hid (HR.out.below' ((Below.refl w4.heap.size w4).alloc (Nat.le_refl _) (.cells #[.int .i64 gx, .int .i64 gy] 32)))
  have HB5 := hid (below_next HB4.out ((Below.refl w4.heap.size w4).alloc (Nat.le_refl _) (.cells #[.int .i64 gx, .int .i64 gy] 32)))
  clear HS4 HX4 HY4 HO4 HN4 HR HB4
  generalize w4.alloc (.cells #[.int .i64 gx, .int .i64 gy] 32) = w5 at *
  have hsc := (block_cells HS5.out).1
  have s0 := hsc 0 _ rfl
  have s1 := hsc 1 _ rfl
  have s2 := hsc 2 _ rfl
  have s3 := hsc 3 _ rfl
  clear hsc
  go_upto_region 5 with (go_at_call 7; refine (solution_any _ _ p om ft V A (nl l) _ HN5.out HN1.out HX5.out HY5.out hlv hla).mono ?_; rintro e w6 ⟨u1, u2, rfl, hu1, hu2, hb⟩; have HS6 := hid (heap_later2 hb HS5.out); have HX6 := hid (HX5.out.below hb (Nat.le_refl _)); have HY6 := hid (HY5.out.below hb (Nat.le_refl _)); have HO6 := hid (HO5.out.below hb (Nat.le_refl _)); have HN6 := hid (HN5.out.below' hb); have HR6 := hid (HR5.out.below' hb); have HB6 := hid (below_next HB5.out hb); have hv1 := fit_bound V (nds (nl l)).length ft hlv (by have := nds_len (nl l); have := HN1.out; omega); have ha1 := fit_bound A (brs (nl l)).length ft hla (by have := brs_len (nl l); have := HN1.out; omega); generalize (if ft = true then fitL V (nds (nl l)).length else V) = V1 at hu1 hv1; generalize (if ft = true then fitL A (brs (nl l)).length else A) = A1 at hu2 ha1; obtain ⟨b1, d1, rfl⟩ := hu1.form; obtain ⟨b2, d2, rfl⟩ := hu2.form; have HU := hid hu1; have HW := hid hu2; clear hu1 hu2; clear hb)
  clear HS5 HX5 HY5 HO5 HN5 HR5 HB5 HS6 HX6 HY6 s0 s1 s2 s3
  have HO7 := hid (HO6.out.below ((Below.refl w6.heap.size w6).alloc (Nat.le_refl _) (.cells #[.float .f64 om, .slice b1 V1.length d1, .slice b2 A1.length d2] 41)) (Nat.le_refl _))
  have HN7 := hid (HN6.out.below' ((Below.refl w6.heap.size w6).alloc (Nat.le_refl _) (.cells #[.float .f64 om, .slice b1 V1.length d1, .slice b2 A1.length d2] 41)))
  have HR7 := hid (HR6.out.below' ((Below.refl w6.heap.size w6).alloc (Nat.le_refl _) (.cells #[.float .f64 om, .slice b1 V1.length d1, .slice b2 A1.length d2] 41)))
  have HU7 := hid (HU.out.below ((Below.refl w6.heap.size w6).alloc (Nat.le_refl _) (.cells #[.float .f64 om, .slice b1 V1.length d1, .slice b2 A1.length d2] 41)) (Nat.le_refl _))
  have HW7 := hid (HW.out.below ((Below.refl w6.heap.size w6).alloc (Nat.le_refl _) (.cells #[.float .f64 om, .slice b1 V1.length d1, .slice b2 A1.length d2] 41)) (Nat.le_refl _))
  have HB7 := hid (below_next HB6.out ((Below.refl w6.heap.size w6).alloc (Nat.le_refl _) (.cells #[.float .f64 om, .slice b1 V1.length d1, .slice b2 A1.length d2] 41)))
  have HT := hid (heap_alloc_new w6 (.cells #[.float .f64 om, .slice b1 V1.length d1, .slice b2 A1.length d2] 41))
  clear HO6 HN6 HR6 HU HW HB6
  generalize w6.alloc (.cells #[.float .f64 om, .slice b1 V1.length d1, .slice b2 A1.length d2] 41) = w7 at *
  have hsc := (block_cells HT.out).1
  have s0 := hsc 0 _ rfl
  have s1 := hsc 1 _ rfl
  have s2 := hsc 2 _ rfl
  clear hsc
  go_upto_region 6 with (go_at_call 8; refine (lentsol_any _ _ om V1 A1 _ HU7.out HW7.out hv1 ha1).mono ?_; rintro e w8 ⟨e1, e2, k1, k2, rfl, ho1, ho2, hne, hb⟩; have HO8 := hid (HO7.out.below hb (Nat.le_refl _)); have HN8 := hid (HN7.out.below' hb); have HR8 := hid (HR7.out.below' hb); have HU8 := hid (HU7.out.below hb (Nat.le_refl _)); have HW8 := hid (HW7.out.below hb (Nat.le_refl _)); have HT8 := hid (heap_later2 hb HT.out); have HB8 := hid (below_next HB7.out hb); have ll1 : (V1 ++ marksNumbers 7 6).length = V1.length + 6 := (by rw [List.length_append, marksNumbers_len]); have ll2 : (A1 ++ marksNumbers 7 6).length = A1.length + 6 := (by rw [List.length_append, marksNumbers_len]); have HI := hid (own_begin ho1 (by omega)); have HJ := hid (own_begin ho2 (by omega)); have ho1' : w8.ownsRow w7.heap.size 48 1 (.slice e1 (V1.length + 6) k1) (V1 ++ marksNumbers 7 6).length ((V1 ++ marksNumbers 7 6).map mkC) := (by rw [ll1]; exact ho1); have ho2' : w8.ownsRow w7.heap.size 48 1 (.slice e2 (A1.length + 6) k2) (A1 ++ marksNumbers 7 6).length ((A1 ++ marksNumbers 7 6).map mkC) := (by rw [ll2]; exact ho2); have HL1 := hid ll1; have HL2 := hid ll2; have HOW := hid (owns_two HB8.out.size ho1' ho2' (Nat.le_trans HB7.out.size (Nat.le_refl _)) hne); have HNB1 := hid (show (Value.slice e1 (V1.length + 6) k1).ownBlock ≠ some (w8.heap.size + 1) from fun h => (by have := (World.ownsRow.lt ho1 _ h).2; omega)); have HNB2 := hid (show (Value.slice e2 (A1.length + 6) k2).ownBlock ≠ some (w8.heap.size + 1) from fun h => (by have := (World.ownsRow.lt ho2 _ h).2; omega)); clear hb ho1 ho2 ho1' ho2' hne ll1 ll2)
  clear HO7 HN7 HR7 HU7 HW7 HT HB7 s0 s1 s2
  have HO9 := hid (HO8.out.below ((Below.refl w8.heap.size w8).alloc (Nat.le_refl _) (.cells #[.float .f64 om, .slice e1 V1.length k1, .slice e2 A1.length k2] 41)) (Nat.le_refl _))
  have HN9 := hid (HN8.out.below' ((Below.refl w8.heap.size w8).alloc (Nat.le_refl _) (.cells #[.float .f64 om, .slice e1 V1.length k1, .slice e2 A1.length k2] 41)))
  have HR9 := hid (HR8.out.below' ((Below.refl w8.heap.size w8).alloc (Nat.le_refl _) (.cells #[.float .f64 om, .slice e1 V1.length k1, .slice e2 A1.length k2] 41)))
  have HU9 := hid (HU8.out.below ((Below.refl w8.heap.size w8).alloc (Nat.le_refl _) (.cells #[.float .f64 om, .slice e1 V1.length k1, .slice e2 A1.length k2] 41)) (Nat.le_refl _))
  have HW9 := hid (HW8.out.below ((Below.refl w8.heap.size w8).alloc (Nat.le_refl _) (.cells #[.float .f64 om, .slice e1 V1.length k1, .slice e2 A1.length k2] 41)) (Nat.le_refl _))
  have HT9 := hid (heap_later2 ((Below.refl w8.heap.size w8).alloc (Nat.le_refl _) (.cells #[.float .f64 om, .slice e1 V1.length k1, .slice e2 A1.length k2] 41)) HT8.out)
  have HI9 := hid (HI.out.below ((Below.refl w8.heap.size w8).alloc (Nat.le_refl _) (.cells #[.float .f64 om, .slice e1 V1.length k1, .slice e2 A1.length k2] 41)) (Nat.le_refl _))
  have HJ9 := hid (HJ.out.below ((Below.refl w8.heap.size w8).alloc (Nat.le_refl _) (.cells #[.float .f64 om, .slice e1 V1.length k1, .slice e2 A1.length k2] 41)) (Nat.le_refl _))
  have HOW9 := hid (HOW.out.later ((Below.refl w8.heap.size w8).alloc (Nat.le_refl _) (.cells #[.float .f64 om, .slice e1 V1.length k1, .slice e2 A1.length k2] 41)))
  have HB9 := hid (below_next HB8.out ((Below.refl w8.heap.size w8).alloc (Nat.le_refl _) (.cells #[.float .f64 om, .slice e1 V1.length k1, .slice e2 A1.length k2] 41)))
  have HIN := hid (heap_alloc_new w8 (.cells #[.float .f64 om, .slice e1 V1.length k1, .slice e2 A1.length k2] 41))
  have hsz9 : (w8.alloc (.cells #[.float .f64 om, .slice e1 V1.length k1, .slice e2 A1.length k2] 41)).heap.size = w8.heap.size + 1 := by simp
  clear HO8 HN8 HR8 HU8 HW8 HT8 HI HJ HOW HB8
  generalize w8.alloc (.cells #[.float .f64 om, .slice e1 V1.length k1, .slice e2 A1.length k2] 41) = w9 at *
  have HO10 := hid (HO9.out.below ((Below.refl w9.heap.size w9).alloc (Nat.le_refl _) (.cells #[.slice e1 (V1.length + 6) k1, .slice e2 (A1.length + 6) k2] 43)) (Nat.le_refl _))
  have HN10 := hid (HN9.out.below' ((Below.refl w9.heap.size w9).alloc (Nat.le_refl _) (.cells #[.slice e1 (V1.length + 6) k1, .slice e2 (A1.length + 6) k2] 43)))
  have HR10 := hid (HR9.out.below' ((Below.refl w9.heap.size w9).alloc (Nat.le_refl _) (.cells #[.slice e1 (V1.length + 6) k1, .slice e2 (A1.length + 6) k2] 43)))
  have HU10 := hid (HU9.out.below ((Below.refl w9.heap.size w9).alloc (Nat.le_refl _) (.cells #[.slice e1 (V1.length + 6) k1, .slice e2 (A1.length + 6) k2] 43)) (Nat.le_refl _))
  have HW10 := hid (HW9.out.below ((Below.refl w9.heap.size w9).alloc (Nat.le_refl _) (.cells #[.slice e1 (V1.length + 6) k1, .slice e2 (A1.length + 6) k2] 43)) (Nat.le_refl _))
  have HT10 := hid (heap_later2 ((Below.refl w9.heap.size w9).alloc (Nat.le_refl _) (.cells #[.slice e1 (V1.length + 6) k1, .slice e2 (A1.length + 6) k2] 43)) HT9.out)
  have HI10 := hid (HI9.out.below ((Below.refl w9.heap.size w9).alloc (Nat.le_refl _) (.cells #[.slice e1 (V1.length + 6) k1, .slice e2 (A1.length + 6) k2] 43)) (Nat.le_refl _))
  have HJ10 := hid (HJ9.out.below ((Below.refl w9.heap.size w9).alloc (Nat.le_refl _) (.cells #[.slice e1 (V1.length + 6) k1, .slice e2 (A1.length + 6) k2] 43)) (Nat.le_refl _))
  have HOW10 := hid (HOW9.out.later ((Below.refl w9.heap.size w9).alloc (Nat.le_refl _) (.cells #[.slice e1 (V1.length + 6) k1, .slice e2 (A1.length + 6) k2] 43)))
  have HIN10 := hid (heap_later2 ((Below.refl w9.heap.size w9).alloc (Nat.le_refl _) (.cells #[.slice e1 (V1.length + 6) k1, .slice e2 (A1.length + 6) k2] 43)) HIN.out)
  have HB10 := hid (below_next HB9.out ((Below.refl w9.heap.size w9).alloc (Nat.le_refl _) (.cells #[.slice e1 (V1.length + 6) k1, .slice e2 (A1.length + 6) k2] 43)))
  have HFU := hid (show (w9.alloc (.cells #[.slice e1 (V1.length + 6) k1, .slice e2 (A1.length + 6) k2] 43)).heap[w8.heap.size + 1]? = some _ from hsz9 ▸ heap_alloc_new w9 (.cells #[.slice e1 (V1.length + 6) k1, .slice e2 (A1.length + 6) k2] 43))
  clear hsz9
  clear HO9 HN9 HR9 HU9 HW9 HT9 HI9 HJ9 HOW9 HIN HB9
  generalize w9.alloc (.cells #[.slice e1 (V1.length + 6) k1, .slice e2 (A1.length + 6) k2] 43) = w10 at *
  have hsc := (block_cells HIN10.out).1
  have s0 := hsc 0 _ rfl
  have s1 := hsc 1 _ rfl
  have s2 := hsc 2 _ rfl
  clear hsc
  go_upto_region 7 with (go_at_call 9; refine (call_any p (nl l) om (.slice e1 V1.length k1) (.slice e2 A1.length k2) V1 A1 _ HN10.out HN1.out HN3.out HN2.out HI10.out HJ10.out hv1 ha1).mono ?_; rintro e w11 ⟨va, xa, ka, rfl, hown, hsp, hb⟩; have HO11 := hid (HO10.out.below hb (Nat.le_refl _)); have HN11 := hid (HN10.out.below' hb); have HR11 := hid (HR10.out.below' hb); have HU11 := hid (HU10.out.below hb (Nat.le_refl _)); have HW11 := hid (HW10.out.below hb (Nat.le_refl _)); have HT11 := hid (heap_later2 hb HT10.out); have HI11 := hid (HI10.out.below hb (Nat.le_refl _)); have HJ11 := hid (HJ10.out.below hb (Nat.le_refl _)); have HIN11 := hid (heap_later2 hb HIN10.out); have HFU11 := hid (heap_later2 hb HFU.out); have HB11 := hid (below_next HB10.out hb); have HOW7 := hid (Owns.more (n := 2) HOW10.out hb hown); have HLva := hid (all_len hsp); have HSva := hid hsp; obtain ⟨cva, dva, rfl⟩ := (IsSl.of_own hown).form; clear hown hsp; clear hb)
  clear HO10 HN10 HR10 HU10 HW10 HT10 HI10 HJ10 HIN10 HFU HB10 HOW10 s0 s1 s2
  have hsc := (block_cells HIN11.out).1
  have s0 := hsc 0 _ rfl
  have s1 := hsc 1 _ rfl
  have s2 := hsc 2 _ rfl
  clear hsc
  go_upto_region 8 with (go_at_call 9; refine (call_any p (nl l) om (.slice e1 V1.length k1) (.slice e2 A1.length k2) V1 A1 _ HN11.out HN1.out HN3.out HN2.out HI11.out HJ11.out hv1 ha1).mono ?_; rintro e w12 ⟨vb, xb, kb, rfl, hown, hsp, hb⟩; have HO12 := hid (HO11.out.below hb (Nat.le_refl _)); have HN12 := hid (HN11.out.below' hb); have HR12 := hid (HR11.out.below' hb); have HU12 := hid (HU11.out.below hb (Nat.le_refl _)); have HW12 := hid (HW11.out.below hb (Nat.le_refl _)); have HT12 := hid (heap_later2 hb HT11.out); have HI12 := hid (HI11.out.below hb (Nat.le_refl _)); have HJ12 := hid (HJ11.out.below hb (Nat.le_refl _)); have HIN12 := hid (heap_later2 hb HIN11.out); have HFU12 := hid (heap_later2 hb HFU11.out); have HB12 := hid (below_next HB11.out hb); have HOW8 := hid (Owns.more (n := 3) HOW7.out hb hown); have HLvb := hid (all_len hsp); have HSvb := hid hsp; obtain ⟨cvb, dvb, rfl⟩ := (IsSl.of_own hown).form; clear hown hsp; clear hb)
  clear HO11 HN11 HR11 HU11 HW11 HT11 HI11 HJ11 HIN11 HFU11 HB11 HOW7 s0 s1 s2
  have hsc := (block_cells HIN12.out).1
  have s0 := hsc 0 _ rfl
  have s1 := hsc 1 _ rfl
  have s2 := hsc 2 _ rfl
  clear hsc
  go_upto_region 9 with (go_at_call 10; refine (cthru_any p (nl l) om (.slice e1 V1.length k1) (.slice e2 A1.length k2) V1 A1 s _ HN12.out HN1.out HN3.out hs HN2.out HI12.out HJ12.out hv1 ha1).mono ?_; rintro e w13 ⟨vt, rfl, hb, tr, ti, tk, rfl, hz⟩; have HO13 := hid (HO12.out.below hb (Nat.le_refl _)); have HN13 := hid (HN12.out.below' hb); have HR13 := hid (HR12.out.below' hb); have HU13 := hid (HU12.out.below hb (Nat.le_refl _)); have HW13 := hid (HW12.out.below hb (Nat.le_refl _)); have HT13 := hid (heap_later2 hb HT12.out); have HI13 := hid (HI12.out.below hb (Nat.le_refl _)); have HJ13 := hid (HJ12.out.below hb (Nat.le_refl _)); have HIN13 := hid (heap_later2 hb HIN12.out); have HFU13 := hid (heap_later2 hb HFU12.out); have HOW13 := hid (HOW8.out.later hb); have HB13 := hid (below_next HB12.out hb); have HZT := hid hz; clear hz; clear hb)
  clear HO12 HN12 HR12 HU12 HW12 HT12 HI12 HJ12 HIN12 HFU12 HOW8 HB12 s0 s1 s2
  have hsc := (block_cells HT13.out).1
  have s0 := hsc 0 _ rfl
  have s1 := hsc 1 _ rfl
  have s2 := hsc 2 _ rfl
  clear hsc
  go_upto_region 10 with (go_at_call 11; refine (rall_any q (nl l) om (.slice b1 V1.length d1) (.slice b2 A1.length d2) V1 A1 _ HR13.out HN1.out HN2.out HU13.out HW13.out hv1 ha1).mono ?_; rintro e w14 ⟨vc, xc, kc, rfl, hown, hsp, hb⟩; have HO14 := hid (HO13.out.below hb (Nat.le_refl _)); have HN14 := hid (HN13.out.below' hb); have HR14 := hid (HR13.out.below' hb); have HU14 := hid (HU13.out.below hb (Nat.le_refl _)); have HW14 := hid (HW13.out.below hb (Nat.le_refl _)); have HT14 := hid (heap_later2 hb HT13.out); have HI14 := hid (HI13.out.below hb (Nat.le_refl _)); have HJ14 := hid (HJ13.out.below hb (Nat.le_refl _)); have HIN14 := hid (heap_later2 hb HIN13.out); have HFU14 := hid (heap_later2 hb HFU13.out); have HB14 := hid (below_next HB13.out hb); have HOW9 := hid (Owns.more (n := 4) HOW13.out hb hown); have HLvc := hid (all_len hsp); have HSvc := hid hsp; obtain ⟨cvc, dvc, rfl⟩ := (IsSl.of_own hown).form; clear hown hsp; clear hb)
  clear HO13 HN13 HR13 HU13 HW13 HT13 HI13 HJ13 HIN13 HFU13 HB13 HOW13 s0 s1 s2
  have hsc := (block_cells HT14.out).1
  have s0 := hsc 0 _ rfl
  have s1 := hsc 1 _ rfl
  have s2 := hsc 2 _ rfl
  clear hsc
  go_upto_region 11 with (go_at_call 12; refine (rthru_any q (nl l) om (.slice b1 V1.length d1) (.slice b2 A1.length d2) V1 A1 s _ HR14.out HN1.out hs HN2.out HU14.out HW14.out hv1 ha1).mono ?_; rintro e w15 ⟨vt, rfl, hb, yr, yi, yk, rfl, hz⟩; have HO15 := hid (HO14.out.below hb (Nat.le_refl _)); have HN15 := hid (HN14.out.below' hb); have HR15 := hid (HR14.out.below' hb); have HU15 := hid (HU14.out.below hb (Nat.le_refl _)); have HW15 := hid (HW14.out.below hb (Nat.le_refl _)); have HT15 := hid (heap_later2 hb HT14.out); have HI15 := hid (HI14.out.below hb (Nat.le_refl _)); have HJ15 := hid (HJ14.out.below hb (Nat.le_refl _)); have HIN15 := hid (heap_later2 hb HIN14.out); have HFU15 := hid (heap_later2 hb HFU14.out); have HOW15 := hid (HOW9.out.later hb); have HB15 := hid (below_next HB14.out hb); have HZY := hid hz; clear hz; clear hb)
  clear HO14 HN14 HR14 HU14 HW14 HT14 HI14 HJ14 HIN14 HFU14 HOW9 HB14 s0 s1 s2
  obtain ⟨pa, rfl, hpa⟩ := nn_form HN15.out
  obtain ⟨qa, rfl, hqa⟩ := rn_form HR15.out
  have hpq : pa.isNone = qa.isNone := by rw [← hpa, ← hqa, HNP.out, HNQ.out]
  have hnq : noNet (.pointer qa) = noNet (.pointer pa) := HNQ.out.trans HNP.out.symm
  rw [hnq] at HSvc HZY HLvc
  obtain ⟨hxa, hka⟩ := Prod.mk.inj HSva.out
  obtain ⟨hxb, hkb⟩ := Prod.mk.inj HSvb.out
  obtain ⟨hxc, hkc⟩ := Prod.mk.inj HSvc.out
  obtain ⟨hzt, hkt⟩ := Prod.mk.inj HZT.out
  obtain ⟨hzy, hky⟩ := Prod.mk.inj HZY.out
  obtain rfl : kb = ka := hkb.trans hka.symm
  obtain rfl : kc = kb := hkc.trans hkb.symm
  obtain rfl : yk = tk := hky.trans hkt.symm
  have HXAC := hid (hxa.trans hxc.symm)
  have HXBC := hid (hxb.trans hxc.symm)
  have HTY := hid (show ck (tr, ti) = ck (yr, yi) from hzt.trans hzy.symm)
  clear hxa hka hxb hkb hxc hkc hzt hkt hzy hky hpa hqa HSva HSvb HSvc HZT HZY
  go_upto_region 12 with (go_at_call 13; refine (samenumber_any (tr, ti) (yr, yi) _).mono ?_; rintro e wn ⟨rfl, rfl⟩; rw [HTY.out, beq_self_eq_true])
  have HNQP := hid hnq
  clear hpq hnq
  obtain ⟨iu, hiu, hu0, hu1, hu2⟩ := info_parts infoEa
  have hll : l.length ≤ 9223372036854775807 := by have := HLE.out; omega
  go_loopw [25] (fun i wr => ∃ k : Nat, k ≤ l.length ∧ i = .int .i64 k ∧ Below w15.heap.size w15 wr) (fun i _ => l.length - (intOf i).toNat)
  case atStart => exact ⟨0, Nat.zero_le _, rfl, Below.refl _ _⟩
  case round =>
    obtain ⟨k, hk, rfl, hb⟩ := hrel
    obtain ⟨wo, rfl⟩ : ∃ wo : World, wo = wr := ⟨_, rfl⟩
    have HBB := hid hb
    have HO16 := hid (HO15.out.below hb (Nat.le_refl _))
    have HN16 := hid (HN15.out.below' hb)
    have HR16 := hid (HR15.out.below' hb)
    have HU16 := hid (HU15.out.below hb (Nat.le_refl _))
    have HW16 := hid (HW15.out.below hb (Nat.le_refl _))
    have HT16 := hid (heap_later2 hb HT15.out)
    have HI16 := hid (HI15.out.below hb (Nat.le_refl _))
    have HJ16 := hid (HJ15.out.below hb (Nat.le_refl _))
    have HIN16 := hid (heap_later2 hb HIN15.out)
    have HFU16 := hid (heap_later2 hb HFU15.out)
    have HOW16 := hid (HOW15.out.later hb)
    have HB16 := hid (below_next HB15.out hb)
    clear hb
    by_cases hlt : k < l.length
    · obtain ⟨g1, o1, x, hidx, hg, hx, hcell⟩ := IsSl.atF Try.underlying27 hiu hu1 ea_len HO16.out rfl hlt
      have hxs : x.name.size ≤ maxLen := (HOK.out x (List.mem_of_getElem? hx)).name
      have nm := hcell 1 _ rfl
      clear hcell hg
      have hsc := (block_cells HIN16.out).1
      have s0 := hsc 0 _ rfl
      have s1 := hsc 1 _ rfl
      have s2 := hsc 2 _ rfl
      clear hsc
      have hsc := (block_cells HT16.out).1
      have t0 := hsc 0 _ rfl
      have t1 := hsc 1 _ rfl
      have t2 := hsc 2 _ rfl
      clear hsc
      have S0 := hid s0
      go_upto_region 16 with fail
      go_region_held3 (fun w' => Below wo.heap.size wo w' ∧ w'.cell? ⟨w8.heap.size, 0, none⟩ = some (.float .f64 om) ∧ w'.cell? ⟨w8.heap.size, 1, none⟩ = some (.slice e1 V1.length k1) ∧ w'.cell? ⟨w8.heap.size, 2, none⟩ = some (.slice e2 A1.length k2) ∧ w'.cell? ⟨g1, o1 + 1, none⟩ = some (.string x.name))
        (((try dsimp only); (try go_split_ands); refine ⟨?_, ?_, ?_, ?_, ?_⟩ <;> (first | with_reducible exact below_step (by assumption) hb | with_reducible exact cell_later hb (by assumption) | with_reducible exact (Below.refl _ _).drew | with_reducible assumption | (go_keep; done))))
        ((go_at_call 10; refine (cthru_any _ (nl l) om (.slice e1 V1.length k1) (.slice e2 A1.length k2) V1 A1 x.name _ (HN16.out.below (by first | assumption | exact (Below.refl _ _).drew | (go_split_ands; assumption)) (Nat.le_refl _)) HN1.out HN3.out hxs HN2.out (HI16.out.below (by first | assumption | exact (Below.refl _ _).drew | (go_split_ands; assumption)) (Nat.le_refl _)) (HJ16.out.below (by first | assumption | exact (Below.refl _ _).drew | (go_split_ands; assumption)) (Nat.le_refl _)) hv1 ha1).mono ?_; rintro en w' ⟨v, rfl, hb, ar, ai, ak, rfl, hz⟩; have HZ1 := hid hz; clear hz))
      rename_i hH1
      obtain ⟨hb1, _, _, _, nm1⟩ := hH1
      clear hb s0 s1 s2 t0 t1 t2 nm S0
      obtain ⟨wp, rfl⟩ : ∃ wp : World, wp = w' := ⟨_, rfl⟩
      have HO17 := hid (HO16.out.below hb1 (Nat.le_refl _))
      have HN17 := hid (HN16.out.below' hb1)
      have HR17 := hid (HR16.out.below' hb1)
      have HU17 := hid (HU16.out.below hb1 (Nat.le_refl _))
      have HW17 := hid (HW16.out.below hb1 (Nat.le_refl _))
      have HT17 := hid (heap_later2 hb1 HT16.out)
      have HI17 := hid (HI16.out.below hb1 (Nat.le_refl _))
      have HJ17 := hid (HJ16.out.below hb1 (Nat.le_refl _))
      have HIN17 := hid (heap_later2 hb1 HIN16.out)
      have HFU17 := hid (heap_later2 hb1 HFU16.out)
      have HOW17 := hid (HOW16.out.later hb1)
      have HB17 := hid (below_next HB16.out hb1)
      have hsc := (block_cells HT17.out).1
      have t0 := hsc 0 _ rfl
      have t1 := hsc 1 _ rfl
      have t2 := hsc 2 _ rfl
      clear hsc
      have HB1 := hid hb1
      clear hb1
      go_upto_region 17 with fail
      go_region_held3 (fun w' => Below wp.heap.size wp w' ∧ w'.cell? ⟨w6.heap.size, 0, none⟩ = some (.float .f64 om) ∧ w'.cell? ⟨w6.heap.size, 1, none⟩ = some (.slice b1 V1.length d1) ∧ w'.cell? ⟨w6.heap.size, 2, none⟩ = some (.slice b2 A1.length d2) ∧ w'.cell? ⟨g1, o1 + 1, none⟩ = some (.string x.name))
        (((try dsimp only); (try go_split_ands); refine ⟨?_, ?_, ?_, ?_, ?_⟩ <;> (first | with_reducible exact below_step (by assumption) hb | with_reducible exact cell_later hb (by assumption) | with_reducible exact (Below.refl _ _).drew | with_reducible assumption | (go_keep; done))))
        ((go_at_call 12; refine (rthru_any _ (nl l) om (.slice b1 V1.length d1) (.slice b2 A1.length d2) V1 A1 x.name _ (HR17.out.below (by first | assumption | exact (Below.refl _ _).drew | (go_split_ands; assumption)) (Nat.le_refl _)) HN1.out hxs HN2.out (HU17.out.below (by first | assumption | exact (Below.refl _ _).drew | (go_split_ands; assumption)) (Nat.le_refl _)) (HW17.out.below (by first | assumption | exact (Below.refl _ _).drew | (go_split_ands; assumption)) (Nat.le_refl _)) hv1 ha1).mono ?_; rintro en w' ⟨v, rfl, hb, br, bi, bk, rfl, hz⟩; have HZ2 := hid hz; clear hz))
      rename_i hH2
      obtain ⟨hb2, _, _, _, _⟩ := hH2
      clear hb t0 t1 t2 nm1
      have hz2 := HZ2.out
      rw [HNQP.out, ← HZ1.out] at hz2
      obtain ⟨hz3, hz4⟩ := Prod.mk.inj hz2
      obtain rfl : bk = ak := hz4
      have HZ3 := hid (show ck (ar, ai) = ck (br, bi) from hz3.symm)
      have HB2 := hid (HBB.out.trans ((HB1.out.trans (hb2.mono HB1.out.size)).mono HBB.out.size))
      clear hz2 hz3 HZ1 HZ2 hb2
      go_upto_region 15 with (go_at_call 13; refine (samenumber_any (ar, ai) (br, bi) _).mono ?_; rintro e wn ⟨rfl, rfl⟩; rw [HZ3.out, beq_self_eq_true])
      go_wp2
      go_roundw
      case rel => exact ⟨k + 1, by omega, by go_num, HB2.out⟩
      case measure => simp [intOf]; omega

    · obtain rfl : k = l.length := by omega
      clear HO16 HN16 HR16 HIN16 HI16 HJ16
      have hsc := (block_cells HFU16.out).1
      have f0 := hsc 0 _ rfl
      have f1 := hsc 1 _ rfl
      clear hsc
      have hsc := (block_cells HT16.out).1
      have t0 := hsc 0 _ rfl
      have t1 := hsc 1 _ rfl
      have t2 := hsc 2 _ rfl
      clear hsc
      go_upto_region 22 with (go_at_call 14; refine (keptsol_any (.slice e1 (V1.length + 6) k1) (.slice e2 (A1.length + 6) k2) (.slice b1 V1.length d1) (.slice b2 A1.length d2) om V1 A1 _ (by have h : IsSl _ 1 (.slice e1 (V1.length + 6) k1) (V1 ++ marksNumbers 7 6).length ((V1 ++ marksNumbers 7 6).map mkC) := HOW16.out.sl (i := (0, 0)) ⟨by decide, rfl⟩; rw [HL1.out] at h; exact h) (by have h : IsSl _ 1 (.slice e2 (A1.length + 6) k2) (A1 ++ marksNumbers 7 6).length ((A1 ++ marksNumbers 7 6).map mkC) := HOW16.out.sl (i := (1, 0)) ⟨by decide, rfl⟩; rw [HL2.out] at h; exact h) HU16.out HW16.out hv1 ha1).mono ?_; rintro e w20 ⟨vk, rfl, hb, rfl⟩; have HU67 := hid (HU16.out.below hb (Nat.le_refl _)); have HW67 := hid (HW16.out.below hb (Nat.le_refl _)); have HT67 := hid (heap_later2 hb HT16.out); have HFU67 := hid (heap_later2 hb HFU16.out); have HOW67 := hid (HOW16.out.later hb); have HB67 := hid (below_next HB16.out hb); clear hb)
      clear HU16 HW16 HT16 HFU16 HOW16 HB16 HU67 HW67 HT67 f0 f1 t0 t1 t2
      have hsc := (block_cells HFU67.out).1
      have f0 := hsc 0 _ rfl
      have f1 := hsc 1 _ rfl
      clear hsc
      go_upto_region 23 with (go_at_call 15; refine (overnumbers_any w.heap.size (.slice e1 (V1.length + 6) k1) (V1 ++ marksNumbers 7 6).length (V1 ++ marksNumbers 7 6) _ (by exact HOW67.out.ok (0, 0) ⟨by decide, rfl⟩) (by rw [HL1.out]; omega)).mono ?_; rintro e w21 ⟨rfl, hov, hgr⟩; have hov' : w21.ownsRow w.heap.size 48 1 (.slice e1 (V1.length + 6) k1) (marksNumbers 9 (V1 ++ marksNumbers 7 6).length).length ((marksNumbers 9 (V1 ++ marksNumbers 7 6).length).map mkC) := (by rw [marksNumbers_len]; exact hov); have HOV0 := hid (HOW67.out.over (k := 0) (by decide) (by exact hov') (by exact hgr)); have HBO0 := hid (HB67.out.trans (HOW67.out.below_write (i := (0, 0)) ⟨by decide, rfl⟩ (by exact hgr))); have HFO0 := hid (heap_grown hgr HNB1.out HFU67.out); clear hov hov' hgr)
      clear HOW67 HFU67 HB67 f0 f1
      have hsc := (block_cells HFO0.out).1
      have f0 := hsc 0 _ rfl
      have f1 := hsc 1 _ rfl
      clear hsc
      go_upto_region 24 with (go_at_call 15; refine (overnumbers_any w.heap.size (.slice e2 (A1.length + 6) k2) (A1 ++ marksNumbers 7 6).length (A1 ++ marksNumbers 7 6) _ (by exact HOV0.out.ok (1, 0) ⟨by decide, rfl⟩) (by rw [HL2.out]; omega)).mono ?_; rintro e w22 ⟨rfl, hov, hgr⟩; have hov' : w22.ownsRow w.heap.size 48 1 (.slice e2 (A1.length + 6) k2) (marksNumbers 9 (A1 ++ marksNumbers 7 6).length).length ((marksNumbers 9 (A1 ++ marksNumbers 7 6).length).map mkC) := (by rw [marksNumbers_len]; exact hov); have HOV1 := hid (HOV0.out.over (k := 1) (by decide) (by exact hov') (by exact hgr)); have HBO1 := hid (HBO0.out.trans (HOV0.out.below_write (i := (1, 0)) ⟨by decide, rfl⟩ (by exact hgr))); have HFO1 := hid (heap_grown hgr HNB2.out HFO0.out); clear hov hov' hgr)
      clear HOV0 HFO0 HBO0 f0 f1
      have hsc := (block_cells HFO1.out).1
      have f0 := hsc 0 _ rfl
      have f1 := hsc 1 _ rfl
      clear hsc
      have lva : xa.length ≤ 100000 := by have h := HLva.out; have := allS_len (noNet (.pointer pa)) (nl l) V1 A1 om; have := HN1.out; omega
      have lvb : xb.length ≤ 100000 := by have h := HLvb.out; have := allS_len (noNet (.pointer pa)) (nl l) V1 A1 om; have := HN1.out; omega
      have lvc : xc.length ≤ 100000 := by have h := HLvc.out; have := allS_len (noNet (.pointer pa)) (nl l) V1 A1 om; have := HN1.out; omega
      go_wp2_with (first | (go_at_call_of 16 (Value.slice cva xa.length dva); refine (samenumbers_true _ _ xa xc _ (by exact HOV1.out.sl (i := (2, 0)) ⟨by decide, rfl⟩) (by exact HOV1.out.sl (i := (4, 0)) ⟨by decide, rfl⟩) (by omega) (by omega) HXAC.out).mono ?_; rintro e w23 ⟨rfl, hb⟩; have HOS0 := hid (HOV1.out.later hb); have HBS0 := hid (HBO1.out.trans (hb.mono HBO1.out.size)); have HFS0 := hid (heap_later2 hb HFO1.out); have q00 := (block_cells HFS0.out).1 0 _ rfl; have q01 := (block_cells HFS0.out).1 1 _ rfl; clear hb) | (go_at_call_of 16 (Value.slice cvb xb.length dvb); refine (samenumbers_true _ _ xb xc _ (by exact HOS0.out.sl (i := (3, 0)) ⟨by decide, rfl⟩) (by exact HOS0.out.sl (i := (4, 0)) ⟨by decide, rfl⟩) (by omega) (by omega) HXBC.out).mono ?_; rintro e w24 ⟨rfl, hb⟩; have HOS1 := hid (HOS0.out.later hb); have HBS1 := hid (HBS0.out.trans (hb.mono HBS0.out.size)); have HFS1 := hid (heap_later2 hb HFS0.out); have q10 := (block_cells HFS1.out).1 0 _ rfl; have q11 := (block_cells HFS1.out).1 1 _ rfl; clear hb) | (go_at_call 17; have hfam := famN (mk := mkC) (E := 48) (ST := 39) (w1 := w24) (m := 4) (B := w.heap.size) (V := quad (.slice e1 (V1.length + 6) k1) (.slice e2 (A1.length + 6) k2) (.slice cva xa.length dva) (.slice cvb xb.length dvb)) (N := quad (V1 ++ marksNumbers 7 6).length (A1 ++ marksNumbers 7 6).length xa.length xb.length) (L := quad (marksNumbers 9 (V1 ++ marksNumbers 7 6).length) (marksNumbers 9 (A1 ++ marksNumbers 7 6).length) xa xb) HBS1.out HBS1.out.size (four (by have h := HOS1.out.ok (0, 0) ⟨by decide, rfl⟩; exact own_marks h) (by have h := HOS1.out.ok (1, 0) ⟨by decide, rfl⟩; exact own_marks h) (by exact HOS1.out.ok (2, 0) ⟨by decide, rfl⟩) (by exact HOS1.out.ok (3, 0) ⟨by decide, rfl⟩)) (four_ne HOS1.out rfl rfl rfl rfl); refine (apartnumbers_any w.heap.size 4 _ _ _ _ _ w (by omega) (four (by show ((V1 ++ marksNumbers 7 6).length + 6) * 16 ≤ _; rw [HL1.out]; omega) (by show ((A1 ++ marksNumbers 7 6).length + 6) * 16 ≤ _; rw [HL2.out]; omega) (by show (xa.length + 6) * 16 ≤ _; omega) (by show (xb.length + 6) * 16 ≤ _; omega)) hfam.1 hfam.2).mono ?_; rintro e w25 ⟨rfl, hbf⟩))
      go_ret
      exact ⟨ret_bool (by simp), hbf⟩
end Go.Proofs.Ytaobncojdonhlaa
