/- a part of the proof of the last text -/
import Derived.Test.YtjeedckmkicnoaaGreatDoorZAskR
namespace Go.Proofs.YtjeedckmkicnoaaGreatDoor
set_option linter.all false
set_option maxHeartbeats 4000000
set_option maxRecDepth 100000
section
open Go.RowKit
set_option maxRecDepth 100000 in
set_option maxHeartbeats 400000 in
theorem copyelements_any (v : Value) (l : List El) (w : World) (hv : IsSl w 8 v l.length (l.flatMap ea)) (hl : l.length * 104 ≤ 140737488355328) :
    Calls Tryz.prog 28 #[v] w (RetRow 81 8 l.length (fun xs => xs = l.flatMap ea) w) := by
  obtain ⟨a, c, rfl⟩ := hv.form
  obtain ⟨i0, hi, hz0, hz1, hz2⟩ := info_parts infoEa
  go_enter Tryz.func28, Tryz.ntmps28
  go_wp2_with (refine wpList_appendAll rfl _ _ _ rfl w.heap.size 81 8 104 i0 (.agg #[.int .u8 0, .string ⟨#[]⟩, .string ⟨#[]⟩, .string ⟨#[]⟩, .string ⟨#[]⟩, .string ⟨#[]⟩, .float .f64 0, .int .i64 0]) Tryz.underlying37 hi hz0 hz1 hz2 rfl (by decide) _ 0 [] (World.ownsRow_nil _ _ _ _) (Nat.le_refl _) _ _ _ hv rfl rfl (by intro u hu; obtain ⟨z, _, hz⟩ := List.mem_flatMap.1 hu; exact ea_one z u hz) (by simp [maxLen]; omega) (by omega) ?_; intro v1 w1 hown1 hgr1 hat1)
  go_ret
  refine ⟨_, _, rfl, ?_, rfl, (Below.refl _ _).grown hgr1 (Nat.le_refl _) (by intro k e; cases e)⟩
  simpa using hown1
theorem retof_goodR {l : List El} {w w' : World} {e : Ending} (h : RetOf RN l w e w') (h0 : (ofL l).1 = true) : ∃ g : Nat, e = .returned (.tuple #[.pointer (some ⟨g, 0, none⟩), .agg #[.int .i64 0, .int .i64 0]]) ∧ RN w' (.pointer (some ⟨g, 0, none⟩)) l ∧ Below w.heap.size w w' := by
  obtain ⟨p, rfl, h, hb⟩ := h
  rcases h with ⟨h1, _⟩ | ⟨_, h2, h3⟩
  · rw [h0] at h1; cases h1
  · rw [ofL_zero h0]
    rcases h3 with ⟨h4, _⟩ | ⟨g, v, rfl, h4⟩
    · exact absurd h4 h2
    · exact ⟨g, rfl, .inr ⟨g, v, rfl, h4⟩, hb⟩
/-- A net, the program's and the document's, that may be; whether it is one of at most 40 elements and 16 unknowns. -/
def RetRd (l : List El) (w : World) (e : Ending) (w' : World) : Prop :=
  ∃ p q b, e = .returned (.tuple #[p, q, .bool b]) ∧ Below w.heap.size w w' ∧ (b = true → l.length ≤ 40 ∧ (ofL l).1 = true ∧ szL l ≤ 16 ∧ NN w' p l ∧ RN w' q l ∧ noNet p = false ∧ noNet q = false)
end
section
/- gridworklaw20.read. -/
open Go.RowKit
theorem szL_eq (l : List El) : ((nds l).length : Int) + ((brs l).length : Int) = ((szL l : Nat) : Int) := by unfold szL; simp
set_option maxRecDepth 100000 in
set_option maxHeartbeats 2000000 in
theorem read20_any (v : Value) (l : List El) (w : World) (hv : InSl w 8 v l.length (l.flatMap ez)) (hok : ∀ e ∈ l, e.Ok) :
    Calls Tryz.prog 5 #[v] w (RetRd l w) := by
  obtain ⟨a, c, rfl⟩ := hv.form
  have HV := hid hv
  have HOK := hid hok
  have HBO := hid (Below.refl w.heap.size w)
  clear hv hok
  by_cases h40 : 40 < l.length
  · have h41 : (40 : Int) < (l.length : Int) := by omega
    clear h40
    go_enter Tryz.func5, Tryz.ntmps5
    go_wp2
    (try rw [Exit.noGoto_ret])
    refine bodyPost_ret (v := .tuple #[.pointer none, .pointer none, .bool false]) ?_ rfl ⟨_, _, _, rfl, HBO.out, fun h => by cases h⟩
    rw [results_tmp3 rfl]; rfl
  have h41 : ¬ (40 : Int) < (l.length : Int) := by omega
  have H40 := hid (show l.length ≤ 40 by omega)
  clear h40
  cases hob : (ofL l).1
  · have HOB := hid hob
    clear hob
    go_enter Tryz.func5, Tryz.ntmps5
    go_upto_region 4 with (go_at_call 16; refine (elements_any _ l _ HV.out (by have := H40.out; omega)).mono ?_; rintro e w1 ⟨vo, xs, rfl, hown, rfl, hb⟩; have HB1 := hid (below_next HBO.out hb); have HO := hid (IsSl.of_own hown); obtain ⟨ao, co, rfl⟩ := HO.out.form; clear hown; clear hb )
    clear HBO HV
    go_upto_region 5 with (first | (go_at_call 28; refine (copyelements_any _ l _ HO.out (by have := H40.out; omega)).mono ?_; rintro e w2 ⟨vo2, xs2, rfl, hown, rfl, hb⟩; have HO2 := hid (HO.out.below hb (Nat.le_refl _)); have HB2 := hid (below_next HB1.out hb); have HC := hid (IsSl.of_own hown); obtain ⟨ac, cc, rfl⟩ := HC.out.form; clear hown; clear hb ) | (go_at_call 27; refine (nof_any _ l _ HC.out HOK.out (by have := H40.out; omega)).mono ?_; intro e w3 hr; obtain ⟨fxN, fyN, rfl, hfxN, hb⟩ := retof_bad hr HOB.out; have HO3 := hid (HO2.out.below hb (Nat.le_refl _)); have HC3 := hid (HC.out.below hb (Nat.le_refl _)); have HB3 := hid (below_next HB2.out hb); clear hb hr))
    clear HO HB1 HO2 HC HB2
    have HO4 := hid (HO3.out.below ((Below.refl w3.heap.size w3).alloc (Nat.le_refl _) (.cells #[.int .i64 fxN, .int .i64 fyN] 62)) (Nat.le_refl _))
    have HB4 := hid (below_next HB3.out ((Below.refl w3.heap.size w3).alloc (Nat.le_refl _) (.cells #[.int .i64 fxN, .int .i64 fyN] 62)))
    have HF := hid (heap_alloc_new w3 (.cells #[.int .i64 fxN, .int .i64 fyN] 62))
    clear HO3 HB3
    generalize w3.alloc (.cells #[.int .i64 fxN, .int .i64 fyN] 62) = w4 at *
    obtain ⟨gf, hgf⟩ : ∃ gf, w3.heap.size = gf := ⟨_, rfl⟩
    rw [hgf] at HF ⊢
    clear hgf
    go_upto_region 6 with (go_at_call 29; refine (rof_any15 _ l _ HO4.out HOK.out (by have := H40.out; omega)).mono ?_; intro e w5 hr; obtain ⟨fxR, fyR, rfl, hfxR, hb⟩ := retof_bad hr HOB.out; have HO5 := hid (HO4.out.below hb (Nat.le_refl _)); have HF5 := hid (heap_later2 hb HF.out); have HB5 := hid (below_next HB4.out hb); clear hb hr)
    clear HO4 HF HB4
    have HF6 := hid (heap_later2 ((Below.refl w5.heap.size w5).alloc (Nat.le_refl _) (.cells #[.int .i64 fxR, .int .i64 fyR] 62)) HF5.out)
    have HB6 := hid (below_next HB5.out ((Below.refl w5.heap.size w5).alloc (Nat.le_refl _) (.cells #[.int .i64 fxR, .int .i64 fyR] 62)))
    have HG := hid (heap_alloc_new w5 (.cells #[.int .i64 fxR, .int .i64 fyR] 62))
    clear HF5 HB5
    generalize w5.alloc (.cells #[.int .i64 fxR, .int .i64 fyR] 62) = w6 at *
    obtain ⟨gg, hgg⟩ : ∃ gg, w5.heap.size = gg := ⟨_, rfl⟩
    rw [hgg] at HG ⊢
    clear hgg
    have hsc := block_cells HF6.out
    have z0 := hsc.1 0 _ rfl
    have z1 := hsc.1 1 _ rfl
    clear hsc
    have hsc := block_cells HG.out
    have y0 := hsc.1 0 _ rfl
    have y1 := hsc.1 1 _ rfl
    clear hsc
    have q1 : (fxN == 0) = false := by simpa using hfxN
    go_wp2
    (try rw [Exit.noGoto_ret])
    refine bodyPost_ret (v := .tuple #[.pointer none, .pointer none, .bool false]) ?_ rfl ⟨_, _, _, rfl, HB6.out, fun h => by cases h⟩
    rw [results_tmp3 rfl]; rfl
  · have HOB := hid hob
    clear hob
    go_enter Tryz.func5, Tryz.ntmps5
    go_upto_region 4 with (go_at_call 16; refine (elements_any _ l _ HV.out (by have := H40.out; omega)).mono ?_; rintro e w1 ⟨vo, xs, rfl, hown, rfl, hb⟩; have HB1 := hid (below_next HBO.out hb); have HO := hid (IsSl.of_own hown); obtain ⟨ao, co, rfl⟩ := HO.out.form; clear hown; clear hb )
    clear HBO HV
    go_upto_region 5 with (first | (go_at_call 28; refine (copyelements_any _ l _ HO.out (by have := H40.out; omega)).mono ?_; rintro e w2 ⟨vo2, xs2, rfl, hown, rfl, hb⟩; have HO2 := hid (HO.out.below hb (Nat.le_refl _)); have HB2 := hid (below_next HB1.out hb); have HC := hid (IsSl.of_own hown); obtain ⟨ac, cc, rfl⟩ := HC.out.form; clear hown; clear hb ) | (go_at_call 27; refine (nof_any _ l _ HC.out HOK.out (by have := H40.out; omega)).mono ?_; intro e w3 hr; obtain ⟨gN, rfl, hnn, hb⟩ := retof_good hr HOB.out; have HO3 := hid (HO2.out.below hb (Nat.le_refl _)); have HC3 := hid (HC.out.below hb (Nat.le_refl _)); have HB3 := hid (below_next HB2.out hb); clear hb hr; have HN := hid hnn; clear hnn))
    clear HO HB1 HO2 HC HB2
    have HO4 := hid (HO3.out.below ((Below.refl w3.heap.size w3).alloc (Nat.le_refl _) (.cells #[.int .i64 0, .int .i64 0] 62)) (Nat.le_refl _))
    have HN4 := hid (HN.out.below' ((Below.refl w3.heap.size w3).alloc (Nat.le_refl _) (.cells #[.int .i64 0, .int .i64 0] 62)))
    have HB4 := hid (below_next HB3.out ((Below.refl w3.heap.size w3).alloc (Nat.le_refl _) (.cells #[.int .i64 0, .int .i64 0] 62)))
    have HF := hid (heap_alloc_new w3 (.cells #[.int .i64 0, .int .i64 0] 62))
    clear HO3 HN HB3
    generalize w3.alloc (.cells #[.int .i64 0, .int .i64 0] 62) = w4 at *
    obtain ⟨gf, hgf⟩ : ∃ gf, w3.heap.size = gf := ⟨_, rfl⟩
    rw [hgf] at HF ⊢
    clear hgf
    go_upto_region 6 with (go_at_call 29; refine (rof_any15 _ l _ HO4.out HOK.out (by have := H40.out; omega)).mono ?_; intro e w5 hr; obtain ⟨gR, rfl, hnn, hb⟩ := retof_goodR hr HOB.out; have HO5 := hid (HO4.out.below hb (Nat.le_refl _)); have HN5 := hid (HN4.out.below' hb); have HF5 := hid (heap_later2 hb HF.out); have HB5 := hid (below_next HB4.out hb); clear hb hr; have HR := hid hnn; clear hnn)
    clear HO4 HN4 HF HB4
    have HN6 := hid (HN5.out.below' ((Below.refl w5.heap.size w5).alloc (Nat.le_refl _) (.cells #[.int .i64 0, .int .i64 0] 62)))
    have HF6 := hid (heap_later2 ((Below.refl w5.heap.size w5).alloc (Nat.le_refl _) (.cells #[.int .i64 0, .int .i64 0] 62)) HF5.out)
    have HR6 := hid (HR.out.below' ((Below.refl w5.heap.size w5).alloc (Nat.le_refl _) (.cells #[.int .i64 0, .int .i64 0] 62)))
    have HB6 := hid (below_next HB5.out ((Below.refl w5.heap.size w5).alloc (Nat.le_refl _) (.cells #[.int .i64 0, .int .i64 0] 62)))
    have HG := hid (heap_alloc_new w5 (.cells #[.int .i64 0, .int .i64 0] 62))
    clear HN5 HF5 HR HB5
    generalize w5.alloc (.cells #[.int .i64 0, .int .i64 0] 62) = w6 at *
    obtain ⟨gg, hgg⟩ : ∃ gg, w5.heap.size = gg := ⟨_, rfl⟩
    rw [hgg] at HG ⊢
    clear hgg
    have hsc := block_cells HF6.out
    have z0 := hsc.1 0 _ rfl
    have z1 := hsc.1 1 _ rfl
    clear hsc
    have hsc := block_cells HG.out
    have y0 := hsc.1 0 _ rfl
    have y1 := hsc.1 1 _ rfl
    clear hsc
    have hsz := szL_eq l
    have HLEN := hid (show l.length ≤ 100000 by have := H40.out; omega)
    go_wp2_with (go_at_call 30; refine (rorder_any _ l _ HR6.out HLEN.out).mono ?_; rintro e w7 ⟨rfl, hb⟩; have HN7 := hid (HN6.out.below' hb); have HF7 := hid (heap_later2 hb HF6.out); have HR7 := hid (HR6.out.below' hb); have HG7 := hid (heap_later2 hb HG.out); have HB7 := hid (below_next HB6.out hb); rw [hsz]; clear hb )
    (try rw [Exit.noGoto_ret])
    refine bodyPost_ret (v := .tuple #[.pointer (some ⟨gN, 0, none⟩), .pointer (some ⟨gR, 0, none⟩), .bool (decide ((szL l : Int) ≤ 16))]) ?_ rfl ⟨_, _, _, rfl, HB7.out, fun h => ⟨H40.out, HOB.out, by have := of_decide_eq_true h; omega, HN7.out, HR7.out, rfl, rfl⟩⟩
    rw [results_tmp3 rfl]; rfl
end
section
/- The size of a number that is not 0 is above that of 0. No function of the program is named here. -/
open Go.RowKit FV
theorem sgn_lo {x : Nat} (h : x < 2 ^ 63) : sgn x = false := by unfold sgn; rw [Nat.div_eq_of_lt h]; rfl
theorem fsz_lt (x : Nat) : fsize x < 2 ^ 63 := Nat.mod_lt _ (by decide)
theorem fsz_mod (x : Nat) : fsize x % 2 ^ 63 = fsize x := Nat.mod_eq_of_lt (fsz_lt x)
/-- What the sizes of two numbers come to. -/
theorem near_pos {m : Nat} {e : Int} (hm : m ≠ 0) (he : -1074 ≤ e) : ∃ r, 0 < r ∧ r ≤ dbl.infRung ∧ dbl.nearest false m e = dbl.word false r := by
  refine ⟨_, ?_, Nat.min_le_right _ _, by unfold Ieee.Format.nearest; rw [if_neg hm]⟩
  have hinf : 0 < dbl.infRung := by decide
  rw [Nat.lt_min]
  refine ⟨?_, hinf⟩
  have hb : 0 < dbl.binade := by decide
  obtain ⟨last, hl⟩ : ∃ last, max (e + (m.log2 : Int) - dbl.fractionBits) dbl.leastPlace = last := ⟨_, rfl⟩
  rw [hl]
  have hlp : dbl.leastPlace = -1074 := lp_eq
  have h1 : -1074 ≤ last := by omega
  rcases Int.lt_or_le (-1074) last with h | h
  · have : 0 < (last - dbl.leastPlace).toNat := by omega
    have := Nat.mul_pos this hb
    omega
  · have hle : last = -1074 := by omega
    rw [show (last - e).toNat = 0 by omega, cut_even _ _ _ (by omega), cutE_zero]
    have : 0 < m <<< (e - last).toNat := by rw [Nat.shiftLeft_eq]; exact Nat.mul_pos (by omega) (Nat.two_pow_pos _)
    omega
theorem word_gt {r : Nat} (h0 : 0 < r) (h1 : r ≤ dbl.infRung) : ford (dbl.word false r) 0 = some .gt := by
  have hz : FV.fin 0 = true := by decide
  rcases Nat.lt_or_ge r dbl.infRung with h | h
  · obtain ⟨h2, h3⟩ := val_word false r h
    show dbl.order _ 0 = _
    rw [order_fin h2 hz, h3]
    have hv : val 0 = 0 := by decide
    have hm : 0 < mag r := by
      unfold mag
      split
      · exact h0
      · exact Nat.mul_pos (by have := Nat.two_pow_pos 52; omega) (Nat.two_pow_pos _)
    rw [hv]
    show some (compare ((mag r : Nat) : Int) 0) = some .gt
    congr 1
    rw [Int.compare_eq_gt]
    omega
  · obtain rfl : r = dbl.infRung := by omega
    decide +kernel
theorem size_pos {a b : Nat} (ha : FV.fin a = true) (hb : FV.fin b = true) (h : ¬ (fsize a = 0 ∧ fsize b = 0)) : ford (fadd (fsize a) (fsize b)) 0 = some .gt := by
  have fa : FV.fin (fsize a) = true := by unfold FV.fin at *; rw [fsz_mod]; exact ha
  have fb : FV.fin (fsize b) = true := by unfold FV.fin at *; rw [fsz_mod]; exact hb
  have px := plc_ge (fsize a)
  have py := plc_ge (fsize b)
  obtain ⟨e, he⟩ : ∃ e, min (plc (fsize a)) (plc (fsize b)) = e := ⟨_, rfl⟩
  have sg0 : ∀ {x : Nat}, fsize x ≠ 0 → sig (fsize x) ≠ 0 := fun {x} hx => by
    unfold sig
    rw [fsz_mod]
    split
    · exact hx
    · have := Nat.two_pow_pos 52; omega
  have hadd : dbl.add (fsize a) (fsize b) = some (dbl.nearest false (sig (fsize a) * 2 ^ (plc (fsize a) - e).toNat + sig (fsize b) * 2 ^ (plc (fsize b) - e).toNat) e) := by
    unfold Ieee.Format.add
    rw [read_fin fa, read_fin fb]
    simp only [Ieee.Datum.sum, he, signed_eq, sgn_lo (fsz_lt a), sgn_lo (fsz_lt b), Option.map_some, Ieee.Format.write]
    congr 1
    have e1 : sg false (sig (fsize a) * 2 ^ (plc (fsize a) - e).toNat) + sg false (sig (fsize b) * 2 ^ (plc (fsize b) - e).toNat) = ((sig (fsize a) * 2 ^ (plc (fsize a) - e).toNat + sig (fsize b) * 2 ^ (plc (fsize b) - e).toNat : Nat) : Int) := by
      unfold sg; simp
    rw [e1, Int.natAbs_natCast]
    congr 1
    split
    · rfl
    · exact decide_eq_false (by omega)
  have hm : sig (fsize a) * 2 ^ (plc (fsize a) - e).toNat + sig (fsize b) * 2 ^ (plc (fsize b) - e).toNat ≠ 0 := by
    intro h0
    have h1 : sig (fsize a) * 2 ^ (plc (fsize a) - e).toNat = 0 := by omega
    have h2 : sig (fsize b) * 2 ^ (plc (fsize b) - e).toNat = 0 := by omega
    have z : ∀ {s k : Nat}, s * 2 ^ k = 0 → s = 0 := fun {s k} h => by
      rcases Nat.mul_eq_zero.1 h with h | h
      · exact h
      · have := Nat.two_pow_pos k; omega
    refine h ⟨?_, ?_⟩
    · exact Classical.byContradiction fun hx => sg0 hx (z h1)
    · exact Classical.byContradiction fun hx => sg0 hx (z h2)
  obtain ⟨r, hr0, hr1, hr2⟩ := near_pos hm (e := e) (by omega)
  have : fadd (fsize a) (fsize b) = dbl.word false r := by
    unfold fadd fop
    show (dbl.add (fsize a) (fsize b)).getD qnan = _
    rw [hadd, hr2]; rfl
  rw [this]
  exact word_gt hr0 hr1
theorem size_zero : fadd 0 0 = 0 := by decide +kernel
/-- Finite: neither an infinity nor a NaN. -/
theorem ffin_fin {x : Nat} (h : ffin x = true) : FV.fin x = true := by
  cases hf : FV.fin x with
  | true => rfl
  | false =>
    exfalso
    have h3 : ¬ x % 2 ^ 63 < 2047 * 2 ^ 52 := by simpa [FV.fin] using hf
    have hr : (∃ s, dbl.read x = .infinity s) ∨ ∃ s t, dbl.read x = .nan s t := by
      unfold Ieee.Format.read
      simp only [sw_eq, inf_eq, bin_eq]
      have h4 : 2047 * 2 ^ 52 ≤ x % 2 ^ 63 := by omega
      rw [if_neg (by omega), if_neg (by omega)]
      split
      · exact .inl ⟨_, rfl⟩
      · exact .inr ⟨_, _, rfl⟩
    have hn : fsub x x = qnan := by
      unfold fsub fop
      show (dbl.sub x x).getD qnan = qnan
      unfold Ieee.Format.sub
      rcases hr with ⟨s, hr⟩ | ⟨s, t, hr⟩ <;> rw [hr] <;> cases s <;> simp [Ieee.Datum.sum, Ieee.Datum.opposite]
    unfold ffin at h
    rw [hn] at h
    revert h
    decide +kernel
/-- Equal to 0: a nought of either sign. -/
theorem zero_size {x : Nat} (h : ford x 0 = some .eq) : fsize x = 0 := by
  have hz : FV.fin 0 = true := by decide
  cases hf : FV.fin x with
  | true =>
    have h1 : dbl.order x 0 = some .eq := h
    rw [order_fin hf hz] at h1
    have hv : val 0 = 0 := by decide
    rw [hv] at h1
    have h2 : val x = 0 := by
      have := Option.some.inj h1
      exact Int.compare_eq_eq.1 this
    have h3 : mag (x % 2 ^ 63) = 0 := by
      unfold val sg at h2
      split at h2 <;> omega
    unfold mag at h3
    split at h3
    · exact h3
    · have : 0 < (2 ^ 52 + x % 2 ^ 63 % 2 ^ 52) * 2 ^ (x % 2 ^ 63 / 2 ^ 52 - 1) := Nat.mul_pos (by have := Nat.two_pow_pos 52; omega) (Nat.two_pow_pos _)
      omega
  | false =>
    exfalso
    have h3 : ¬ x % 2 ^ 63 < 2047 * 2 ^ 52 := by simpa [FV.fin] using hf
    have hr : (∃ s, dbl.read x = .infinity s) ∨ ∃ s t, dbl.read x = .nan s t := by
      unfold Ieee.Format.read
      simp only [sw_eq, inf_eq, bin_eq]
      rw [if_neg (by omega), if_neg (by omega)]
      split
      · exact .inl ⟨_, rfl⟩
      · exact .inr ⟨_, _, rfl⟩
    have h1 : dbl.order x 0 = some .eq := h
    unfold Ieee.Format.order at h1
    rw [read_fin hz] at h1
    rcases hr with ⟨s, hr⟩ | ⟨s, t, hr⟩ <;> rw [hr] at h1 <;> cases s <;> simp [Ieee.Datum.order] at h1
end
end Go.Proofs.YtjeedckmkicnoaaGreatDoor
