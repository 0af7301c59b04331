/- a part of the proof of the last text -/
import Derived.Test.YtjeedckmkicnoaaGreatDoorZFindE15
namespace Go.Proofs.YtjeedckmkicnoaaGreatDoor
set_option linter.all false
set_option maxHeartbeats 4000000
set_option maxRecDepth 100000
open Go.RowKit Go.Maps
/-- A pointer to a net of netlist's: its elements; none: no net. -/
def NN (w : World) (p : Value) (l : List El) : Prop :=
  (p = .pointer none ∧ l = []) ∨ ∃ (B g : Nat) (vl vn vb : Value) (bn bp bb : Nat), p = .pointer (some ⟨g, 0, none⟩) ∧ NetAt B w g vl vn vb bn bp bb l (l.map El.name) (nds l) (nds l) (brs l) (brs l)
theorem NN.below {w w' : World} {B : Nat} {p : Value} {l : List El} (h : NN w p l) (hb : Below B w w') (hB : w.heap.size ≤ B) : NN w' p l := by
  rcases h with h | ⟨B1, g, vl, vn, vb, bn, bp, bb, hp, h⟩
  · exact .inl h
  · exact .inr ⟨B1, g, vl, vn, vb, bn, bp, bb, hp, h.kept ⟨hb.os, hb.tape, hb.output, hb.size, fun k hk _ => hb.block k (Nat.lt_of_lt_of_le hk hB)⟩⟩
theorem NN.below' {w w1 : World} {p : Value} {l : List El} (h : NN w p l) (hb : Below w.heap.size w w1) : NN w1 p l := h.below hb (Nat.le_refl _)
theorem at_place {D : DU} {l : List ByteArray} {s : ByteArray} {c : Int} (hD : MapIs D l) (h : D.atKey (kls s) (plD 0) = plD c) : c = plI l s := by
  have h2 := (hD.2 s).1.symm.trans h
  unfold plD at h2
  injection h2 with h3
  injection h3 with _ h4
  exact h4.symm
theorem has_named (l : List El) (s : ByteArray) : has (l.map El.name) s = named l s := by
  unfold has named
  rw [List.any_map]
  rfl
theorem find_idx : ∀ (l : List El) (s : ByteArray), l[(l.map El.name).findIdx fun t => t.toList == s.toList]? = findE l s
  | [], s => rfl
  | e :: l, s => by
    have ih := find_idx l s
    unfold findE at ih ⊢
    rw [List.map_cons, List.findIdx_cons, List.find?_cons]
    cases h : (e.name.toList == s.toList)
    · simpa [h] using ih
    · simp
theorem find_place {l : List El} {s : ByteArray} (h : has (l.map El.name) s = true) : ∃ (k : Nat) (x : El), plI (l.map El.name) s = (k : Int) ∧ k < l.length ∧ l[k]? = some x ∧ findE l s = some x := by
  have hf : (findE l s).isSome = true := by
    rw [has_named] at h
    unfold findE
    rw [List.find?_isSome]
    obtain ⟨t, ht, h2⟩ := List.any_eq_true.1 h
    exact ⟨t, ht, h2⟩
  obtain ⟨x, hx⟩ := Option.isSome_iff_exists.1 hf
  have hi := (find_idx l s).trans hx
  refine ⟨_, x, ?_, (List.getElem?_eq_some_iff.1 hi).1, hi, hx⟩
  unfold plI
  rw [if_pos h]
theorem nis_nil (w : World) : Calls Tryz.prog 43 #[.pointer none] w fun e w' => e = .returned (.bool false) ∧ w = w' := by
  go_enter Tryz.func43, Tryz.ntmps43
  go_wp2
  go_ret
  exact ⟨rfl, rfl⟩
theorem nis_made (g : Nat) (w : World) (h1 : w.cell? ⟨g, 0, none⟩ = some (.bool true)) : Calls Tryz.prog 43 #[.pointer (some ⟨g, 0, none⟩)] w fun e w' => e = .returned (.bool true) ∧ w = w' := by
  go_enter Tryz.func43, Tryz.ntmps43
  go_wp2
  go_ret
  exact ⟨rfl, rfl⟩
set_option maxRecDepth 100000 in
set_option maxHeartbeats 800000 in
theorem nelements_any (p : Value) (l : List El) (w : World) (hp : NN w p l) (hl : l.length ≤ 100000) :
    Calls Tryz.prog 15 #[p] w (RetRow 81 8 l.length (fun xs => xs = l.flatMap ea) w) := by
  obtain ⟨i0, hi, hz0, hz1, hz2⟩ := info_parts infoEa
  skip
  rcases hp with ⟨rfl, rfl⟩ | ⟨B, g, vl, vn, vb, bn, bp, bb, rfl, h⟩
  · go_enter Tryz.func15, Tryz.ntmps15
    go_wp2_with (go_at_call 43; refine (nis_nil _).mono ?_; rintro e w1 ⟨rfl, rfl⟩)
    (try rw [Exit.noGoto_ret])
    go_ret
    exact ⟨_, _, rfl, World.ownsRow_nil _ _ _ _, rfl, Below.refl _ _⟩
  · obtain ⟨hc, _⟩ := block_cells h.blk
    have c0 := hc 0 _ rfl
    have cv := hc 1 _ rfl
    have HS := hid (IsSl.of_own h.ol)
    clear hc h
    have HC := hid c0
    go_enter Tryz.func15, Tryz.ntmps15
    go_wp2_with (first | (go_at_call 43; refine (nis_made _ _ HC.out).mono ?_; rintro e w1 ⟨rfl, rfl⟩) | (refine wpList_appendAll rfl _ _ _ rfl w.heap.size 81 8 104 i0 (.agg #[.int .u8 0, .string ⟨#[]⟩, .string ⟨#[]⟩, .string ⟨#[]⟩, .string ⟨#[]⟩, .string ⟨#[]⟩, .float .f64 0, .int .i64 0]) Tryz.underlying37 hi hz0 hz1 hz2 rfl (by decide) _ 0 [] (World.ownsRow_nil _ _ _ _) (Nat.le_refl _) _ _ _ HS.out rfl rfl (by intro u hu; obtain ⟨z, _, hz⟩ := List.mem_flatMap.1 hu; exact ea_one z u hz) (by simp [maxLen]; omega) (by omega) ?_; intro v1 w1 hown1 hgr1 hat1))
    go_ret
    refine ⟨_, _, rfl, ?_, rfl, (Below.refl _ _).grown hgr1 (Nat.le_refl _) (by intro k e; cases e)⟩
    simpa using hown1
set_option maxRecDepth 100000 in
set_option maxHeartbeats 800000 in
theorem nnodes_any (p : Value) (l : List El) (w : World) (hp : NN w p l) (hl : l.length ≤ 100000) :
    Calls Tryz.prog 74 #[p] w (RetRow 9 1 (nds l).length (fun xs => xs = sts (nds l)) w) := by
  obtain ⟨i0, hi, hz0, hz1, hz2⟩ := info_parts infoSt
  have hn := nds_len l
  rcases hp with ⟨rfl, rfl⟩ | ⟨B, g, vl, vn, vb, bn, bp, bb, rfl, h⟩
  · go_enter Tryz.func74, Tryz.ntmps74
    go_wp2_with (go_at_call 43; refine (nis_nil _).mono ?_; rintro e w1 ⟨rfl, rfl⟩)
    (try rw [Exit.noGoto_ret])
    go_ret
    exact ⟨_, _, rfl, World.ownsRow_nil _ _ _ _, rfl, Below.refl _ _⟩
  · obtain ⟨hc, _⟩ := block_cells h.blk
    have c0 := hc 0 _ rfl
    have cv := hc 3 _ rfl
    have HS := hid (IsSl.of_own h.on)
    clear hc h
    have HC := hid c0
    go_enter Tryz.func74, Tryz.ntmps74
    go_wp2_with (first | (go_at_call 43; refine (nis_made _ _ HC.out).mono ?_; rintro e w1 ⟨rfl, rfl⟩) | (refine wpList_appendAll rfl _ _ _ rfl w.heap.size 9 1 16 i0 (.string ⟨#[]⟩) Tryz.underlying86 hi hz0 hz1 hz2 rfl (by decide) _ 0 [] (World.ownsRow_nil _ _ _ _) (Nat.le_refl _) _ _ _ HS.out rfl rfl (by intro u hu; exact sts_one hu) (by simp [maxLen]; omega) (by omega) ?_; intro v1 w1 hown1 hgr1 hat1))
    go_ret
    refine ⟨_, _, rfl, ?_, rfl, (Below.refl _ _).grown hgr1 (Nat.le_refl _) (by intro k e; cases e)⟩
    simpa using hown1
set_option maxRecDepth 100000 in
set_option maxHeartbeats 800000 in
theorem nbranches_any (p : Value) (l : List El) (w : World) (hp : NN w p l) (hl : l.length ≤ 100000) :
    Calls Tryz.prog 75 #[p] w (RetRow 9 1 (brs l).length (fun xs => xs = sts (brs l)) w) := by
  obtain ⟨i0, hi, hz0, hz1, hz2⟩ := info_parts infoSt
  have hn := brs_len l
  rcases hp with ⟨rfl, rfl⟩ | ⟨B, g, vl, vn, vb, bn, bp, bb, rfl, h⟩
  · go_enter Tryz.func75, Tryz.ntmps75
    go_wp2_with (go_at_call 43; refine (nis_nil _).mono ?_; rintro e w1 ⟨rfl, rfl⟩)
    (try rw [Exit.noGoto_ret])
    go_ret
    exact ⟨_, _, rfl, World.ownsRow_nil _ _ _ _, rfl, Below.refl _ _⟩
  · obtain ⟨hc, _⟩ := block_cells h.blk
    have c0 := hc 0 _ rfl
    have cv := hc 5 _ rfl
    have HS := hid (IsSl.of_own h.ob)
    clear hc h
    have HC := hid c0
    go_enter Tryz.func75, Tryz.ntmps75
    go_wp2_with (first | (go_at_call 43; refine (nis_made _ _ HC.out).mono ?_; rintro e w1 ⟨rfl, rfl⟩) | (refine wpList_appendAll rfl _ _ _ rfl w.heap.size 9 1 16 i0 (.string ⟨#[]⟩) Tryz.underlying86 hi hz0 hz1 hz2 rfl (by decide) _ 0 [] (World.ownsRow_nil _ _ _ _) (Nat.le_refl _) _ _ _ HS.out rfl rfl (by intro u hu; exact sts_one hu) (by simp [maxLen]; omega) (by omega) ?_; intro v1 w1 hown1 hgr1 hat1))
    go_ret
    refine ⟨_, _, rfl, ?_, rfl, (Below.refl _ _).grown hgr1 (Nat.le_refl _) (by intro k e; cases e)⟩
    simpa using hown1
set_option maxRecDepth 100000 in
set_option maxHeartbeats 800000 in
theorem nplace_any (p : Value) (l : List El) (s : ByteArray) (w : World) (hp : NN w p l) (hs : s.size ≤ maxLen) :
    Calls Tryz.prog 49 #[p, .string s] w (fun e w' => e = .returned (.tuple #[.int .i64 (plI (nds l) s), .bool (has (nds l) s)]) ∧ w = w') := by
  have law : Keyed Tryz.prog 9 := string_keyed Tryz.underlying9
  rcases hp with ⟨rfl, rfl⟩ | ⟨B, g, vl, vn, vb, bn, bp, bb, rfl, h⟩
  · go_enter Tryz.func49, Tryz.ntmps49
    go_wp2_with (go_at_call 43; refine (nis_nil _).mono ?_; rintro e w1 ⟨rfl, rfl⟩)
    (try rw [Exit.noGoto_ret])
    refine bodyPost_ret (v := .tuple #[.int .i64 0, .bool false]) ?_ rfl ⟨rfl, rfl⟩
    rw [results_tmp2 rfl]; rfl
  · obtain ⟨hc, _⟩ := block_cells h.blk
    have c0 := hc 0 _ rfl
    have cv := hc 4 _ rfl
    obtain ⟨D, hown, hD⟩ := h.mp
    have hh : Maps.has D (Lit.string s.data.toList) = has (nds l) s := (hD.2 s).2
    have HC := hid c0
    have HD := hid hD
    clear hc h hD
    go_enter Tryz.func49, Tryz.ntmps49
    go_wp2_with (first | (go_at_call 43; refine (nis_made _ _ HC.out).mono ?_; rintro e w1 ⟨rfl, rfl⟩) | (at_lookup; refine wpList_lookup_own_ok_int _ rfl _ _ 85 rfl 9 3 .i64 law Tryz.underlying85 Tryz.underlying3 (zeroInt _) bp _ D rfl hown _ _ rfl (WideMaps.keyOf_string_mk Tryz.underlying9 hs) ?_; intro c hat hwc; rw [hh]; have hcc := hid (at_place HD.out hat); clear hat hwc))
    (try rw [Exit.noGoto_ret])
    refine bodyPost_ret (v := .tuple #[.int .i64 c, .bool (has (nds l) s)]) ?_ rfl ⟨by rw [← hcc.out], rfl⟩
    rw [results_tmp2 rfl]; rfl
set_option maxRecDepth 100000 in
set_option maxHeartbeats 800000 in
theorem nbranch_any (p : Value) (l : List El) (s : ByteArray) (w : World) (hp : NN w p l) (hs : s.size ≤ maxLen) :
    Calls Tryz.prog 52 #[p, .string s] w (fun e w' => e = .returned (.tuple #[.int .i64 (plI (brs l) s), .bool (has (brs l) s)]) ∧ w = w') := by
  have law : Keyed Tryz.prog 9 := string_keyed Tryz.underlying9
  rcases hp with ⟨rfl, rfl⟩ | ⟨B, g, vl, vn, vb, bn, bp, bb, rfl, h⟩
  · go_enter Tryz.func52, Tryz.ntmps52
    go_wp2_with (go_at_call 43; refine (nis_nil _).mono ?_; rintro e w1 ⟨rfl, rfl⟩)
    (try rw [Exit.noGoto_ret])
    refine bodyPost_ret (v := .tuple #[.int .i64 0, .bool false]) ?_ rfl ⟨rfl, rfl⟩
    rw [results_tmp2 rfl]; rfl
  · obtain ⟨hc, _⟩ := block_cells h.blk
    have c0 := hc 0 _ rfl
    have cv := hc 6 _ rfl
    obtain ⟨D, hown, hD⟩ := h.mb
    have hh : Maps.has D (Lit.string s.data.toList) = has (brs l) s := (hD.2 s).2
    have HC := hid c0
    have HD := hid hD
    clear hc h hD
    go_enter Tryz.func52, Tryz.ntmps52
    go_wp2_with (first | (go_at_call 43; refine (nis_made _ _ HC.out).mono ?_; rintro e w1 ⟨rfl, rfl⟩) | (at_lookup; refine wpList_lookup_own_ok_int _ rfl _ _ 85 rfl 9 3 .i64 law Tryz.underlying85 Tryz.underlying3 (zeroInt _) bb _ D rfl hown _ _ rfl (WideMaps.keyOf_string_mk Tryz.underlying9 hs) ?_; intro c hat hwc; rw [hh]; have hcc := hid (at_place HD.out hat); clear hat hwc))
    (try rw [Exit.noGoto_ret])
    refine bodyPost_ret (v := .tuple #[.int .i64 c, .bool (has (brs l) s)]) ?_ rfl ⟨by rw [← hcc.out], rfl⟩
    rw [results_tmp2 rfl]; rfl
set_option maxRecDepth 100000 in
set_option maxHeartbeats 800000 in
theorem norder_any (p : Value) (l : List El) (w : World) (hp : NN w p l) (hl : l.length ≤ 100000) :
    Calls Tryz.prog 62 #[p] w (RetI ((nds l).length + (brs l).length) w) := by
  have hn := nds_len l
  have hbl := brs_len l
  have hw : IntKind.i64.wrap (((nds l).length : Int) + ((brs l).length : Int)) = ((nds l).length : Int) + ((brs l).length : Int) := by
    unfold IntKind.wrap
    first | (simp [IntKind.bits, IntKind.signed]; omega) | (simp; omega)
  rcases hp with ⟨rfl, rfl⟩ | ⟨B, g, vl, vn, vb, bn, bp, bb, rfl, h⟩
  · go_enter Tryz.func62, Tryz.ntmps62
    go_wp2_with (go_at_call 43; refine (nis_nil _).mono ?_; rintro e w1 ⟨rfl, rfl⟩)
    (try rw [Exit.noGoto_ret])
    go_ret
    exact ⟨rfl, Below.refl _ _⟩
  · obtain ⟨an, cn, rfl⟩ := (IsSl.of_own h.on).form
    obtain ⟨ab, cb, rfl⟩ := (IsSl.of_own h.ob).form
    obtain ⟨hc, _⟩ := block_cells h.blk
    have c0 := hc 0 _ rfl
    have c3 := hc 3 _ rfl
    have c5 := hc 5 _ rfl
    clear hc h
    have HC := hid c0
    go_enter Tryz.func62, Tryz.ntmps62
    go_upto_region 3 with (go_at_call 43; refine (nis_made _ _ HC.out).mono ?_; rintro e w1 ⟨rfl, rfl⟩)
    go_quiet (fail)
    go_wp2
    go_ret
    exact ⟨ret_int (by first | rfl | simpa using hw), below_n (Below.refl _ _) _⟩
set_option maxRecDepth 100000 in
set_option maxHeartbeats 800000 in
theorem nfind_any (p : Value) (l : List El) (s : ByteArray) (w : World) (hp : NN w p l) (hs : s.size ≤ maxLen) (hl : l.length ≤ 100000) :
    Calls Tryz.prog 50 #[p, .string s] w (RetEB ((findE l s).getD zEl) (findE l s).isSome w) := by
  have law : Keyed Tryz.prog 9 := string_keyed Tryz.underlying9
  obtain ⟨i0, hi, hz0, hz1, hz2⟩ := info_parts infoEa
  have hA := heap_alloc_new w (.cells #[.int .u8 0, .string ⟨#[]⟩, .string ⟨#[]⟩, .string ⟨#[]⟩, .string ⟨#[]⟩, .string ⟨#[]⟩, .float .f64 0, .int .i64 0] 81)
  have hBW := (Below.refl w.heap.size w).alloc (Nat.le_refl _) (.cells #[.int .u8 0, .string ⟨#[]⟩, .string ⟨#[]⟩, .string ⟨#[]⟩, .string ⟨#[]⟩, .string ⟨#[]⟩, .float .f64 0, .int .i64 0] 81)
  have hp0 := hp.below' hBW
  go_enter Tryz.func50, Tryz.ntmps50
  go_upto_region 1 with fail
  generalize w.alloc (.cells #[.int .u8 0, .string ⟨#[]⟩, .string ⟨#[]⟩, .string ⟨#[]⟩, .string ⟨#[]⟩, .string ⟨#[]⟩, .float .f64 0, .int .i64 0] 81) = w0 at *
  obtain ⟨hA2, fA⟩ := block_cells hA
  have k0 := hA2 0 _ rfl; have k1 := hA2 1 _ rfl; have k2 := hA2 2 _ rfl; have k3 := hA2 3 _ rfl; have k4 := hA2 4 _ rfl; have k5 := hA2 5 _ rfl; have k6 := hA2 6 _ rfl; have k7 := hA2 7 _ rfl
  have HBW := hid hBW
  clear hA2 hA hBW hp
  rcases hp0 with ⟨rfl, rfl⟩ | ⟨B, g, vl, vn, vb, bn, bp, bb, rfl, h⟩
  · go_wp2_with (go_at_call 43; refine (nis_nil _).mono ?_; rintro e w1 ⟨rfl, rfl⟩)
    (try rw [Exit.noGoto_ret])
    refine bodyPost_ret (v := .tuple #[.agg #[.int .u8 0, .string ⟨#[]⟩, .string ⟨#[]⟩, .string ⟨#[]⟩, .string ⟨#[]⟩, .string ⟨#[]⟩, .float .f64 0, .int .i64 0], .bool false]) ?_ rfl ⟨rfl, ?_⟩
    · rw [results_cell_tmp rfl]; go_simp
    · exact ((((((((HBW.out.setCell (Nat.le_refl _) _).setCell (Nat.le_refl _) _).setCell (Nat.le_refl _) _).setCell (Nat.le_refl _) _).setCell (Nat.le_refl _) _).setCell (Nat.le_refl _) _).setCell (Nat.le_refl _) _).setCell (Nat.le_refl _) _)
  · obtain ⟨al, cl, rfl⟩ := (IsSl.of_own h.ol).form
    obtain ⟨hc, _⟩ := block_cells h.blk
    have c0 := hc 0 _ rfl
    have HC := hid c0
    have cl1 := hc 1 _ rfl
    have cv := hc 2 _ rfl
    obtain ⟨D, hown, hD⟩ := h.mn
    have hh : Maps.has D (Lit.string s.data.toList) = has (l.map El.name) s := (hD.2 s).2
    have HD := hid hD
    have HI := hid (IsSl.of_own h.ol)
    clear hc h hD
    cases hb : has (l.map El.name) s
    · have HN := hid hb
      rw [has_named] at hb
      have HN2 := hid hb
      clear hb
      rw [HN.out] at hh
      go_wp2_with (first | (go_at_call 43; refine (nis_made _ _ HC.out).mono ?_; rintro e w1 ⟨rfl, rfl⟩) | (at_lookup; refine wpList_lookup_own_ok_int _ rfl _ _ 85 rfl 9 3 .i64 law Tryz.underlying85 Tryz.underlying3 (zeroInt _) bn _ D rfl hown _ _ rfl (WideMaps.keyOf_string_mk Tryz.underlying9 hs) ?_; intro c hat hwc; rw [hh]; clear hat hwc))
      (try rw [Exit.noGoto_ret])
      refine bodyPost_ret (v := .tuple #[.agg #[.int .u8 0, .string ⟨#[]⟩, .string ⟨#[]⟩, .string ⟨#[]⟩, .string ⟨#[]⟩, .string ⟨#[]⟩, .float .f64 0, .int .i64 0], .bool false]) ?_ rfl ⟨by rw [findE_no HN2.out]; rfl, ?_⟩
      · rw [results_cell_tmp rfl]; go_simp
      · exact ((((((((HBW.out.setCell (Nat.le_refl _) _).setCell (Nat.le_refl _) _).setCell (Nat.le_refl _) _).setCell (Nat.le_refl _) _).setCell (Nat.le_refl _) _).setCell (Nat.le_refl _) _).setCell (Nat.le_refl _) _).setCell (Nat.le_refl _) _)
    · obtain ⟨k, x, hk, hlt, hx, hf⟩ := find_place hb
      rw [hb] at hh
      have HF := hid hf
      have HK := hid hk
      obtain ⟨g1, o1, x1, hidx, hg1, hx1, hcell⟩ := IsSl.atF Tryz.underlying37 hi hz1 ea_len HI.out rfl hlt
      obtain rfl : x = x1 := Option.some.inj (hx.symm.trans hx1)
      have e0 := hcell 0 _ rfl
      have e1 := hcell 1 _ rfl
      have e2 := hcell 2 _ rfl
      have e3 := hcell 3 _ rfl
      have e4 := hcell 4 _ rfl
      have e5 := hcell 5 _ rfl
      have e6 := hcell 6 _ rfl
      have e7 := hcell 7 _ rfl
      rw [Nat.add_zero] at e0
      clear hcell hx hx1 hf hk hb hg1
      go_wp2_with (first | (go_at_call 43; refine (nis_made _ _ HC.out).mono ?_; rintro e w1 ⟨rfl, rfl⟩) | (at_lookup; refine wpList_lookup_own_ok_int _ rfl _ _ 85 rfl 9 3 .i64 law Tryz.underlying85 Tryz.underlying3 (zeroInt _) bn _ D rfl hown _ _ rfl (WideMaps.keyOf_string_mk Tryz.underlying9 hs) ?_; intro c hat hwc; rw [hh]; obtain rfl := (at_place HD.out hat).trans HK.out; clear hat hwc))
      (try rw [Exit.noGoto_ret])
      refine bodyPost_ret (v := .tuple #[.agg #[.int .u8 x.kind, .string x.name, .string x.a, .string x.b, .string x.c, .string x.d, .float .f64 x.val, .int .i64 x.ph], .bool true]) ?_ rfl ⟨by rw [HF.out]; rfl, ?_⟩
      · rw [results_cell_tmp rfl]; go_simp
      · exact ((((((((HBW.out.setCell (Nat.le_refl _) _).setCell (Nat.le_refl _) _).setCell (Nat.le_refl _) _).setCell (Nat.le_refl _) _).setCell (Nat.le_refl _) _).setCell (Nat.le_refl _) _).setCell (Nat.le_refl _) _).setCell (Nat.le_refl _) _)
/-- Is it no net? -/
def noNet : Value → Bool
  | .pointer none => true
  | _ => false
/-- Without an element of no name: only whether it is a net. -/
theorem nwithout_none (p : Value) (l : List El) (w : World) (hp : NN w p l) (hn : has (l.map El.name) ⟨#[]⟩ = false) :
    Calls Tryz.prog 71 #[p, .string ⟨#[]⟩] w (fun e w' => e = .returned (.tuple #[.pointer none, .int .i64 (if noNet p = true then 1 else 10)]) ∧ w = w') := by
  have law : Keyed Tryz.prog 9 := string_keyed Tryz.underlying9
  rcases hp with ⟨rfl, rfl⟩ | ⟨B, g, vl, vn, vb, bn, bp, bb, rfl, h⟩
  · rw [show noNet (.pointer none) = true from rfl, if_pos rfl]
    go_enter Tryz.func71, Tryz.ntmps71
    go_wp2_with (go_at_call 43; refine (nis_nil _).mono ?_; rintro e w1 ⟨rfl, rfl⟩)
    (try rw [Exit.noGoto_ret])
    refine bodyPost_ret (v := .tuple #[.pointer none, .int .i64 1]) ?_ rfl ⟨rfl, rfl⟩
    rw [results_tmp2 rfl]; rfl
  · rw [if_neg (by simp [noNet])]
    obtain ⟨hc, _⟩ := block_cells h.blk
    have c0 := hc 0 _ rfl
    have cv := hc 2 _ rfl
    obtain ⟨D, hown, hD⟩ := h.mn
    have hh : Maps.has D (Lit.string (⟨#[]⟩ : ByteArray).data.toList) = false := (hD.2 ⟨#[]⟩).2.trans hn
    have HC := hid c0
    clear hc h hD
    go_enter Tryz.func71, Tryz.ntmps71
    go_wp2_with (first | (go_at_call 43; refine (nis_made _ _ HC.out).mono ?_; rintro e w1 ⟨rfl, rfl⟩) | (at_lookup; refine wpList_lookup_own_ok_int _ rfl _ _ 85 rfl 9 3 .i64 law Tryz.underlying85 Tryz.underlying3 (zeroInt _) bn _ D rfl hown _ _ rfl (WideMaps.keyOf_string_mk Tryz.underlying9 (by decide)) ?_; intro c hat hwc; rw [hh]; clear hat hwc))
    (try rw [Exit.noGoto_ret])
    refine bodyPost_ret (v := .tuple #[.pointer none, .int .i64 10]) ?_ rfl ⟨rfl, rfl⟩
    rw [results_tmp2 rfl]; rfl
end Go.Proofs.YtjeedckmkicnoaaGreatDoor
