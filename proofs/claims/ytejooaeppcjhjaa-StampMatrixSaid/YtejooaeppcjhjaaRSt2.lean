/- The reference's stamp of one element. -/
import Derived.Test.YtejooaeppcjhjaaRSt
import Derived.Test.YtejooaeppcjhjaaReg
namespace Go.Proofs.Ytejooaeppcjhjaa
open Go.RowKit

theorem pl_ge2 (l : List ByteArray) (t : ByteArray) : 0 ≤ plI l t := by unfold plI; split <;> omega
theorem pl_le (l : List ByteArray) (t : ByteArray) : plI l t ≤ l.length := by
  unfold plI
  split
  · have := List.findIdx_le_length (xs := l) (p := fun t' => t'.toList == t.toList); omega
  · omega
theorem pl_lt2 {l : List ByteArray} {t : ByteArray} (h : has l t = true) : plI l t < l.length := by
  unfold plI
  rw [if_pos h]
  have : l.findIdx (fun u => u.toList == t.toList) < l.length := by
    rw [List.findIdx_lt_length]
    unfold has at h
    simpa using h
  omega
theorem szL_ge2 (l : List El) : (nds l).length ≤ szL l := by unfold szL; omega
theorem row_lt2 (l : List El) (s : ByteArray) : rowI l s < szL l := by have := rowI_lt l s; have := szL_ge2 l; omega
theorem br_lt2 {l : List El} {t : ByteArray} (h : has (brs l) t = true) : brI l t < szL l := by
  have := pl_lt2 h
  unfold brI szL; omega
theorem stad {l : List El} {om y1 y2 : Nat} {m : Nat → Cx} {x : El} (h : isAd x = true) (h0 : (admS x om).2 = 0) (hy : (fc y1, fc y2) = (admS x om).1) :
    stStep l om m x = (((stPair (rowI l x.a) (rowI l x.b) (fc y1, fc y2)).foldl (st1 (szL l)) (m, false)).1, if ((stPair (rowI l x.a) (rowI l x.b) (fc y1, fc y2)).foldl (st1 (szL l)) (m, false)).2 = true then 6 else 0) := by
  unfold stStep
  rw [if_neg (fun e => e.2 h0), hy]
  unfold stOf
  rw [if_pos h]
theorem stbad {l : List El} {om : Nat} {m : Nat → Cx} {x : El} (h : isAd x = true) (h0 : (admS x om).2 ≠ 0) : stStep l om m x = (m, (admS x om).2) := by
  unfold stStep
  rw [if_pos ⟨h, h0⟩]
theorem stno {l : List El} {om : Nat} {m : Nat → Cx} {x : El} {L : List St} (h : isAd x = false) (hL : ∀ y, stOf l x y = L) :
    stStep l om m x = ((L.foldl (st1 (szL l)) (m, false)).1, if (L.foldl (st1 (szL l)) (m, false)).2 = true then 6 else 0) := by
  unfold stStep
  rw [if_neg (fun e => by rw [h] at e; cases e.1), hL]
/-- What stamping one element leaves. -/
def RetSt (g h n : Nat) (S : (Nat → Cx) × Int) (w : World) (en : Ending) (w' : World) : Prop :=
  en = .returned (.int .i64 S.2) ∧ (S.2 = 0 → SheetR w' g h n (S.1, false)) ∧ Grown2 w w' g h
set_option maxRecDepth 100000 in
set_option maxHeartbeats 4000000 in
theorem rstamp_any (q : Value) (l : List El) (om : Nat) (g h : Nat) (m : Nat → Cx) (x : El) (w : World) (hq : RN w q l) (H : SheetR w g h (szL l) (m, false)) (hl : l.length ≤ 100000) (hx : x.Ok) (hk : isK x.kind = true) (hsz : szL l ≤ 64) (hbr : isBr x = true → has (brs l) x.name = true) :
    Calls Try.prog 31 #[.pointer (some ⟨g, 0, none⟩), q, .agg #[.int .u8 x.kind, .string x.name, .string x.a, .string x.b, .string x.c, .string x.d, .float .f64 x.val, .int .i64 x.ph], .float .f64 om] w (RetSt g h (szL l) (stStep l om m x) w) := by
  have hkd8 : x.kind = 1 ∨ x.kind = 2 ∨ x.kind = 3 ∨ x.kind = 4 ∨ x.kind = 5 ∨ x.kind = 6 ∨ x.kind = 7 ∨ x.kind = 8 := by
    unfold isK at hk
    simp only [Bool.and_eq_true, decide_eq_true_eq] at hk
    omega
  have HBR := hid hbr
  have HXOK := hid hx
  have HK8 := hid hkd8
  have HLE := hid hl
  have HSZ := hid hsz
  obtain ⟨kd, xn, xa, xb, xc, xd, vl, xp⟩ := x
  have hb1 := (Below.refl w.heap.size w).alloc (Nat.le_refl _) (.cells #[.int .u8 kd, .string xn, .string xa, .string xb, .string xc, .string xd, .float .f64 vl, .int .i64 xp] 55)
  have HBE := hid (heap_alloc_new w (.cells #[.int .u8 kd, .string xn, .string xa, .string xb, .string xc, .string xd, .float .f64 vl, .int .i64 xp] 55))
  have HQ := hid (hq.below hb1 (Nat.le_refl _))
  have HSH := hid (H.below hb1)
  have HG := hid (Grown2.of_below (g := g) (h := h) hb1)
  have HGE := hid (show g < w.heap.size from H.lt.1)
  have HHE := hid (show h < w.heap.size from H.lt.2)
  have hnl := nds_len l
  have hwr : IntKind.i64.wrap (((nds l).length : Int) + plI (brs l) xn) = brI l xn := by
    have h1 := pl_le (brs l) xn
    have h2 := pl_ge2 (brs l) xn
    have h3 : (nds l).length + (brs l).length ≤ 64 := hsz
    rw [IntWalk.i64_in _ ⟨by omega, by omega⟩]
    rfl
  have HWR := hid hwr
  clear hq H hb1 hx hk hkd8 hbr hl hsz hwr hnl
  go_enter Try.func31, Try.ntmps31
  go_upto_region 1 with fail
  generalize w.alloc (.cells #[.int .u8 kd, .string xn, .string xa, .string xb, .string xc, .string xd, .float .f64 vl, .int .i64 xp] 55) = w1 at *
  generalize w.heap.size = eb at *
  refine wp_region_any (by kernel_rfl) ?_
  change wpAny _ _ _ _ _ _ _ (World.drew _)
  refine wpAny_makersD [⟨some 19, 0, []⟩, ⟨some 20, 1, []⟩, ⟨some 21, 2, []⟩, ⟨some 22, 3, []⟩, ⟨some 23, 4, []⟩, ⟨some 24, 5, []⟩, ⟨some 25, 6, []⟩, ⟨some 26, 7, []⟩, ⟨some 9, 8, []⟩, ⟨some 10, 9, []⟩]
    (fun w' => w'.heap[eb]? = some (.cells #[.int .u8 kd, .string xn, .string xa, .string xb, .string xc, .string xd, .float .f64 vl, .int .i64 xp] 55 (0, 0)))
    (fun oq v _ _ _ _ => match oq with | 0 => v = q | 1 => v = .pointer (some ⟨eb, 2, none⟩) | 2 => v = .string xa | 3 => v = Value.int .i64 (rowI l xa) | 4 => v = q | 5 => v = .pointer (some ⟨eb, 3, none⟩) | 6 => v = .string xb | 7 => v = Value.int .i64 (rowI l xb) | 8 => v = .int .i64 (rowI l xa) | 9 => v = .int .i64 (rowI l xb) | _ => True) (by kernel_rfl) ?hSp1 (fun _ _ hb h => heap_laterS hb h) (fun _ _ _ _ _ _ _ _ _ h => h) ?hopp1 ?hendp1
  case hSp1 => exact heap_laterS (Below.refl _ _).drew HBE.out
  case hopp1 =>
    delta Owed
    simp only [fillD, Act.put, List.setIfInBounds_toArray, List.set_cons_zero, List.set_cons_succ]
    refine Each.cons rfl ?_ (Each.cons rfl ?_ (Each.cons rfl ?_ (Each.cons rfl ?_ (Each.cons rfl ?_ (Each.cons rfl ?_ (Each.cons rfl ?_ (Each.cons rfl ?_ (Each.cons rfl ?_ (Each.cons rfl ?_ Each.nil)))))))))
    · intro vs w2 hb2 hS2 hR2 K hK
      simp only [List.set_cons_zero, List.set_cons_succ] at hK ⊢
      go_simp
      exact hK.out _ _ (Below.refl _ _) rfl
    · intro vs w2 hb2 hS2 hR2 K hK
      simp only [List.set_cons_zero, List.set_cons_succ] at hK ⊢
      go_simp
      exact hK.out _ _ (Below.refl _ _) rfl
    · intro vs w2 hb2 hS2 hR2 K hK
      have h1 : vs 1 = .pointer (some ⟨eb, 2, none⟩) := by obtain ⟨_, _, _, h⟩ := hR2 1 (by kernel_rfl); exact h
      simp only [List.set_cons_zero, List.set_cons_succ] at hK ⊢
      have k2 := (cells_ofS hS2).1 2 _ rfl
      have k3 := (cells_ofS hS2).1 3 _ rfl
      simp only [h1] at hK ⊢
      go_simp
      exact hK.out _ _ (Below.refl _ _) rfl
    · intro vs w2 hb2 hS2 hR2 K hK
      have h0 : vs 0 = q := by obtain ⟨_, _, _, h⟩ := hR2 0 (by kernel_rfl); exact h
      have h2 : vs 2 = .string xa := by obtain ⟨_, _, _, h⟩ := hR2 2 (by kernel_rfl); exact h
      simp only [List.set_cons_zero, List.set_cons_succ] at hK ⊢
      simp only [h0, h2] at hK ⊢
      rw [if_pos (by rfl)]
      go_wp2_with (go_at_call 56; refine (splace_any q l xa _ (HQ.out.below (below_drew_left hb2) (Nat.le_refl _)) HLE.out).mono ?_; rintro e w3 ⟨rfl, hb3⟩)
      exact hK.out _ _ hb3 rfl
    · intro vs w2 hb2 hS2 hR2 K hK
      simp only [List.set_cons_zero, List.set_cons_succ] at hK ⊢
      go_simp
      exact hK.out _ _ (Below.refl _ _) rfl
    · intro vs w2 hb2 hS2 hR2 K hK
      simp only [List.set_cons_zero, List.set_cons_succ] at hK ⊢
      go_simp
      exact hK.out _ _ (Below.refl _ _) rfl
    · intro vs w2 hb2 hS2 hR2 K hK
      have h5 : vs 5 = .pointer (some ⟨eb, 3, none⟩) := by obtain ⟨_, _, _, h⟩ := hR2 5 (by kernel_rfl); exact h
      simp only [List.set_cons_zero, List.set_cons_succ] at hK ⊢
      have k2 := (cells_ofS hS2).1 2 _ rfl
      have k3 := (cells_ofS hS2).1 3 _ rfl
      simp only [h5] at hK ⊢
      go_simp
      exact hK.out _ _ (Below.refl _ _) rfl
    · intro vs w2 hb2 hS2 hR2 K hK
      have h4 : vs 4 = q := by obtain ⟨_, _, _, h⟩ := hR2 4 (by kernel_rfl); exact h
      have h6 : vs 6 = .string xb := by obtain ⟨_, _, _, h⟩ := hR2 6 (by kernel_rfl); exact h
      simp only [List.set_cons_zero, List.set_cons_succ] at hK ⊢
      simp only [h4, h6] at hK ⊢
      rw [if_pos (by rfl)]
      go_wp2_with (go_at_call 56; refine (splace_any q l xb _ (HQ.out.below (below_drew_left hb2) (Nat.le_refl _)) HLE.out).mono ?_; rintro e w3 ⟨rfl, hb3⟩)
      exact hK.out _ _ hb3 rfl
    · intro vs w2 hb2 hS2 hR2 K hK
      obtain ⟨_, _, _, H3⟩ := hR2 3 (by kernel_rfl)
      have h3 : vs 3 = .int .i64 (rowI l xa) := H3
      simp only [List.set_cons_zero, List.set_cons_succ] at hK ⊢
      simp only [h3] at hK ⊢
      go_simp
      exact hK.out _ _ (Below.refl _ _) rfl
    · intro vs w2 hb2 hS2 hR2 K hK
      obtain ⟨_, _, _, H7⟩ := hR2 7 (by kernel_rfl)
      have h7 : vs 7 = .int .i64 (rowI l xb) := H7
      simp only [List.set_cons_zero, List.set_cons_succ] at hK ⊢
      simp only [h7] at hK ⊢
      go_simp
      exact hK.out _ _ (Below.refl _ _) rfl
  case hendp1 =>
    intro vs wx lo hiv hbx hSx hRx hdx
    have h0 : vs 0 = q := (hRx 0 (by kernel_rfl)).1
    have h1 : vs 1 = .pointer (some ⟨eb, 2, none⟩) := (hRx 1 (by kernel_rfl)).1
    have h2 : vs 2 = .string xa := (hRx 2 (by kernel_rfl)).1
    have H3 := (hRx 3 (by kernel_rfl)).1
    have h3 : vs 3 = .int .i64 (rowI l xa) := H3
    have h4 : vs 4 = q := (hRx 4 (by kernel_rfl)).1
    have h5 : vs 5 = .pointer (some ⟨eb, 3, none⟩) := (hRx 5 (by kernel_rfl)).1
    have h6 : vs 6 = .string xb := (hRx 6 (by kernel_rfl)).1
    have H7 := (hRx 7 (by kernel_rfl)).1
    have h7 : vs 7 = .int .i64 (rowI l xb) := H7
    have h8 : vs 8 = .int .i64 (rowI l xa) := (hRx 8 (by kernel_rfl)).1
    have h9 : vs 9 = .int .i64 (rowI l xb) := (hRx 9 (by kernel_rfl)).1
    simp only [fillD, Act.put, List.setIfInBounds_toArray, List.set_cons_zero, List.set_cons_succ, h0, h1, h2, h3, h4, h5, h6, h7, h8, h9]
    have hb := below_drew_left hbx
    have HQ1 := hid (HQ.out.below hb (Nat.le_refl _))
    have HSH1 := hid (HSH.out.below hb)
    have HBE1 := hid (heap_laterS hb HBE.out)
    have HG1 := hid (HG.out.trans (Grown2.of_below (g := g) (h := h) hb))
    clear HQ HSH HBE HG hb hbx hRx hdx hSx h0 h1 h2 h3 h4 h5 h6 h7 h8 h9
    have HQ := HQ1
    have HSH := HSH1
    have HBE := HBE1
    have HG := HG1
    clear HQ1 HSH1 HBE1 HG1
    obtain ⟨w2, rfl⟩ : ∃ w2 : World, w2 = wx := ⟨_, rfl⟩
    refine wpAny_done (by kernel_rfl) ?_ _
    go_upto_region 2 with fail
    refine wp_region_any (by kernel_rfl) ?_
    change wpAny _ _ _ _ _ _ _ (World.drew _)
    refine wpAny_makersD [⟨some 27, 0, []⟩, ⟨some 28, 1, []⟩, ⟨some 29, 2, []⟩, ⟨some 30, 3, []⟩, ⟨some 31, 4, []⟩, ⟨some 32, 5, []⟩, ⟨some 33, 6, []⟩, ⟨some 34, 7, []⟩, ⟨some 11, 8, []⟩, ⟨some 12, 9, []⟩]
      (fun w' => w'.heap[eb]? = some (.cells #[.int .u8 kd, .string xn, .string xa, .string xb, .string xc, .string xd, .float .f64 vl, .int .i64 xp] 55 (0, 0)))
      (fun oq v _ _ _ _ => match oq with | 0 => v = q | 1 => v = .pointer (some ⟨eb, 4, none⟩) | 2 => v = .string xc | 3 => v = Value.int .i64 (rowI l xc) | 4 => v = q | 5 => v = .pointer (some ⟨eb, 5, none⟩) | 6 => v = .string xd | 7 => v = Value.int .i64 (rowI l xd) | 8 => v = .int .i64 (rowI l xc) | 9 => v = .int .i64 (rowI l xd) | _ => True) (by kernel_rfl) ?hSp2 (fun _ _ hb h => heap_laterS hb h) (fun _ _ _ _ _ _ _ _ _ h => h) ?hopp2 ?hendp2
    case hSp2 => exact heap_laterS (Below.refl _ _).drew HBE.out
    case hopp2 =>
      delta Owed
      simp only [fillD, Act.put, List.setIfInBounds_toArray, List.set_cons_zero, List.set_cons_succ]
      refine Each.cons rfl ?_ (Each.cons rfl ?_ (Each.cons rfl ?_ (Each.cons rfl ?_ (Each.cons rfl ?_ (Each.cons rfl ?_ (Each.cons rfl ?_ (Each.cons rfl ?_ (Each.cons rfl ?_ (Each.cons rfl ?_ Each.nil)))))))))
      · intro vs w2 hb2 hS2 hR2 K hK
        simp only [List.set_cons_zero, List.set_cons_succ] at hK ⊢
        go_simp
        exact hK.out _ _ (Below.refl _ _) rfl
      · intro vs w2 hb2 hS2 hR2 K hK
        simp only [List.set_cons_zero, List.set_cons_succ] at hK ⊢
        go_simp
        exact hK.out _ _ (Below.refl _ _) rfl
      · intro vs w2 hb2 hS2 hR2 K hK
        have h1 : vs 1 = .pointer (some ⟨eb, 4, none⟩) := by obtain ⟨_, _, _, h⟩ := hR2 1 (by kernel_rfl); exact h
        simp only [List.set_cons_zero, List.set_cons_succ] at hK ⊢
        have k4 := (cells_ofS hS2).1 4 _ rfl
        have k5 := (cells_ofS hS2).1 5 _ rfl
        simp only [h1] at hK ⊢
        go_simp
        exact hK.out _ _ (Below.refl _ _) rfl
      · intro vs w2 hb2 hS2 hR2 K hK
        have h0 : vs 0 = q := by obtain ⟨_, _, _, h⟩ := hR2 0 (by kernel_rfl); exact h
        have h2 : vs 2 = .string xc := by obtain ⟨_, _, _, h⟩ := hR2 2 (by kernel_rfl); exact h
        simp only [List.set_cons_zero, List.set_cons_succ] at hK ⊢
        simp only [h0, h2] at hK ⊢
        rw [if_pos (by rfl)]
        go_wp2_with (go_at_call 56; refine (splace_any q l xc _ (HQ.out.below (below_drew_left hb2) (Nat.le_refl _)) HLE.out).mono ?_; rintro e w3 ⟨rfl, hb3⟩)
        exact hK.out _ _ hb3 rfl
      · intro vs w2 hb2 hS2 hR2 K hK
        simp only [List.set_cons_zero, List.set_cons_succ] at hK ⊢
        go_simp
        exact hK.out _ _ (Below.refl _ _) rfl
      · intro vs w2 hb2 hS2 hR2 K hK
        simp only [List.set_cons_zero, List.set_cons_succ] at hK ⊢
        go_simp
        exact hK.out _ _ (Below.refl _ _) rfl
      · intro vs w2 hb2 hS2 hR2 K hK
        have h5 : vs 5 = .pointer (some ⟨eb, 5, none⟩) := by obtain ⟨_, _, _, h⟩ := hR2 5 (by kernel_rfl); exact h
        simp only [List.set_cons_zero, List.set_cons_succ] at hK ⊢
        have k4 := (cells_ofS hS2).1 4 _ rfl
        have k5 := (cells_ofS hS2).1 5 _ rfl
        simp only [h5] at hK ⊢
        go_simp
        exact hK.out _ _ (Below.refl _ _) rfl
      · intro vs w2 hb2 hS2 hR2 K hK
        have h4 : vs 4 = q := by obtain ⟨_, _, _, h⟩ := hR2 4 (by kernel_rfl); exact h
        have h6 : vs 6 = .string xd := by obtain ⟨_, _, _, h⟩ := hR2 6 (by kernel_rfl); exact h
        simp only [List.set_cons_zero, List.set_cons_succ] at hK ⊢
        simp only [h4, h6] at hK ⊢
        rw [if_pos (by rfl)]
        go_wp2_with (go_at_call 56; refine (splace_any q l xd _ (HQ.out.below (below_drew_left hb2) (Nat.le_refl _)) HLE.out).mono ?_; rintro e w3 ⟨rfl, hb3⟩)
        exact hK.out _ _ hb3 rfl
      · intro vs w2 hb2 hS2 hR2 K hK
        obtain ⟨_, _, _, H3⟩ := hR2 3 (by kernel_rfl)
        have h3 : vs 3 = .int .i64 (rowI l xc) := H3
        simp only [List.set_cons_zero, List.set_cons_succ] at hK ⊢
        simp only [h3] at hK ⊢
        go_simp
        exact hK.out _ _ (Below.refl _ _) rfl
      · intro vs w2 hb2 hS2 hR2 K hK
        obtain ⟨_, _, _, H7⟩ := hR2 7 (by kernel_rfl)
        have h7 : vs 7 = .int .i64 (rowI l xd) := H7
        simp only [List.set_cons_zero, List.set_cons_succ] at hK ⊢
        simp only [h7] at hK ⊢
        go_simp
        exact hK.out _ _ (Below.refl _ _) rfl
    case hendp2 =>
      intro vs wx lo hiv hbx hSx hRx hdx
      have h0 : vs 0 = q := (hRx 0 (by kernel_rfl)).1
      have h1 : vs 1 = .pointer (some ⟨eb, 4, none⟩) := (hRx 1 (by kernel_rfl)).1
      have h2 : vs 2 = .string xc := (hRx 2 (by kernel_rfl)).1
      have H3 := (hRx 3 (by kernel_rfl)).1
      have h3 : vs 3 = .int .i64 (rowI l xc) := H3
      have h4 : vs 4 = q := (hRx 4 (by kernel_rfl)).1
      have h5 : vs 5 = .pointer (some ⟨eb, 5, none⟩) := (hRx 5 (by kernel_rfl)).1
      have h6 : vs 6 = .string xd := (hRx 6 (by kernel_rfl)).1
      have H7 := (hRx 7 (by kernel_rfl)).1
      have h7 : vs 7 = .int .i64 (rowI l xd) := H7
      have h8 : vs 8 = .int .i64 (rowI l xc) := (hRx 8 (by kernel_rfl)).1
      have h9 : vs 9 = .int .i64 (rowI l xd) := (hRx 9 (by kernel_rfl)).1
      simp only [fillD, Act.put, List.setIfInBounds_toArray, List.set_cons_zero, List.set_cons_succ, h0, h1, h2, h3, h4, h5, h6, h7, h8, h9]
      have hb := below_drew_left hbx
      have HQ1 := hid (HQ.out.below hb (Nat.le_refl _))
      have HSH1 := hid (HSH.out.below hb)
      have HBE1 := hid (heap_laterS hb HBE.out)
      have HG1 := hid (HG.out.trans (Grown2.of_below (g := g) (h := h) hb))
      clear HQ HSH HBE HG hb hbx hRx hdx hSx h0 h1 h2 h3 h4 h5 h6 h7 h8 h9
      have HQ := HQ1
      have HSH := HSH1
      have HBE := HBE1
      have HG := HG1
      clear HQ1 HSH1 HBE1 HG1
      obtain ⟨w3, rfl⟩ : ∃ w3 : World, w3 = wx := ⟨_, rfl⟩
      refine wpAny_done (by kernel_rfl) ?_ _
      go_upto_region 3 with fail
      have e6 := (cells_ofS HBE.out).1 6 _ rfl
      have e1 := (cells_ofS HBE.out).1 1 _ rfl
      have e0 := (cells_ofS HBE.out).1 0 _ rfl
      go_upto_region 4 with fail
      go_upto_region 5 with (go_at_call 57; refine (rbranch_any q l xn _ HQ.out HLE.out).mono ?_; rintro e w4 ⟨rfl, hb⟩; have HQ1 := hid (HQ.out.below hb (Nat.le_refl _)); have HSH1 := hid (HSH.out.below hb); have HBE1 := hid (heap_laterS hb HBE.out); have HG1 := hid (HG.out.trans (Grown2.of_below (g := g) (h := h) hb)); clear HQ HSH HBE HG hb e0 e1 e6)
      have hwr := HWR.out
      go_upto_region 6 with (go_at_call 21; refine (rnodes_any q l _ HQ1.out HLE.out).mono ?_; rintro e w5 ⟨v, xs, rfl, hown, rfl, hb⟩; obtain ⟨av, cv, rfl⟩ := (IsSl.of_own hown).form; have HSH := hid (HSH1.out.below hb); have HBE := hid (heap_laterS hb HBE1.out); have HG := hid (HG1.out.trans (Grown2.of_below (g := g) (h := h) hb)); clear HQ1 HSH1 HBE1 HG1 hown hb)
      clear hwr HWR
      have HGL := hid (show g ≠ eb by have := HGE.out; omega)
      have HHL := hid (show h ≠ eb by have := HHE.out; omega)
      clear HGE HHE
      have e0 := (cells_ofS HBE.out).1 0 _ rfl
      go_upto_region 7 with fail
      clear e0
      rcases HK8.out with hkd | hkd | hkd | hkd | hkd | hkd | hkd | hkd
      · obtain rfl : kd = 1 := hkd
        have hx8 := cells_ofS HBE.out
        have e0 := hx8.1 0 _ rfl
        have e1 := hx8.1 1 _ rfl
        have e2 := hx8.1 2 _ rfl
        have e3 := hx8.1 3 _ rfl
        have e4 := hx8.1 4 _ rfl
        have e5 := hx8.1 5 _ rfl
        have e6 := hx8.1 6 _ rfl
        have e7 := hx8.1 7 _ rfl
        clear hx8
        by_cases had : (admS (⟨1, xn, xa, xb, xc, xd, vl, xp⟩ : El) om).2 = 0
        · have HAD := hid had
          clear had
          go_upto_region 14 with (go_at_call 58; refine (radm_any (⟨1, xn, xa, xb, xc, xd, vl, xp⟩ : El) om _ HXOK.out).mono ?_; rintro e wc ⟨v, rfl, hb, y1, y2, er, rfl, hz⟩; obtain rfl : er = 0 := (congrArg Prod.snd hz).trans HAD.out; have HY := hid (congrArg Prod.fst hz); have HSHn := hid (HSH.out.below hb); have HBEn := hid (heap_laterS hb HBE.out); have HGn := hid (HG.out.trans (Grown2.of_below (g := g) (h := h) hb)); clear HSH HBE HG hb hz e0 e1 e2 e3 e4 e5 e6 e7)
          have HSH := HSHn
          have HG := HGn
          have HBE := HBEn
          clear HSHn HGn HBEn
          go_upto_region 15 with (go_at_call 59; refine (sadd_any g h _ _ (rowI l xa) (rowI l xa) y1 y2 _ HSH.out HSZ.out (by have := row_lt2 l xa; omega) (by have := row_lt2 l xa; omega)).mono ?_; rintro e wn0 ⟨rfl, hsh, hgr⟩; have HSHn := hid hsh; have HGn := hid (HG.out.trans hgr); have HBEn := hid (hgr.heap (fun e => HGL.out e.symm) (fun e => HHL.out e.symm) HBE.out); clear HSH HG HBE hsh hgr)
          have HSH := HSHn
          have HG := HGn
          have HBE := HBEn
          clear HSHn HGn HBEn
          go_upto_region 16 with (go_at_call 59; refine (sadd_any g h _ _ (rowI l xb) (rowI l xb) y1 y2 _ HSH.out HSZ.out (by have := row_lt2 l xb; omega) (by have := row_lt2 l xb; omega)).mono ?_; rintro e wn1 ⟨rfl, hsh, hgr⟩; have HSHn := hid hsh; have HGn := hid (HG.out.trans hgr); have HBEn := hid (hgr.heap (fun e => HGL.out e.symm) (fun e => HHL.out e.symm) HBE.out); clear HSH HG HBE hsh hgr)
          have HSH := HSHn
          have HG := HGn
          have HBE := HBEn
          clear HSHn HGn HBEn
          go_upto_region 17 with (go_at_call 60; refine (ssub_any g h _ _ (rowI l xa) (rowI l xb) y1 y2 _ HSH.out HSZ.out (by have := row_lt2 l xa; omega) (by have := row_lt2 l xb; omega)).mono ?_; rintro e wn2 ⟨rfl, hsh, hgr⟩; have HSHn := hid hsh; have HGn := hid (HG.out.trans hgr); have HBEn := hid (hgr.heap (fun e => HGL.out e.symm) (fun e => HHL.out e.symm) HBE.out); clear HSH HG HBE hsh hgr)
          have HSH := HSHn
          have HG := HGn
          have HBE := HBEn
          clear HSHn HGn HBEn
          go_upto_region 32 with (go_at_call 60; refine (ssub_any g h _ _ (rowI l xb) (rowI l xa) y1 y2 _ HSH.out HSZ.out (by have := row_lt2 l xb; omega) (by have := row_lt2 l xa; omega)).mono ?_; rintro e wn3 ⟨rfl, hsh, hgr⟩; have HSHn := hid hsh; have HGn := hid (HG.out.trans hgr); have HBEn := hid (hgr.heap (fun e => HGL.out e.symm) (fun e => HHL.out e.symm) HBE.out); clear HSH HG HBE hsh hgr)
          have HSH := HSHn
          have HG := HGn
          have HBE := HBEn
          clear HSHn HGn HBEn
          have HF : Hid (SheetR _ g h (szL l) ((stPair (rowI l xa) (rowI l xb) (fc y1, fc y2)).foldl (st1 (szL l)) (m, false))) := HSH
          clear HSH
          have HSS := hid (show stStep l om m (⟨1, xn, xa, xb, xc, xd, vl, xp⟩ : El) = (((stPair (rowI l xa) (rowI l xb) (fc y1, fc y2)).foldl (st1 (szL l)) (m, false)).1, if ((stPair (rowI l xa) (rowI l xb) (fc y1, fc y2)).foldl (st1 (szL l)) (m, false)).2 = true then 6 else 0) from stad (x := (⟨1, xn, xa, xb, xc, xd, vl, xp⟩ : El)) rfl HAD.out HY.out)
          generalize hS : (stPair (rowI l xa) (rowI l xb) (fc y1, fc y2)).foldl (st1 (szL l)) (m, false) = S at *
          obtain ⟨sm, sv⟩ := S
          obtain ⟨M, hM⟩ := HF.out
          have o2 := hM.c2
          clear hM hS
          cases sv
          · have HS0 := hid (show stStep l om m (⟨1, xn, xa, xb, xc, xd, vl, xp⟩ : El) = (sm, 0) from HSS.out)
            go_wp2_with fail
            (try rw [Exit.noGoto_ret])
            go_ret
            rw [HS0.out]
            exact ⟨rfl, fun _ => HF.out, HG.out⟩
          · have HS6 := hid (show stStep l om m (⟨1, xn, xa, xb, xc, xd, vl, xp⟩ : El) = (sm, 6) from HSS.out)
            go_wp2_with fail
            (try rw [Exit.noGoto_ret])
            go_ret
            rw [HS6.out]
            exact ⟨rfl, fun e => absurd (show (6 : Int) = 0 from e) (by decide), HG.out⟩
        · have HAD := hid had
          have HSS := hid (stbad (l := l) (om := om) (m := m) (x := (⟨1, xn, xa, xb, xc, xd, vl, xp⟩ : El)) rfl HAD.out)
          go_wp2_with (go_at_call 58; refine (radm_any (⟨1, xn, xa, xb, xc, xd, vl, xp⟩ : El) om _ HXOK.out).mono ?_; rintro e wc ⟨v, rfl, hb, y1, y2, er, rfl, hz⟩; have HER := hid (congrArg Prod.snd hz); have hne : (er != 0) = true := (by have := HER.out; have h2 := HAD.out; rw [bne_iff_ne]; intro h0; exact h2 (this.symm.trans h0)); have HGn := hid (HG.out.trans (Grown2.of_below (g := g) (h := h) hb)); clear HSH HBE HG hb hz had e0 e1 e2 e3 e4 e5 e6 e7)
          (try rw [Exit.noGoto_ret])
          go_ret
          rw [HSS.out]
          exact ⟨by rw [show er = _ from HER.out]; rfl, fun e => absurd e HAD.out, HGn.out⟩
      · obtain rfl : kd = 2 := hkd
        have hx8 := cells_ofS HBE.out
        have e0 := hx8.1 0 _ rfl
        have e1 := hx8.1 1 _ rfl
        have e2 := hx8.1 2 _ rfl
        have e3 := hx8.1 3 _ rfl
        have e4 := hx8.1 4 _ rfl
        have e5 := hx8.1 5 _ rfl
        have e6 := hx8.1 6 _ rfl
        have e7 := hx8.1 7 _ rfl
        clear hx8
        by_cases had : (admS (⟨2, xn, xa, xb, xc, xd, vl, xp⟩ : El) om).2 = 0
        · have HAD := hid had
          clear had
          go_upto_region 14 with (go_at_call 58; refine (radm_any (⟨2, xn, xa, xb, xc, xd, vl, xp⟩ : El) om _ HXOK.out).mono ?_; rintro e wc ⟨v, rfl, hb, y1, y2, er, rfl, hz⟩; obtain rfl : er = 0 := (congrArg Prod.snd hz).trans HAD.out; have HY := hid (congrArg Prod.fst hz); have HSHn := hid (HSH.out.below hb); have HBEn := hid (heap_laterS hb HBE.out); have HGn := hid (HG.out.trans (Grown2.of_below (g := g) (h := h) hb)); clear HSH HBE HG hb hz e0 e1 e2 e3 e4 e5 e6 e7)
          have HSH := HSHn
          have HG := HGn
          have HBE := HBEn
          clear HSHn HGn HBEn
          go_upto_region 15 with (go_at_call 59; refine (sadd_any g h _ _ (rowI l xa) (rowI l xa) y1 y2 _ HSH.out HSZ.out (by have := row_lt2 l xa; omega) (by have := row_lt2 l xa; omega)).mono ?_; rintro e wn0 ⟨rfl, hsh, hgr⟩; have HSHn := hid hsh; have HGn := hid (HG.out.trans hgr); have HBEn := hid (hgr.heap (fun e => HGL.out e.symm) (fun e => HHL.out e.symm) HBE.out); clear HSH HG HBE hsh hgr)
          have HSH := HSHn
          have HG := HGn
          have HBE := HBEn
          clear HSHn HGn HBEn
          go_upto_region 16 with (go_at_call 59; refine (sadd_any g h _ _ (rowI l xb) (rowI l xb) y1 y2 _ HSH.out HSZ.out (by have := row_lt2 l xb; omega) (by have := row_lt2 l xb; omega)).mono ?_; rintro e wn1 ⟨rfl, hsh, hgr⟩; have HSHn := hid hsh; have HGn := hid (HG.out.trans hgr); have HBEn := hid (hgr.heap (fun e => HGL.out e.symm) (fun e => HHL.out e.symm) HBE.out); clear HSH HG HBE hsh hgr)
          have HSH := HSHn
          have HG := HGn
          have HBE := HBEn
          clear HSHn HGn HBEn
          go_upto_region 17 with (go_at_call 60; refine (ssub_any g h _ _ (rowI l xa) (rowI l xb) y1 y2 _ HSH.out HSZ.out (by have := row_lt2 l xa; omega) (by have := row_lt2 l xb; omega)).mono ?_; rintro e wn2 ⟨rfl, hsh, hgr⟩; have HSHn := hid hsh; have HGn := hid (HG.out.trans hgr); have HBEn := hid (hgr.heap (fun e => HGL.out e.symm) (fun e => HHL.out e.symm) HBE.out); clear HSH HG HBE hsh hgr)
          have HSH := HSHn
          have HG := HGn
          have HBE := HBEn
          clear HSHn HGn HBEn
          go_upto_region 32 with (go_at_call 60; refine (ssub_any g h _ _ (rowI l xb) (rowI l xa) y1 y2 _ HSH.out HSZ.out (by have := row_lt2 l xb; omega) (by have := row_lt2 l xa; omega)).mono ?_; rintro e wn3 ⟨rfl, hsh, hgr⟩; have HSHn := hid hsh; have HGn := hid (HG.out.trans hgr); have HBEn := hid (hgr.heap (fun e => HGL.out e.symm) (fun e => HHL.out e.symm) HBE.out); clear HSH HG HBE hsh hgr)
          have HSH := HSHn
          have HG := HGn
          have HBE := HBEn
          clear HSHn HGn HBEn
          have HF : Hid (SheetR _ g h (szL l) ((stPair (rowI l xa) (rowI l xb) (fc y1, fc y2)).foldl (st1 (szL l)) (m, false))) := HSH
          clear HSH
          have HSS := hid (show stStep l om m (⟨2, xn, xa, xb, xc, xd, vl, xp⟩ : El) = (((stPair (rowI l xa) (rowI l xb) (fc y1, fc y2)).foldl (st1 (szL l)) (m, false)).1, if ((stPair (rowI l xa) (rowI l xb) (fc y1, fc y2)).foldl (st1 (szL l)) (m, false)).2 = true then 6 else 0) from stad (x := (⟨2, xn, xa, xb, xc, xd, vl, xp⟩ : El)) rfl HAD.out HY.out)
          generalize hS : (stPair (rowI l xa) (rowI l xb) (fc y1, fc y2)).foldl (st1 (szL l)) (m, false) = S at *
          obtain ⟨sm, sv⟩ := S
          obtain ⟨M, hM⟩ := HF.out
          have o2 := hM.c2
          clear hM hS
          cases sv
          · have HS0 := hid (show stStep l om m (⟨2, xn, xa, xb, xc, xd, vl, xp⟩ : El) = (sm, 0) from HSS.out)
            go_wp2_with fail
            (try rw [Exit.noGoto_ret])
            go_ret
            rw [HS0.out]
            exact ⟨rfl, fun _ => HF.out, HG.out⟩
          · have HS6 := hid (show stStep l om m (⟨2, xn, xa, xb, xc, xd, vl, xp⟩ : El) = (sm, 6) from HSS.out)
            go_wp2_with fail
            (try rw [Exit.noGoto_ret])
            go_ret
            rw [HS6.out]
            exact ⟨rfl, fun e => absurd (show (6 : Int) = 0 from e) (by decide), HG.out⟩
        · have HAD := hid had
          have HSS := hid (stbad (l := l) (om := om) (m := m) (x := (⟨2, xn, xa, xb, xc, xd, vl, xp⟩ : El)) rfl HAD.out)
          go_wp2_with (go_at_call 58; refine (radm_any (⟨2, xn, xa, xb, xc, xd, vl, xp⟩ : El) om _ HXOK.out).mono ?_; rintro e wc ⟨v, rfl, hb, y1, y2, er, rfl, hz⟩; have HER := hid (congrArg Prod.snd hz); have hne : (er != 0) = true := (by have := HER.out; have h2 := HAD.out; rw [bne_iff_ne]; intro h0; exact h2 (this.symm.trans h0)); have HGn := hid (HG.out.trans (Grown2.of_below (g := g) (h := h) hb)); clear HSH HBE HG hb hz had e0 e1 e2 e3 e4 e5 e6 e7)
          (try rw [Exit.noGoto_ret])
          go_ret
          rw [HSS.out]
          exact ⟨by rw [show er = _ from HER.out]; rfl, fun e => absurd e HAD.out, HGn.out⟩
      · obtain rfl : kd = 3 := hkd
        have hx8 := cells_ofS HBE.out
        have e0 := hx8.1 0 _ rfl
        have e1 := hx8.1 1 _ rfl
        have e2 := hx8.1 2 _ rfl
        have e3 := hx8.1 3 _ rfl
        have e4 := hx8.1 4 _ rfl
        have e5 := hx8.1 5 _ rfl
        have e6 := hx8.1 6 _ rfl
        have e7 := hx8.1 7 _ rfl
        clear hx8
        by_cases had : (admS (⟨3, xn, xa, xb, xc, xd, vl, xp⟩ : El) om).2 = 0
        · have HAD := hid had
          clear had
          go_upto_region 14 with (go_at_call 58; refine (radm_any (⟨3, xn, xa, xb, xc, xd, vl, xp⟩ : El) om _ HXOK.out).mono ?_; rintro e wc ⟨v, rfl, hb, y1, y2, er, rfl, hz⟩; obtain rfl : er = 0 := (congrArg Prod.snd hz).trans HAD.out; have HY := hid (congrArg Prod.fst hz); have HSHn := hid (HSH.out.below hb); have HBEn := hid (heap_laterS hb HBE.out); have HGn := hid (HG.out.trans (Grown2.of_below (g := g) (h := h) hb)); clear HSH HBE HG hb hz e0 e1 e2 e3 e4 e5 e6 e7)
          have HSH := HSHn
          have HG := HGn
          have HBE := HBEn
          clear HSHn HGn HBEn
          go_upto_region 15 with (go_at_call 59; refine (sadd_any g h _ _ (rowI l xa) (rowI l xa) y1 y2 _ HSH.out HSZ.out (by have := row_lt2 l xa; omega) (by have := row_lt2 l xa; omega)).mono ?_; rintro e wn0 ⟨rfl, hsh, hgr⟩; have HSHn := hid hsh; have HGn := hid (HG.out.trans hgr); have HBEn := hid (hgr.heap (fun e => HGL.out e.symm) (fun e => HHL.out e.symm) HBE.out); clear HSH HG HBE hsh hgr)
          have HSH := HSHn
          have HG := HGn
          have HBE := HBEn
          clear HSHn HGn HBEn
          go_upto_region 16 with (go_at_call 59; refine (sadd_any g h _ _ (rowI l xb) (rowI l xb) y1 y2 _ HSH.out HSZ.out (by have := row_lt2 l xb; omega) (by have := row_lt2 l xb; omega)).mono ?_; rintro e wn1 ⟨rfl, hsh, hgr⟩; have HSHn := hid hsh; have HGn := hid (HG.out.trans hgr); have HBEn := hid (hgr.heap (fun e => HGL.out e.symm) (fun e => HHL.out e.symm) HBE.out); clear HSH HG HBE hsh hgr)
          have HSH := HSHn
          have HG := HGn
          have HBE := HBEn
          clear HSHn HGn HBEn
          go_upto_region 17 with (go_at_call 60; refine (ssub_any g h _ _ (rowI l xa) (rowI l xb) y1 y2 _ HSH.out HSZ.out (by have := row_lt2 l xa; omega) (by have := row_lt2 l xb; omega)).mono ?_; rintro e wn2 ⟨rfl, hsh, hgr⟩; have HSHn := hid hsh; have HGn := hid (HG.out.trans hgr); have HBEn := hid (hgr.heap (fun e => HGL.out e.symm) (fun e => HHL.out e.symm) HBE.out); clear HSH HG HBE hsh hgr)
          have HSH := HSHn
          have HG := HGn
          have HBE := HBEn
          clear HSHn HGn HBEn
          go_upto_region 32 with (go_at_call 60; refine (ssub_any g h _ _ (rowI l xb) (rowI l xa) y1 y2 _ HSH.out HSZ.out (by have := row_lt2 l xb; omega) (by have := row_lt2 l xa; omega)).mono ?_; rintro e wn3 ⟨rfl, hsh, hgr⟩; have HSHn := hid hsh; have HGn := hid (HG.out.trans hgr); have HBEn := hid (hgr.heap (fun e => HGL.out e.symm) (fun e => HHL.out e.symm) HBE.out); clear HSH HG HBE hsh hgr)
          have HSH := HSHn
          have HG := HGn
          have HBE := HBEn
          clear HSHn HGn HBEn
          have HF : Hid (SheetR _ g h (szL l) ((stPair (rowI l xa) (rowI l xb) (fc y1, fc y2)).foldl (st1 (szL l)) (m, false))) := HSH
          clear HSH
          have HSS := hid (show stStep l om m (⟨3, xn, xa, xb, xc, xd, vl, xp⟩ : El) = (((stPair (rowI l xa) (rowI l xb) (fc y1, fc y2)).foldl (st1 (szL l)) (m, false)).1, if ((stPair (rowI l xa) (rowI l xb) (fc y1, fc y2)).foldl (st1 (szL l)) (m, false)).2 = true then 6 else 0) from stad (x := (⟨3, xn, xa, xb, xc, xd, vl, xp⟩ : El)) rfl HAD.out HY.out)
          generalize hS : (stPair (rowI l xa) (rowI l xb) (fc y1, fc y2)).foldl (st1 (szL l)) (m, false) = S at *
          obtain ⟨sm, sv⟩ := S
          obtain ⟨M, hM⟩ := HF.out
          have o2 := hM.c2
          clear hM hS
          cases sv
          · have HS0 := hid (show stStep l om m (⟨3, xn, xa, xb, xc, xd, vl, xp⟩ : El) = (sm, 0) from HSS.out)
            go_wp2_with fail
            (try rw [Exit.noGoto_ret])
            go_ret
            rw [HS0.out]
            exact ⟨rfl, fun _ => HF.out, HG.out⟩
          · have HS6 := hid (show stStep l om m (⟨3, xn, xa, xb, xc, xd, vl, xp⟩ : El) = (sm, 6) from HSS.out)
            go_wp2_with fail
            (try rw [Exit.noGoto_ret])
            go_ret
            rw [HS6.out]
            exact ⟨rfl, fun e => absurd (show (6 : Int) = 0 from e) (by decide), HG.out⟩
        · have HAD := hid had
          have HSS := hid (stbad (l := l) (om := om) (m := m) (x := (⟨3, xn, xa, xb, xc, xd, vl, xp⟩ : El)) rfl HAD.out)
          go_wp2_with (go_at_call 58; refine (radm_any (⟨3, xn, xa, xb, xc, xd, vl, xp⟩ : El) om _ HXOK.out).mono ?_; rintro e wc ⟨v, rfl, hb, y1, y2, er, rfl, hz⟩; have HER := hid (congrArg Prod.snd hz); have hne : (er != 0) = true := (by have := HER.out; have h2 := HAD.out; rw [bne_iff_ne]; intro h0; exact h2 (this.symm.trans h0)); have HGn := hid (HG.out.trans (Grown2.of_below (g := g) (h := h) hb)); clear HSH HBE HG hb hz had e0 e1 e2 e3 e4 e5 e6 e7)
          (try rw [Exit.noGoto_ret])
          go_ret
          rw [HSS.out]
          exact ⟨by rw [show er = _ from HER.out]; rfl, fun e => absurd e HAD.out, HGn.out⟩
      · obtain rfl : kd = 4 := hkd
        have HS0 := hid (show stStep l om m (⟨4, xn, xa, xb, xc, xd, vl, xp⟩ : El) = (m, 0) from (stno (x := (⟨4, xn, xa, xb, xc, xd, vl, xp⟩ : El)) (L := []) rfl (fun _ => rfl)).trans rfl)
        obtain ⟨M, hM⟩ := HSH.out
        have o2 : w5.cell? ⟨g, 2, none⟩ = some (.bool false) := hM.c2
        clear hM
        go_wp2_with fail
        (try rw [Exit.noGoto_ret])
        go_ret
        rw [HS0.out]
        exact ⟨rfl, fun _ => HSH.out, HG.out⟩
      · obtain rfl : kd = 5 := hkd
        have HBI := hid (br_lt2 (HBR.out rfl))
        go_upto_region 26 with (go_at_call 59; refine (sadd_any g h _ _ (rowI l xa) (brI l xn) 4607182418800017408 0 _ HSH.out HSZ.out (by have := row_lt2 l xa; omega) (by have := HBI.out; exact this)).mono ?_; rintro e wn0 ⟨rfl, hsh, hgr⟩; have HSHn := hid hsh; have HGn := hid (HG.out.trans hgr); have HBEn := hid (hgr.heap (fun e => HGL.out e.symm) (fun e => HHL.out e.symm) HBE.out); clear HSH HG HBE hsh hgr)
        have HSH := HSHn
        have HG := HGn
        have HBE := HBEn
        clear HSHn HGn HBEn
        go_upto_region 27 with (go_at_call 59; refine (sadd_any g h _ _ (brI l xn) (rowI l xa) 4607182418800017408 0 _ HSH.out HSZ.out (by have := HBI.out; exact this) (by have := row_lt2 l xa; omega)).mono ?_; rintro e wn1 ⟨rfl, hsh, hgr⟩; have HSHn := hid hsh; have HGn := hid (HG.out.trans hgr); have HBEn := hid (hgr.heap (fun e => HGL.out e.symm) (fun e => HHL.out e.symm) HBE.out); clear HSH HG HBE hsh hgr)
        have HSH := HSHn
        have HG := HGn
        have HBE := HBEn
        clear HSHn HGn HBEn
        go_upto_region 28 with (go_at_call 60; refine (ssub_any g h _ _ (rowI l xb) (brI l xn) 4607182418800017408 0 _ HSH.out HSZ.out (by have := row_lt2 l xb; omega) (by have := HBI.out; exact this)).mono ?_; rintro e wn2 ⟨rfl, hsh, hgr⟩; have HSHn := hid hsh; have HGn := hid (HG.out.trans hgr); have HBEn := hid (hgr.heap (fun e => HGL.out e.symm) (fun e => HHL.out e.symm) HBE.out); clear HSH HG HBE hsh hgr)
        have HSH := HSHn
        have HG := HGn
        have HBE := HBEn
        clear HSHn HGn HBEn
        go_upto_region 29 with (go_at_call 60; refine (ssub_any g h _ _ (brI l xn) (rowI l xb) 4607182418800017408 0 _ HSH.out HSZ.out (by have := HBI.out; exact this) (by have := row_lt2 l xb; omega)).mono ?_; rintro e wn3 ⟨rfl, hsh, hgr⟩; have HSHn := hid hsh; have HGn := hid (HG.out.trans hgr); have HBEn := hid (hgr.heap (fun e => HGL.out e.symm) (fun e => HHL.out e.symm) HBE.out); clear HSH HG HBE hsh hgr)
        have HSH := HSHn
        have HG := HGn
        have HBE := HBEn
        clear HSHn HGn HBEn
        have e0 := (cells_ofS HBE.out).1 0 _ rfl
        go_upto_region 32 with fail
        clear e0
        have HF : Hid (SheetR _ g h (szL l) ((stBr (rowI l xa) (rowI l xb) (brI l xn)).foldl (st1 (szL l)) (m, false))) := HSH
        clear HSH
        have HSS := hid (show stStep l om m (⟨5, xn, xa, xb, xc, xd, vl, xp⟩ : El) = (((stBr (rowI l xa) (rowI l xb) (brI l xn)).foldl (st1 (szL l)) (m, false)).1, if ((stBr (rowI l xa) (rowI l xb) (brI l xn)).foldl (st1 (szL l)) (m, false)).2 = true then 6 else 0) from stno (x := (⟨5, xn, xa, xb, xc, xd, vl, xp⟩ : El)) rfl (fun _ => rfl))
        generalize hS : (stBr (rowI l xa) (rowI l xb) (brI l xn)).foldl (st1 (szL l)) (m, false) = S at *
        obtain ⟨sm, sv⟩ := S
        obtain ⟨M, hM⟩ := HF.out
        have o2 := hM.c2
        clear hM hS
        cases sv
        · have HS0 := hid (show stStep l om m (⟨5, xn, xa, xb, xc, xd, vl, xp⟩ : El) = (sm, 0) from HSS.out)
          go_wp2_with fail
          (try rw [Exit.noGoto_ret])
          go_ret
          rw [HS0.out]
          exact ⟨rfl, fun _ => HF.out, HG.out⟩
        · have HS6 := hid (show stStep l om m (⟨5, xn, xa, xb, xc, xd, vl, xp⟩ : El) = (sm, 6) from HSS.out)
          go_wp2_with fail
          (try rw [Exit.noGoto_ret])
          go_ret
          rw [HS6.out]
          exact ⟨rfl, fun e => absurd (show (6 : Int) = 0 from e) (by decide), HG.out⟩
      · obtain rfl : kd = 6 := hkd
        go_upto_region 20 with (go_at_call 59; refine (sadd_any g h _ _ (rowI l xa) (rowI l xc) vl 0 _ HSH.out HSZ.out (by have := row_lt2 l xa; omega) (by have := row_lt2 l xc; omega)).mono ?_; rintro e wn0 ⟨rfl, hsh, hgr⟩; have HSHn := hid hsh; have HGn := hid (HG.out.trans hgr); have HBEn := hid (hgr.heap (fun e => HGL.out e.symm) (fun e => HHL.out e.symm) HBE.out); clear HSH HG HBE hsh hgr)
        have HSH := HSHn
        have HG := HGn
        have HBE := HBEn
        clear HSHn HGn HBEn
        go_upto_region 21 with (go_at_call 60; refine (ssub_any g h _ _ (rowI l xa) (rowI l xd) vl 0 _ HSH.out HSZ.out (by have := row_lt2 l xa; omega) (by have := row_lt2 l xd; omega)).mono ?_; rintro e wn1 ⟨rfl, hsh, hgr⟩; have HSHn := hid hsh; have HGn := hid (HG.out.trans hgr); have HBEn := hid (hgr.heap (fun e => HGL.out e.symm) (fun e => HHL.out e.symm) HBE.out); clear HSH HG HBE hsh hgr)
        have HSH := HSHn
        have HG := HGn
        have HBE := HBEn
        clear HSHn HGn HBEn
        go_upto_region 22 with (go_at_call 60; refine (ssub_any g h _ _ (rowI l xb) (rowI l xc) vl 0 _ HSH.out HSZ.out (by have := row_lt2 l xb; omega) (by have := row_lt2 l xc; omega)).mono ?_; rintro e wn2 ⟨rfl, hsh, hgr⟩; have HSHn := hid hsh; have HGn := hid (HG.out.trans hgr); have HBEn := hid (hgr.heap (fun e => HGL.out e.symm) (fun e => HHL.out e.symm) HBE.out); clear HSH HG HBE hsh hgr)
        have HSH := HSHn
        have HG := HGn
        have HBE := HBEn
        clear HSHn HGn HBEn
        go_upto_region 32 with (go_at_call 59; refine (sadd_any g h _ _ (rowI l xb) (rowI l xd) vl 0 _ HSH.out HSZ.out (by have := row_lt2 l xb; omega) (by have := row_lt2 l xd; omega)).mono ?_; rintro e wn3 ⟨rfl, hsh, hgr⟩; have HSHn := hid hsh; have HGn := hid (HG.out.trans hgr); have HBEn := hid (hgr.heap (fun e => HGL.out e.symm) (fun e => HHL.out e.symm) HBE.out); clear HSH HG HBE hsh hgr)
        have HSH := HSHn
        have HG := HGn
        have HBE := HBEn
        clear HSHn HGn HBEn
        have HF : Hid (SheetR _ g h (szL l) ((stTrans (rowI l xa) (rowI l xb) (rowI l xc) (rowI l xd) (fc vl, fc 0)).foldl (st1 (szL l)) (m, false))) := HSH
        clear HSH
        have HSS := hid (show stStep l om m (⟨6, xn, xa, xb, xc, xd, vl, xp⟩ : El) = (((stTrans (rowI l xa) (rowI l xb) (rowI l xc) (rowI l xd) (fc vl, fc 0)).foldl (st1 (szL l)) (m, false)).1, if ((stTrans (rowI l xa) (rowI l xb) (rowI l xc) (rowI l xd) (fc vl, fc 0)).foldl (st1 (szL l)) (m, false)).2 = true then 6 else 0) from stno (x := (⟨6, xn, xa, xb, xc, xd, vl, xp⟩ : El)) rfl (fun _ => rfl))
        generalize hS : (stTrans (rowI l xa) (rowI l xb) (rowI l xc) (rowI l xd) (fc vl, fc 0)).foldl (st1 (szL l)) (m, false) = S at *
        obtain ⟨sm, sv⟩ := S
        obtain ⟨M, hM⟩ := HF.out
        have o2 := hM.c2
        clear hM hS
        cases sv
        · have HS0 := hid (show stStep l om m (⟨6, xn, xa, xb, xc, xd, vl, xp⟩ : El) = (sm, 0) from HSS.out)
          go_wp2_with fail
          (try rw [Exit.noGoto_ret])
          go_ret
          rw [HS0.out]
          exact ⟨rfl, fun _ => HF.out, HG.out⟩
        · have HS6 := hid (show stStep l om m (⟨6, xn, xa, xb, xc, xd, vl, xp⟩ : El) = (sm, 6) from HSS.out)
          go_wp2_with fail
          (try rw [Exit.noGoto_ret])
          go_ret
          rw [HS6.out]
          exact ⟨rfl, fun e => absurd (show (6 : Int) = 0 from e) (by decide), HG.out⟩
      · obtain rfl : kd = 7 := hkd
        have HBI := hid (br_lt2 (HBR.out rfl))
        go_upto_region 26 with (go_at_call 59; refine (sadd_any g h _ _ (rowI l xa) (brI l xn) 4607182418800017408 0 _ HSH.out HSZ.out (by have := row_lt2 l xa; omega) (by have := HBI.out; exact this)).mono ?_; rintro e wn0 ⟨rfl, hsh, hgr⟩; have HSHn := hid hsh; have HGn := hid (HG.out.trans hgr); have HBEn := hid (hgr.heap (fun e => HGL.out e.symm) (fun e => HHL.out e.symm) HBE.out); clear HSH HG HBE hsh hgr)
        have HSH := HSHn
        have HG := HGn
        have HBE := HBEn
        clear HSHn HGn HBEn
        go_upto_region 27 with (go_at_call 59; refine (sadd_any g h _ _ (brI l xn) (rowI l xa) 4607182418800017408 0 _ HSH.out HSZ.out (by have := HBI.out; exact this) (by have := row_lt2 l xa; omega)).mono ?_; rintro e wn1 ⟨rfl, hsh, hgr⟩; have HSHn := hid hsh; have HGn := hid (HG.out.trans hgr); have HBEn := hid (hgr.heap (fun e => HGL.out e.symm) (fun e => HHL.out e.symm) HBE.out); clear HSH HG HBE hsh hgr)
        have HSH := HSHn
        have HG := HGn
        have HBE := HBEn
        clear HSHn HGn HBEn
        go_upto_region 28 with (go_at_call 60; refine (ssub_any g h _ _ (rowI l xb) (brI l xn) 4607182418800017408 0 _ HSH.out HSZ.out (by have := row_lt2 l xb; omega) (by have := HBI.out; exact this)).mono ?_; rintro e wn2 ⟨rfl, hsh, hgr⟩; have HSHn := hid hsh; have HGn := hid (HG.out.trans hgr); have HBEn := hid (hgr.heap (fun e => HGL.out e.symm) (fun e => HHL.out e.symm) HBE.out); clear HSH HG HBE hsh hgr)
        have HSH := HSHn
        have HG := HGn
        have HBE := HBEn
        clear HSHn HGn HBEn
        go_upto_region 29 with (go_at_call 60; refine (ssub_any g h _ _ (brI l xn) (rowI l xb) 4607182418800017408 0 _ HSH.out HSZ.out (by have := HBI.out; exact this) (by have := row_lt2 l xb; omega)).mono ?_; rintro e wn3 ⟨rfl, hsh, hgr⟩; have HSHn := hid hsh; have HGn := hid (HG.out.trans hgr); have HBEn := hid (hgr.heap (fun e => HGL.out e.symm) (fun e => HHL.out e.symm) HBE.out); clear HSH HG HBE hsh hgr)
        have HSH := HSHn
        have HG := HGn
        have HBE := HBEn
        clear HSHn HGn HBEn
        have e0 := (cells_ofS HBE.out).1 0 _ rfl
        go_upto_region 30 with fail
        clear e0
        go_upto_region 31 with (go_at_call 60; refine (ssub_any g h _ _ (brI l xn) (rowI l xc) vl 0 _ HSH.out HSZ.out (by have := HBI.out; exact this) (by have := row_lt2 l xc; omega)).mono ?_; rintro e wn4 ⟨rfl, hsh, hgr⟩; have HSHn := hid hsh; have HGn := hid (HG.out.trans hgr); have HBEn := hid (hgr.heap (fun e => HGL.out e.symm) (fun e => HHL.out e.symm) HBE.out); clear HSH HG HBE hsh hgr)
        have HSH := HSHn
        have HG := HGn
        have HBE := HBEn
        clear HSHn HGn HBEn
        go_upto_region 32 with (go_at_call 59; refine (sadd_any g h _ _ (brI l xn) (rowI l xd) vl 0 _ HSH.out HSZ.out (by have := HBI.out; exact this) (by have := row_lt2 l xd; omega)).mono ?_; rintro e wn5 ⟨rfl, hsh, hgr⟩; have HSHn := hid hsh; have HGn := hid (HG.out.trans hgr); have HBEn := hid (hgr.heap (fun e => HGL.out e.symm) (fun e => HHL.out e.symm) HBE.out); clear HSH HG HBE hsh hgr)
        have HSH := HSHn
        have HG := HGn
        have HBE := HBEn
        clear HSHn HGn HBEn
        have HF : Hid (SheetR _ g h (szL l) ((stBr (rowI l xa) (rowI l xb) (brI l xn) ++ stAmp (brI l xn) (rowI l xc) (rowI l xd) (fc vl, fc 0)).foldl (st1 (szL l)) (m, false))) := HSH
        clear HSH
        have HSS := hid (show stStep l om m (⟨7, xn, xa, xb, xc, xd, vl, xp⟩ : El) = (((stBr (rowI l xa) (rowI l xb) (brI l xn) ++ stAmp (brI l xn) (rowI l xc) (rowI l xd) (fc vl, fc 0)).foldl (st1 (szL l)) (m, false)).1, if ((stBr (rowI l xa) (rowI l xb) (brI l xn) ++ stAmp (brI l xn) (rowI l xc) (rowI l xd) (fc vl, fc 0)).foldl (st1 (szL l)) (m, false)).2 = true then 6 else 0) from stno (x := (⟨7, xn, xa, xb, xc, xd, vl, xp⟩ : El)) rfl (fun _ => rfl))
        generalize hS : (stBr (rowI l xa) (rowI l xb) (brI l xn) ++ stAmp (brI l xn) (rowI l xc) (rowI l xd) (fc vl, fc 0)).foldl (st1 (szL l)) (m, false) = S at *
        obtain ⟨sm, sv⟩ := S
        obtain ⟨M, hM⟩ := HF.out
        have o2 := hM.c2
        clear hM hS
        cases sv
        · have HS0 := hid (show stStep l om m (⟨7, xn, xa, xb, xc, xd, vl, xp⟩ : El) = (sm, 0) from HSS.out)
          go_wp2_with fail
          (try rw [Exit.noGoto_ret])
          go_ret
          rw [HS0.out]
          exact ⟨rfl, fun _ => HF.out, HG.out⟩
        · have HS6 := hid (show stStep l om m (⟨7, xn, xa, xb, xc, xd, vl, xp⟩ : El) = (sm, 6) from HSS.out)
          go_wp2_with fail
          (try rw [Exit.noGoto_ret])
          go_ret
          rw [HS6.out]
          exact ⟨rfl, fun e => absurd (show (6 : Int) = 0 from e) (by decide), HG.out⟩
      · obtain rfl : kd = 8 := hkd
        have hx8 := cells_ofS HBE.out
        have e0 := hx8.1 0 _ rfl
        have e1 := hx8.1 1 _ rfl
        have e2 := hx8.1 2 _ rfl
        have e3 := hx8.1 3 _ rfl
        have e4 := hx8.1 4 _ rfl
        have e5 := hx8.1 5 _ rfl
        have e6 := hx8.1 6 _ rfl
        have e7 := hx8.1 7 _ rfl
        clear hx8
        by_cases had : (admS (⟨8, xn, xa, xb, xc, xd, vl, xp⟩ : El) om).2 = 0
        · have HAD := hid had
          clear had
          go_upto_region 14 with (go_at_call 58; refine (radm_any (⟨8, xn, xa, xb, xc, xd, vl, xp⟩ : El) om _ HXOK.out).mono ?_; rintro e wc ⟨v, rfl, hb, y1, y2, er, rfl, hz⟩; obtain rfl : er = 0 := (congrArg Prod.snd hz).trans HAD.out; have HY := hid (congrArg Prod.fst hz); have HSHn := hid (HSH.out.below hb); have HBEn := hid (heap_laterS hb HBE.out); have HGn := hid (HG.out.trans (Grown2.of_below (g := g) (h := h) hb)); clear HSH HBE HG hb hz e0 e1 e2 e3 e4 e5 e6 e7)
          have HSH := HSHn
          have HG := HGn
          have HBE := HBEn
          clear HSHn HGn HBEn
          go_upto_region 15 with (go_at_call 59; refine (sadd_any g h _ _ (rowI l xa) (rowI l xa) y1 y2 _ HSH.out HSZ.out (by have := row_lt2 l xa; omega) (by have := row_lt2 l xa; omega)).mono ?_; rintro e wn0 ⟨rfl, hsh, hgr⟩; have HSHn := hid hsh; have HGn := hid (HG.out.trans hgr); have HBEn := hid (hgr.heap (fun e => HGL.out e.symm) (fun e => HHL.out e.symm) HBE.out); clear HSH HG HBE hsh hgr)
          have HSH := HSHn
          have HG := HGn
          have HBE := HBEn
          clear HSHn HGn HBEn
          go_upto_region 16 with (go_at_call 59; refine (sadd_any g h _ _ (rowI l xb) (rowI l xb) y1 y2 _ HSH.out HSZ.out (by have := row_lt2 l xb; omega) (by have := row_lt2 l xb; omega)).mono ?_; rintro e wn1 ⟨rfl, hsh, hgr⟩; have HSHn := hid hsh; have HGn := hid (HG.out.trans hgr); have HBEn := hid (hgr.heap (fun e => HGL.out e.symm) (fun e => HHL.out e.symm) HBE.out); clear HSH HG HBE hsh hgr)
          have HSH := HSHn
          have HG := HGn
          have HBE := HBEn
          clear HSHn HGn HBEn
          go_upto_region 17 with (go_at_call 60; refine (ssub_any g h _ _ (rowI l xa) (rowI l xb) y1 y2 _ HSH.out HSZ.out (by have := row_lt2 l xa; omega) (by have := row_lt2 l xb; omega)).mono ?_; rintro e wn2 ⟨rfl, hsh, hgr⟩; have HSHn := hid hsh; have HGn := hid (HG.out.trans hgr); have HBEn := hid (hgr.heap (fun e => HGL.out e.symm) (fun e => HHL.out e.symm) HBE.out); clear HSH HG HBE hsh hgr)
          have HSH := HSHn
          have HG := HGn
          have HBE := HBEn
          clear HSHn HGn HBEn
          go_upto_region 32 with (go_at_call 60; refine (ssub_any g h _ _ (rowI l xb) (rowI l xa) y1 y2 _ HSH.out HSZ.out (by have := row_lt2 l xb; omega) (by have := row_lt2 l xa; omega)).mono ?_; rintro e wn3 ⟨rfl, hsh, hgr⟩; have HSHn := hid hsh; have HGn := hid (HG.out.trans hgr); have HBEn := hid (hgr.heap (fun e => HGL.out e.symm) (fun e => HHL.out e.symm) HBE.out); clear HSH HG HBE hsh hgr)
          have HSH := HSHn
          have HG := HGn
          have HBE := HBEn
          clear HSHn HGn HBEn
          have HF : Hid (SheetR _ g h (szL l) ((stPair (rowI l xa) (rowI l xb) (fc y1, fc y2)).foldl (st1 (szL l)) (m, false))) := HSH
          clear HSH
          have HSS := hid (show stStep l om m (⟨8, xn, xa, xb, xc, xd, vl, xp⟩ : El) = (((stPair (rowI l xa) (rowI l xb) (fc y1, fc y2)).foldl (st1 (szL l)) (m, false)).1, if ((stPair (rowI l xa) (rowI l xb) (fc y1, fc y2)).foldl (st1 (szL l)) (m, false)).2 = true then 6 else 0) from stad (x := (⟨8, xn, xa, xb, xc, xd, vl, xp⟩ : El)) rfl HAD.out HY.out)
          generalize hS : (stPair (rowI l xa) (rowI l xb) (fc y1, fc y2)).foldl (st1 (szL l)) (m, false) = S at *
          obtain ⟨sm, sv⟩ := S
          obtain ⟨M, hM⟩ := HF.out
          have o2 := hM.c2
          clear hM hS
          cases sv
          · have HS0 := hid (show stStep l om m (⟨8, xn, xa, xb, xc, xd, vl, xp⟩ : El) = (sm, 0) from HSS.out)
            go_wp2_with fail
            (try rw [Exit.noGoto_ret])
            go_ret
            rw [HS0.out]
            exact ⟨rfl, fun _ => HF.out, HG.out⟩
          · have HS6 := hid (show stStep l om m (⟨8, xn, xa, xb, xc, xd, vl, xp⟩ : El) = (sm, 6) from HSS.out)
            go_wp2_with fail
            (try rw [Exit.noGoto_ret])
            go_ret
            rw [HS6.out]
            exact ⟨rfl, fun e => absurd (show (6 : Int) = 0 from e) (by decide), HG.out⟩
        · have HAD := hid had
          have HSS := hid (stbad (l := l) (om := om) (m := m) (x := (⟨8, xn, xa, xb, xc, xd, vl, xp⟩ : El)) rfl HAD.out)
          go_wp2_with (go_at_call 58; refine (radm_any (⟨8, xn, xa, xb, xc, xd, vl, xp⟩ : El) om _ HXOK.out).mono ?_; rintro e wc ⟨v, rfl, hb, y1, y2, er, rfl, hz⟩; have HER := hid (congrArg Prod.snd hz); have hne : (er != 0) = true := (by have := HER.out; have h2 := HAD.out; rw [bne_iff_ne]; intro h0; exact h2 (this.symm.trans h0)); have HGn := hid (HG.out.trans (Grown2.of_below (g := g) (h := h) hb)); clear HSH HBE HG hb hz had e0 e1 e2 e3 e4 e5 e6 e7)
          (try rw [Exit.noGoto_ret])
          go_ret
          rw [HSS.out]
          exact ⟨by rw [show er = _ from HER.out]; rfl, fun e => absurd e HAD.out, HGn.out⟩
end Go.Proofs.Ytejooaeppcjhjaa
