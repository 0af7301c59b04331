/- StampMatrix walked: of every net that may be, and every omega, the package and the reference give the same matrix, the same fault and the same names; each answer is new memory. -/
import Derived.Test.YtejooaeppcjhjaaMtx2
import Derived.Test.YtejooaeppcjhjaaRMtx
import Derived.Test.YtejooaeppcjhjaaMTexts
import Derived.Test.YtejooaeppcjhjaaTexts2
import Derived.Test.YtejooaeppcjhjaaApartNumD
import Derived.Test.YtejooaeppcjhjaaNRows
namespace Go.Proofs.Ytejooaeppcjhjaa
open Go.RowKit

/-- As RetMx, its parts told one by one. -/
def RetMz (n : Nat) (zs : List Cx) (ea eb : Int) (w : World) (e : Ending) (w' : World) : Prop :=
  ∃ (v : Value) (xs : List Cx), e = .returned (.tuple #[.agg #[.int .i64 n, .int .i64 n, v], .agg #[.int .i64 ea, .int .i64 eb]]) ∧ xs.map ck = zs ∧ w'.ownsRow w.heap.size 72 1 v xs.length (xs.map mkC) ∧ Below w.heap.size w w'
theorem RetMz.of {n : Nat} {zs : List Cx} {ea eb : Int} {w w' : World} {e : Ending} {S : (Nat × List Cx) × (Int × Int)} (hS : S = ((n, zs), (ea, eb))) (h : RetMx S w e w') : RetMz n zs ea eb w e w' := by
  subst hS
  exact h
theorem smatrix_any (p : Value) (l : List El) (om n : Nat) (zs : List Cx) (ea eb : Int) (w : World) (hp : NN w p (nl l)) (hok : ∀ e ∈ l, e.Ok) (hS : matS (noNet p) (nl l) om = ((n, zs), (ea, eb))) :
    Calls Try.prog 8 #[p, .float .f64 om] w (RetMz n zs ea eb w) := by
  obtain ⟨h1, h2, h3⟩ := nl_ok hok
  by_cases hb : noNet p = true ∨ angE om ≠ 0
  · exact (smatrix_bad p (nl l) om w hp h3 hb).mono fun _ _ h => RetMz.of hS h
  · have hq : noNet p = false := by simpa using fun h => hb (.inl h)
    have ha : angE om = 0 := Decidable.byContradiction fun h => hb (.inr h)
    rw [hq] at hS
    exact (smatrix_good p (nl l) om w hp h3 hq ha (fun x hx => (h2 x hx).1) (fun x hx => check_isK (h2 x hx).2) (by omega) (nl_size l).2).mono fun _ _ h => RetMz.of hS h
theorem rmatrix_any (q : Value) (l : List El) (om n : Nat) (zs : List Cx) (ea eb : Int) (w : World) (hp : RN w q (nl l)) (hok : ∀ e ∈ l, e.Ok) (hS : matS (noNet q) (nl l) om = ((n, zs), (ea, eb))) :
    Calls Try.prog 10 #[q, .float .f64 om] w (RetMz n zs ea eb w) := by
  obtain ⟨h1, h2, h3⟩ := nl_ok hok
  by_cases hb : noNet q = true ∨ angE om ≠ 0
  · exact (rmatrix_bad q (nl l) om w hp hb).mono fun _ _ h => RetMz.of hS h
  · have hq : noNet q = false := by simpa using fun h => hb (.inl h)
    have ha : angE om = 0 := Decidable.byContradiction fun h => hb (.inr h)
    rw [hq] at hS
    exact (rmatrix_good q (nl l) om w hp hq ha (fun x hx => (h2 x hx).1) (fun x hx => check_isK (h2 x hx).2) (by omega) (nl_size l).2).mono fun _ _ h => RetMz.of hS h
theorem matS_len (b : Bool) (l : List El) (om : Nat) : (matS b l om).1.2.length ≤ szL l * szL l := by
  unfold matS
  split
  · simp
  · split
    · simp
    · split
      · simp
      · simp
theorem own_same {w w' : World} {B e s n : Nat} {v : Value} {xs : List Value} (h : w.ownsRow B e s v n xs) (hb : ∀ g, v.ownBlock = some g → w'.heap[g]? = w.heap[g]?) : w'.ownsRow B e s v n xs :=
  ⟨h.1, h.2.imp id fun ⟨g, cap, cur, hv, hB, hg, r⟩ => ⟨g, cap, cur, hv, hB, (hb g (by rw [hv]; rfl)).trans hg, r⟩⟩
set_option maxRecDepth 100000 in
set_option maxHeartbeats 1000000 in
theorem samematrix_ok (r c : Int) (v u : Value) (l m : List Cx) (w : World) (hv : IsSl w 1 v l.length (l.map mkC)) (hu : IsSl w 1 u m.length (m.map mkC)) (hl : l.length ≤ 140737488355328) (hm : m.length ≤ 140737488355328)
    (h : l.map ck = m.map ck) :
    Calls Try.prog 11 #[.agg #[.int .i64 r, .int .i64 c, v], .agg #[.int .i64 r, .int .i64 c, u]] w (fun e w' => e = .returned (.bool true) ∧ Below w.heap.size w w') := by
  obtain ⟨a, k0, rfl⟩ := hv.form
  obtain ⟨a2, k2, rfl⟩ := hu.form
  have hb2 := ((Below.refl _ w).alloc (Nat.le_refl _) (.cells #[.int .i64 r, .int .i64 c, .slice a l.length k0] 39)).alloc (by simp) (.cells #[.int .i64 r, .int .i64 c, .slice a2 m.length k2] 39)
  have HV := hid (hv.below hb2 (Nat.le_refl _))
  have HU := hid (hu.below hb2 (Nat.le_refl _))
  have HB := hid hb2
  have H := hid h
  clear hv hu hb2 h
  go_enter Try.func11, Try.ntmps11
  go_wp2_with fail
  refine (samenumbers_any _ _ l m _ HV.out HU.out hl hm).mono ?_
  rintro e w' ⟨v1, n1, rfl, rfl, rfl⟩
  rw [H.out, beq_self_eq_true]
  go_wp2_with fail
  go_ret
  exact ⟨rfl, below_n HB.out _⟩
theorem sametexts_ok (v u : Value) (l : List ByteArray) (w : World) (hv : IsSl w 1 v l.length (sts l)) (hu : IsSl w 1 u l.length (sts l)) (hl : l.length ≤ 140737488355328) :
    Calls Try.prog 12 #[v, u] w (fun e w' => e = .returned (.bool true) ∧ Below w.heap.size w w') :=
  (sametexts_true v u l w hv hu hl).mono fun _ _ ⟨v, n, h1, h2, h3⟩ => ⟨by rw [h1, h3], by rw [h2]; exact below_n (Below.refl _ _) n⟩
theorem snames_ok (p : Value) (l : List El) (ns : List ByteArray) (w : World) (hp : NN w p l) (hl : l.length ≤ 100000) (hn : nds l ++ brs l = ns) :
    Calls Try.prog 9 #[p] w (RetRow 9 1 ns.length (fun xs => xs = sts ns) w) := hn ▸ snames_any p l w hp hl
theorem rnames_ok (p : Value) (l : List El) (ns : List ByteArray) (w : World) (hp : RN w p l) (hl : l.length ≤ 100000) (hn : nds l ++ brs l = ns) :
    Calls Try.prog 13 #[p] w (RetRow 9 1 ns.length (fun xs => xs = sts ns) w) := hn ▸ rnamesl_any p l w hp hl
def pairV (a b : Value) (j : Nat) : Value := if j = 0 then a else b
theorem two {p : Nat → Prop} (h0 : p 0) (h1 : p 1) : ∀ j, j < 2 → p j := fun j hj => by
  rcases (show j = 0 ∨ j = 1 by omega) with rfl | rfl <;> assumption
theorem two_ne {a b : Value} (h : Dis a b) : ∀ j k, j < 2 → k < 2 → j ≠ k → Dis (pairV a b j) (pairV a b k) := fun j k hj hk hjk => by
  rcases (show (j = 0 ∧ k = 1) ∨ (j = 1 ∧ k = 0) by omega) with ⟨rfl, rfl⟩ | ⟨rfl, rfl⟩
  · exact h
  · exact Dis.symm h
set_option maxRecDepth 100000 in
set_option maxHeartbeats 4000000 in
theorem smat_walk (v : Value) (l : List El) (om : Nat) (w : World) (hv : InSl w 8 v l.length (l.flatMap ez)) (hle : l.length * 104 ≤ 140737488351232) (hok : ∀ e ∈ l, e.Ok) :
    Calls Try.prog 3 #[v, .int .u64 om] w fun e w' => e = .returned (.bool true) ∧ Below w.heap.size w w' := by
  obtain ⟨a0, c0, rfl⟩ := hv.form
  have HV := hid hv
  have HBW := hid (Below.refl w.heap.size w)
  have HOK := hid hok
  have HLE := hid hle
  have hl256 : (nl l).length ≤ 256 := (nl_ok hok).1
  have HNL := hid (show (nl l).length ≤ 100000 by omega)
  have hfb := frombits_law
  have hnl := nds_len (nl l)
  have hbl := brs_len (nl l)
  obtain ⟨ns, hns⟩ : ∃ ns, nds (nl l) ++ brs (nl l) = ns := ⟨_, rfl⟩
  have HNS := hid hns
  have HNB := hid (show ns.length ≤ 2000 by rw [← hns, List.length_append]; omega)
  clear hv hok hle hl256 hnl hbl hns
  go_enter Try.func3, Try.ntmps3
  go_upto_region 1 with fail
  go_upto_region 2 with (go_at_call 4; refine (elements_any _ l _ HV.out HLE.out).mono ?_; rintro e w1 ⟨vo, xs, rfl, hown, rfl, hb⟩; have HB1 := hid (below_next HBW.out hb); obtain ⟨ao, co, rfl⟩ := (IsSl.of_own hown).form; have HO := hid (IsSl.of_own hown); clear hown; clear hb )
  clear HBW HV
  go_upto_region 3 with (go_at_call 5; refine (nofn_any _ l _ HO.out HOK.out (by have := HLE.out; omega)).mono ?_; rintro e w2 ⟨p, fx, fy, rfl, hnn, hnp, hb⟩; have HO2 := hid (HO.out.below hb (Nat.le_refl _)); have HB2 := hid (below_next HB1.out hb); have HN := hid hnn; have HNP := hid hnp; clear hnp; clear hb hnn)
  clear HO HB1
  have HO3 := hid (HO2.out.below ((Below.refl w2.heap.size w2).alloc (Nat.le_refl _) (.cells #[.int .i64 fx, .int .i64 fy] 29)) (Nat.le_refl _))
  have HN3 := hid (HN.out.below' ((Below.refl w2.heap.size w2).alloc (Nat.le_refl _) (.cells #[.int .i64 fx, .int .i64 fy] 29)))
  have HB3 := hid (below_next HB2.out ((Below.refl w2.heap.size w2).alloc (Nat.le_refl _) (.cells #[.int .i64 fx, .int .i64 fy] 29)))
  clear HO2 HN HB2
  generalize w2.alloc (.cells #[.int .i64 fx, .int .i64 fy] 29) = w3 at *
  go_upto_region 4 with (go_at_call 6; refine (rofn_any _ l _ HO3.out HOK.out (by have := HLE.out; omega)).mono ?_; rintro e w4 ⟨q, gx, gy, rfl, hnn, hnq, hb⟩; have HN4 := hid (HN3.out.below' hb); have HB4 := hid (below_next HB3.out hb); have HR := hid hnn; have HNQ := hid hnq; clear hnq; clear hb hnn)
  clear HN3 HB3 HO3
  have HN5 := hid (HN4.out.below' ((Below.refl w4.heap.size w4).alloc (Nat.le_refl _) (.cells #[.int .i64 gx, .int .i64 gy] 29)))
  have HR5 := hid (HR.out.below ((Below.refl w4.heap.size w4).alloc (Nat.le_refl _) (.cells #[.int .i64 gx, .int .i64 gy] 29)) (Nat.le_refl _))
  have HB5 := hid (below_next HB4.out ((Below.refl w4.heap.size w4).alloc (Nat.le_refl _) (.cells #[.int .i64 gx, .int .i64 gy] 29)))
  clear HN4 HR HB4
  generalize w4.alloc (.cells #[.int .i64 gx, .int .i64 gy] 29) = w5 at *
  obtain ⟨pa, rfl, hpa⟩ := nn_form HN5.out
  obtain ⟨qa, rfl, hqa⟩ := rn_form HR5.out
  have hpq : pa.isNone = qa.isNone := by rw [← hpa, ← hqa, HNP.out, HNQ.out]
  have HNQP := hid (HNQ.out.trans HNP.out.symm)
  obtain ⟨⟨⟨n, zs⟩, ⟨ea, eb⟩⟩, hS⟩ : ∃ S, matS (noNet (.pointer pa)) (nl l) om = S := ⟨_, rfl⟩
  have HS := hid hS
  have HSR := hid (show matS (noNet (.pointer qa)) (nl l) om = ((n, zs), (ea, eb)) by rw [HNQP.out]; exact hS)
  have HZL := hid (show zs.length ≤ 4096 by have h1 := matS_len (noNet (.pointer pa)) (nl l) om; rw [hS] at h1; exact Nat.le_trans h1 (Nat.mul_le_mul (nl_size l).2 (nl_size l).2))
  clear hS hpa hqa HNP HNQ HNQP
  go_upto_region 7 with fail
  clear hpq hfb
  have HZa := hid (show w.heap.size ≤ w5.heap.size from HB5.out.size)
  go_upto_region 8 with (go_at_call 8; refine (smatrix_any _ l om n zs ea eb _ HN5.out HOK.out HS.out).mono ?_; rintro e w6 ⟨va, xa, rfl, hx, hown, hb⟩; have HN6 := hid (HN5.out.below' hb); have HR6 := hid (HR5.out.below hb (Nat.le_refl _)); have HB6 := hid (below_next HB5.out hb); have HOa := hid hown; have HXa := hid hx; obtain ⟨aa, ca, rfl⟩ := (IsSl.of_own hown).form; clear hx; clear hb hown)
  clear HN5 HR5 HB5
  have HN7 := hid (HN6.out.below' (below_alloc2 w6 (.cells #[.int .i64 n, .int .i64 n, .slice aa xa.length ca] 39) (.cells #[.int .i64 ea, .int .i64 eb] 29)))
  have HR7 := hid (HR6.out.below (below_alloc2 w6 (.cells #[.int .i64 n, .int .i64 n, .slice aa xa.length ca] 39) (.cells #[.int .i64 ea, .int .i64 eb] 29)) (Nat.le_refl _))
  have HOa7 := hid (own_none HOa.out (grown_of_below (below_alloc2 w6 (.cells #[.int .i64 n, .int .i64 n, .slice aa xa.length ca] 39) (.cells #[.int .i64 ea, .int .i64 eb] 29)) none))
  have HB7 := hid (below_next HB6.out (below_alloc2 w6 (.cells #[.int .i64 n, .int .i64 n, .slice aa xa.length ca] 39) (.cells #[.int .i64 ea, .int .i64 eb] 29)))
  have HMa : Hid (((w6.alloc (.cells #[.int .i64 n, .int .i64 n, .slice aa xa.length ca] 39)).alloc (.cells #[.int .i64 ea, .int .i64 eb] 29)).heap[w6.heap.size]? = some (.cells #[.int .i64 n, .int .i64 n, .slice aa xa.length ca] 39 (0, 0))) := hid ((heap_alloc_old _ _ (by simp)).trans (heap_alloc_new w6 (.cells #[.int .i64 n, .int .i64 n, .slice aa xa.length ca] 39)))
  have HFa : Hid (((w6.alloc (.cells #[.int .i64 n, .int .i64 n, .slice aa xa.length ca] 39)).alloc (.cells #[.int .i64 ea, .int .i64 eb] 29)).heap[w6.heap.size + 1]? = some (.cells #[.int .i64 ea, .int .i64 eb] 29 (0, 0))) := hid (by have h := heap_alloc_new (w6.alloc (.cells #[.int .i64 n, .int .i64 n, .slice aa xa.length ca] 39)) (.cells #[.int .i64 ea, .int .i64 eb] 29); simpa using h)
  clear HN6 HR6 HOa HB6
  generalize (w6.alloc (.cells #[.int .i64 n, .int .i64 n, .slice aa xa.length ca] 39)).alloc (.cells #[.int .i64 ea, .int .i64 eb] 29) = w8 at *
  have HLa := hid (fun g (hg : (Value.slice aa xa.length ca).ownBlock = some g) => (World.ownsRow.lt HOa7.out g hg).2)
  have HZb := hid (show w.heap.size ≤ w8.heap.size from HB7.out.size)
  go_upto_region 9 with (go_at_call 8; refine (smatrix_any _ l om n zs ea eb _ HN7.out HOK.out HS.out).mono ?_; rintro e w9 ⟨vb, xb, rfl, hx, hown, hb⟩; have HN8 := hid (HN7.out.below' hb); have HR8 := hid (HR7.out.below hb (Nat.le_refl _)); have HOa8 := hid (own_none HOa7.out (grown_of_below hb none)); have HMa8 := hid (heap_laterS hb HMa.out); have HFa8 := hid (heap_laterS hb HFa.out); have HB8 := hid (below_next HB7.out hb); have HOb := hid hown; have HXb := hid hx; obtain ⟨ab, cb, rfl⟩ := (IsSl.of_own hown).form; clear hx; clear hb hown)
  clear HN7 HR7 HOa7 HMa HFa HB7
  have HN9 := hid (HN8.out.below' (below_alloc2 w9 (.cells #[.int .i64 n, .int .i64 n, .slice ab xb.length cb] 39) (.cells #[.int .i64 ea, .int .i64 eb] 29)))
  have HR9 := hid (HR8.out.below (below_alloc2 w9 (.cells #[.int .i64 n, .int .i64 n, .slice ab xb.length cb] 39) (.cells #[.int .i64 ea, .int .i64 eb] 29)) (Nat.le_refl _))
  have HOa9 := hid (own_none HOa8.out (grown_of_below (below_alloc2 w9 (.cells #[.int .i64 n, .int .i64 n, .slice ab xb.length cb] 39) (.cells #[.int .i64 ea, .int .i64 eb] 29)) none))
  have HMa9 := hid (heap_laterS (below_alloc2 w9 (.cells #[.int .i64 n, .int .i64 n, .slice ab xb.length cb] 39) (.cells #[.int .i64 ea, .int .i64 eb] 29)) HMa8.out)
  have HFa9 := hid (heap_laterS (below_alloc2 w9 (.cells #[.int .i64 n, .int .i64 n, .slice ab xb.length cb] 39) (.cells #[.int .i64 ea, .int .i64 eb] 29)) HFa8.out)
  have HOb9 := hid (own_none HOb.out (grown_of_below (below_alloc2 w9 (.cells #[.int .i64 n, .int .i64 n, .slice ab xb.length cb] 39) (.cells #[.int .i64 ea, .int .i64 eb] 29)) none))
  have HB9 := hid (below_next HB8.out (below_alloc2 w9 (.cells #[.int .i64 n, .int .i64 n, .slice ab xb.length cb] 39) (.cells #[.int .i64 ea, .int .i64 eb] 29)))
  have HMb : Hid (((w9.alloc (.cells #[.int .i64 n, .int .i64 n, .slice ab xb.length cb] 39)).alloc (.cells #[.int .i64 ea, .int .i64 eb] 29)).heap[w9.heap.size]? = some (.cells #[.int .i64 n, .int .i64 n, .slice ab xb.length cb] 39 (0, 0))) := hid ((heap_alloc_old _ _ (by simp)).trans (heap_alloc_new w9 (.cells #[.int .i64 n, .int .i64 n, .slice ab xb.length cb] 39)))
  have HFb : Hid (((w9.alloc (.cells #[.int .i64 n, .int .i64 n, .slice ab xb.length cb] 39)).alloc (.cells #[.int .i64 ea, .int .i64 eb] 29)).heap[w9.heap.size + 1]? = some (.cells #[.int .i64 ea, .int .i64 eb] 29 (0, 0))) := hid (by have h := heap_alloc_new (w9.alloc (.cells #[.int .i64 n, .int .i64 n, .slice ab xb.length cb] 39)) (.cells #[.int .i64 ea, .int .i64 eb] 29); simpa using h)
  clear HN8 HR8 HOa8 HMa8 HFa8 HOb HB8
  generalize (w9.alloc (.cells #[.int .i64 n, .int .i64 n, .slice ab xb.length cb] 39)).alloc (.cells #[.int .i64 ea, .int .i64 eb] 29) = w11 at *
  have HAB := hid (fun g (hg : (Value.slice ab xb.length cb).ownBlock = some g) => (World.ownsRow.lt HOb9.out g hg).2)
  have HAA := hid (fun g (hg : (Value.slice aa xa.length ca).ownBlock = some g) => (World.ownsRow.lt HOa9.out g hg).2)
  have HZc := hid (show w.heap.size ≤ w11.heap.size from HB9.out.size)
  go_upto_region 10 with (first | (go_at_call 9; refine (snames_ok _ (nl l) ns _ HN10.out HNL.out HNS.out).mono ?_; rintro e w13 ⟨vd, yd, rfl, hown, rfl, hb⟩; have HN11 := hid (HN10.out.below' hb); have HR11 := hid (HR10.out.below hb (Nat.le_refl _)); have HOa11 := hid (own_none HOa10.out (grown_of_below hb none)); have HMa11 := hid (heap_laterS hb HMa10.out); have HFa11 := hid (heap_laterS hb HFa10.out); have HOb11 := hid (own_none HOb10.out (grown_of_below hb none)); have HMb11 := hid (heap_laterS hb HMb10.out); have HFb11 := hid (heap_laterS hb HFb10.out); have HOc11 := hid (own_none HOc.out (grown_of_below hb none)); have HB11 := hid (below_next HB10.out hb); have HOd := hid hown; obtain ⟨ad, cd, rfl⟩ := (IsSl.of_own hown).form; clear hb hown) | (go_at_call 9; refine (snames_ok _ (nl l) ns _ HN9.out HNL.out HNS.out).mono ?_; rintro e w12 ⟨vc, yc, rfl, hown, rfl, hb⟩; have HN10 := hid (HN9.out.below' hb); have HR10 := hid (HR9.out.below hb (Nat.le_refl _)); have HOa10 := hid (own_none HOa9.out (grown_of_below hb none)); have HMa10 := hid (heap_laterS hb HMa9.out); have HFa10 := hid (heap_laterS hb HFa9.out); have HOb10 := hid (own_none HOb9.out (grown_of_below hb none)); have HMb10 := hid (heap_laterS hb HMb.out); have HFb10 := hid (heap_laterS hb HFb.out); have HB10 := hid (below_next HB9.out hb); have HOc := hid hown; obtain ⟨ac, cc, rfl⟩ := (IsSl.of_own hown).form; have HLC := hid (fun g (hg : (Value.slice ac ns.length cc).ownBlock = some g) => (World.ownsRow.lt hown g hg).2); have HZN := hid hb.size; clear hb hown))
  clear HN9 HR9 HOa9 HMa9 HFa9 HOb9 HMb HFb HB9 HN10 HR10 HOa10 HMa10 HFa10 HOb10 HMb10 HFb10 HOc HB10
  have HZw := hid (show w.heap.size ≤ w13.heap.size from HB11.out.size)
  go_upto_region 11 with (go_at_call 10; refine (rmatrix_any _ l om n zs ea eb _ HR11.out HOK.out HSR.out).mono ?_; rintro e w14 ⟨vw, xw, rfl, hx, hown, hb⟩; have HN12 := hid (HN11.out.below' hb); have HR12 := hid (HR11.out.below hb (Nat.le_refl _)); have HOa12 := hid (own_none HOa11.out (grown_of_below hb none)); have HMa12 := hid (heap_laterS hb HMa11.out); have HFa12 := hid (heap_laterS hb HFa11.out); have HOb12 := hid (own_none HOb11.out (grown_of_below hb none)); have HMb12 := hid (heap_laterS hb HMb11.out); have HFb12 := hid (heap_laterS hb HFb11.out); have HOc12 := hid (own_none HOc11.out (grown_of_below hb none)); have HOd12 := hid (own_none HOd.out (grown_of_below hb none)); have HB12 := hid (below_next HB11.out hb); have HOw := hid hown; have HXw := hid hx; obtain ⟨aw, cw, rfl⟩ := (IsSl.of_own hown).form; clear hx; clear hb hown)
  clear HN11 HR11 HOa11 HMa11 HFa11 HOb11 HMb11 HFb11 HOc11 HOd HB11
  have HN13 := hid (HN12.out.below' (below_alloc2 w14 (.cells #[.int .i64 n, .int .i64 n, .slice aw xw.length cw] 39) (.cells #[.int .i64 ea, .int .i64 eb] 29)))
  have HR13 := hid (HR12.out.below (below_alloc2 w14 (.cells #[.int .i64 n, .int .i64 n, .slice aw xw.length cw] 39) (.cells #[.int .i64 ea, .int .i64 eb] 29)) (Nat.le_refl _))
  have HOa13 := hid (own_none HOa12.out (grown_of_below (below_alloc2 w14 (.cells #[.int .i64 n, .int .i64 n, .slice aw xw.length cw] 39) (.cells #[.int .i64 ea, .int .i64 eb] 29)) none))
  have HMa13 := hid (heap_laterS (below_alloc2 w14 (.cells #[.int .i64 n, .int .i64 n, .slice aw xw.length cw] 39) (.cells #[.int .i64 ea, .int .i64 eb] 29)) HMa12.out)
  have HFa13 := hid (heap_laterS (below_alloc2 w14 (.cells #[.int .i64 n, .int .i64 n, .slice aw xw.length cw] 39) (.cells #[.int .i64 ea, .int .i64 eb] 29)) HFa12.out)
  have HOb13 := hid (own_none HOb12.out (grown_of_below (below_alloc2 w14 (.cells #[.int .i64 n, .int .i64 n, .slice aw xw.length cw] 39) (.cells #[.int .i64 ea, .int .i64 eb] 29)) none))
  have HMb13 := hid (heap_laterS (below_alloc2 w14 (.cells #[.int .i64 n, .int .i64 n, .slice aw xw.length cw] 39) (.cells #[.int .i64 ea, .int .i64 eb] 29)) HMb12.out)
  have HFb13 := hid (heap_laterS (below_alloc2 w14 (.cells #[.int .i64 n, .int .i64 n, .slice aw xw.length cw] 39) (.cells #[.int .i64 ea, .int .i64 eb] 29)) HFb12.out)
  have HOc13 := hid (own_none HOc12.out (grown_of_below (below_alloc2 w14 (.cells #[.int .i64 n, .int .i64 n, .slice aw xw.length cw] 39) (.cells #[.int .i64 ea, .int .i64 eb] 29)) none))
  have HOd13 := hid (own_none HOd12.out (grown_of_below (below_alloc2 w14 (.cells #[.int .i64 n, .int .i64 n, .slice aw xw.length cw] 39) (.cells #[.int .i64 ea, .int .i64 eb] 29)) none))
  have HOw13 := hid (own_none HOw.out (grown_of_below (below_alloc2 w14 (.cells #[.int .i64 n, .int .i64 n, .slice aw xw.length cw] 39) (.cells #[.int .i64 ea, .int .i64 eb] 29)) none))
  have HB13 := hid (below_next HB12.out (below_alloc2 w14 (.cells #[.int .i64 n, .int .i64 n, .slice aw xw.length cw] 39) (.cells #[.int .i64 ea, .int .i64 eb] 29)))
  have HMw : Hid (((w14.alloc (.cells #[.int .i64 n, .int .i64 n, .slice aw xw.length cw] 39)).alloc (.cells #[.int .i64 ea, .int .i64 eb] 29)).heap[w14.heap.size]? = some (.cells #[.int .i64 n, .int .i64 n, .slice aw xw.length cw] 39 (0, 0))) := hid ((heap_alloc_old _ _ (by simp)).trans (heap_alloc_new w14 (.cells #[.int .i64 n, .int .i64 n, .slice aw xw.length cw] 39)))
  have HFw : Hid (((w14.alloc (.cells #[.int .i64 n, .int .i64 n, .slice aw xw.length cw] 39)).alloc (.cells #[.int .i64 ea, .int .i64 eb] 29)).heap[w14.heap.size + 1]? = some (.cells #[.int .i64 ea, .int .i64 eb] 29 (0, 0))) := hid (by have h := heap_alloc_new (w14.alloc (.cells #[.int .i64 n, .int .i64 n, .slice aw xw.length cw] 39)) (.cells #[.int .i64 ea, .int .i64 eb] 29); simpa using h)
  clear HN12 HR12 HOa12 HMa12 HFa12 HOb12 HMb12 HFb12 HOc12 HOd12 HOw HB12
  generalize (w14.alloc (.cells #[.int .i64 n, .int .i64 n, .slice aw xw.length cw] 39)).alloc (.cells #[.int .i64 ea, .int .i64 eb] 29) = w16 at *
  have hsc := block_cells HMa13.out
  have ma0 := hsc.1 0 _ rfl
  have ma1 := hsc.1 1 _ rfl
  have ma2 := hsc.1 2 _ rfl
  clear hsc
  have hsc := block_cells HMb13.out
  have mb0 := hsc.1 0 _ rfl
  have mb1 := hsc.1 1 _ rfl
  have mb2 := hsc.1 2 _ rfl
  clear hsc
  have hsc := block_cells HMw.out
  have mw0 := hsc.1 0 _ rfl
  have mw1 := hsc.1 1 _ rfl
  have mw2 := hsc.1 2 _ rfl
  clear hsc
  have hsc := block_cells HFa13.out
  have fa0 := hsc.1 0 _ rfl
  have fa1 := hsc.1 1 _ rfl
  clear hsc
  have hsc := block_cells HFb13.out
  have fb0 := hsc.1 0 _ rfl
  have fb1 := hsc.1 1 _ rfl
  clear hsc
  have hsc := block_cells HFw.out
  have fw0 := hsc.1 0 _ rfl
  have fw1 := hsc.1 1 _ rfl
  clear hsc
  go_upto_region 13 with (first | (go_at_call_of 11 (Value.agg #[.int .i64 n, .int .i64 n, .slice aa xa.length ca]); refine (samematrix_ok n n _ _ xa xw _ (IsSl.of_own HOa13.out) (IsSl.of_own HOw13.out) (by have := HZL.out; have h := congrArg List.length HXa.out; rw [List.length_map] at h; omega) (by have := HZL.out; have h := congrArg List.length HXw.out; rw [List.length_map] at h; omega) (HXa.out.trans HXw.out.symm)).mono ?_; rintro e w17 ⟨rfl, hb⟩; have HN14 := hid (HN13.out.below' hb); have HR14 := hid (HR13.out.below hb (Nat.le_refl _)); have HOa14 := hid (own_none HOa13.out (grown_of_below hb none)); have HMa14 := hid (heap_laterS hb HMa13.out); have HFa14 := hid (heap_laterS hb HFa13.out); have HOb14 := hid (own_none HOb13.out (grown_of_below hb none)); have HMb14 := hid (heap_laterS hb HMb13.out); have HFb14 := hid (heap_laterS hb HFb13.out); have HOc14 := hid (own_none HOc13.out (grown_of_below hb none)); have HOd14 := hid (own_none HOd13.out (grown_of_below hb none)); have HOw14 := hid (own_none HOw13.out (grown_of_below hb none)); have HMw14 := hid (heap_laterS hb HMw.out); have HFw14 := hid (heap_laterS hb HFw.out); have HB14 := hid (below_next HB13.out hb); clear ma0 ma1 ma2 mb0 mb1 mb2 mw0 mw1 mw2 fa0 fa1 fb0 fb1 fw0 fw1; have hsc := block_cells HMb14.out; have mb0 := hsc.1 0 _ rfl; have mb1 := hsc.1 1 _ rfl; have mb2 := hsc.1 2 _ rfl; clear hsc; have hsc := block_cells HMw14.out; have mw0 := hsc.1 0 _ rfl; have mw1 := hsc.1 1 _ rfl; have mw2 := hsc.1 2 _ rfl; clear hsc; clear hb ) | (go_at_call_of 11 (Value.agg #[.int .i64 n, .int .i64 n, .slice ab xb.length cb]); refine (samematrix_ok n n _ _ xb xw _ (IsSl.of_own HOb14.out) (IsSl.of_own HOw14.out) (by have := HZL.out; have h := congrArg List.length HXb.out; rw [List.length_map] at h; omega) (by have := HZL.out; have h := congrArg List.length HXw.out; rw [List.length_map] at h; omega) (HXb.out.trans HXw.out.symm)).mono ?_; rintro e w18 ⟨rfl, hb⟩; have HN15 := hid (HN14.out.below' hb); have HR15 := hid (HR14.out.below hb (Nat.le_refl _)); have HOa15 := hid (own_none HOa14.out (grown_of_below hb none)); have HMa15 := hid (heap_laterS hb HMa14.out); have HFa15 := hid (heap_laterS hb HFa14.out); have HOb15 := hid (own_none HOb14.out (grown_of_below hb none)); have HMb15 := hid (heap_laterS hb HMb14.out); have HFb15 := hid (heap_laterS hb HFb14.out); have HOc15 := hid (own_none HOc14.out (grown_of_below hb none)); have HOd15 := hid (own_none HOd14.out (grown_of_below hb none)); have HOw15 := hid (own_none HOw14.out (grown_of_below hb none)); have HMw15 := hid (heap_laterS hb HMw14.out); have HFw15 := hid (heap_laterS hb HFw14.out); have HB15 := hid (below_next HB14.out hb); clear mb0 mb1 mb2 mw0 mw1 mw2; clear hb ) | (go_at_call 13; refine (rnames_ok _ (nl l) ns _ HR15.out HNL.out HNS.out).mono ?_; rintro e w19 ⟨ve, ye, rfl, hown, rfl, hb⟩; have HN16 := hid (HN15.out.below' hb); have HR16 := hid (HR15.out.below hb (Nat.le_refl _)); have HOa16 := hid (own_none HOa15.out (grown_of_below hb none)); have HMa16 := hid (heap_laterS hb HMa15.out); have HFa16 := hid (heap_laterS hb HFa15.out); have HOb16 := hid (own_none HOb15.out (grown_of_below hb none)); have HMb16 := hid (heap_laterS hb HMb15.out); have HFb16 := hid (heap_laterS hb HFb15.out); have HOc16 := hid (own_none HOc15.out (grown_of_below hb none)); have HOd16 := hid (own_none HOd15.out (grown_of_below hb none)); have HOw16 := hid (own_none HOw15.out (grown_of_below hb none)); have HMw16 := hid (heap_laterS hb HMw15.out); have HFw16 := hid (heap_laterS hb HFw15.out); have HB16 := hid (below_next HB15.out hb); have HOe := hid hown; obtain ⟨ae, ce, rfl⟩ := (IsSl.of_own hown).form; clear hb hown) | (go_at_call_of 12 (Value.slice ad ns.length cd); refine (sametexts_ok _ _ ns _ (IsSl.of_own HOd17.out) (IsSl.of_own HOc17.out) (by have := HNB.out; omega)).mono ?_; rintro e w21 ⟨rfl, hb⟩; have HN18 := hid (HN17.out.below' hb); have HR18 := hid (HR17.out.below hb (Nat.le_refl _)); have HOa18 := hid (own_none HOa17.out (grown_of_below hb none)); have HMa18 := hid (heap_laterS hb HMa17.out); have HFa18 := hid (heap_laterS hb HFa17.out); have HOb18 := hid (own_none HOb17.out (grown_of_below hb none)); have HMb18 := hid (heap_laterS hb HMb17.out); have HFb18 := hid (heap_laterS hb HFb17.out); have HOc18 := hid (own_none HOc17.out (grown_of_below hb none)); have HOd18 := hid (own_none HOd17.out (grown_of_below hb none)); have HOw18 := hid (own_none HOw17.out (grown_of_below hb none)); have HMw18 := hid (heap_laterS hb HMw17.out); have HFw18 := hid (heap_laterS hb HFw17.out); have HOe18 := hid (own_none HOe17.out (grown_of_below hb none)); have HB18 := hid (below_next HB17.out hb); clear hb ) | (go_at_call_of 12 (Value.slice ac ns.length cc); refine (sametexts_ok _ _ ns _ (IsSl.of_own HOc16.out) (IsSl.of_own HOe.out) (by have := HNB.out; omega)).mono ?_; rintro e w20 ⟨rfl, hb⟩; have HN17 := hid (HN16.out.below' hb); have HR17 := hid (HR16.out.below hb (Nat.le_refl _)); have HOa17 := hid (own_none HOa16.out (grown_of_below hb none)); have HMa17 := hid (heap_laterS hb HMa16.out); have HFa17 := hid (heap_laterS hb HFa16.out); have HOb17 := hid (own_none HOb16.out (grown_of_below hb none)); have HMb17 := hid (heap_laterS hb HMb16.out); have HFb17 := hid (heap_laterS hb HFb16.out); have HOc17 := hid (own_none HOc16.out (grown_of_below hb none)); have HOd17 := hid (own_none HOd16.out (grown_of_below hb none)); have HOw17 := hid (own_none HOw16.out (grown_of_below hb none)); have HMw17 := hid (heap_laterS hb HMw16.out); have HFw17 := hid (heap_laterS hb HFw16.out); have HOe17 := hid (own_none HOe.out (grown_of_below hb none)); have HB17 := hid (below_next HB16.out hb); clear hb ))
  clear HN13 HR13 HOa13 HMa13 HFa13 HOb13 HMb13 HFb13 HOc13 HOd13 HOw13 HMw HFw HB13 HN14 HR14 HOa14 HMa14 HFa14 HOb14 HMb14 HFb14 HOc14 HOd14 HOw14 HMw14 HFw14 HB14 HN15 HR15 HOa15 HMa15 HFa15 HOb15 HMb15 HFb15 HOc15 HOd15 HOw15 HMw15 HFw15 HB15 HN16 HR16 HOa16 HMa16 HFa16 HOb16 HMb16 HFb16 HOc16 HOd16 HOw16 HMw16 HFw16 HOe HB16 HN17 HR17 HOa17 HMa17 HFa17 HOb17 HMb17 HFb17 HOc17 HOd17 HOw17 HMw17 HFw17 HOe17 HB17
  have hda : Dis (Value.slice aa xa.length ca) (Value.slice ab xb.length cb) := fun g e e2 => by have h1 := HLa.out g e; have h2 := (World.ownsRow.lt HOb18.out g e2).1; omega
  have hdc : Dis (Value.slice ac ns.length cc) (Value.slice ad ns.length cd) := fun g e e2 => by have h1 := HLC.out g e; have h2 := (World.ownsRow.lt HOd18.out g e2).1; omega
  obtain ⟨D, hD⟩ : ∃ D : Nat → Prop, D = fun k => (Value.slice ac ns.length cc).ownBlock = some k ∨ (Value.slice ad ns.length cd).ownBlock = some k := ⟨_, rfl⟩
  have HD := hid hD
  clear hD
  have hDw : ∀ k, D k → w11.heap.size ≤ k ∧ k < w21.heap.size := fun k hk => by rw [HD.out] at hk; rcases hk with hk | hk; exact World.ownsRow.lt HOc18.out k hk; exact ⟨Nat.le_trans HZN.out (World.ownsRow.lt HOd18.out k hk).1, (World.ownsRow.lt HOd18.out k hk).2⟩
  have hfm := famN (mk := mkC) (ST := 37) (B := w.heap.size) (m := 2) (V := pairV (Value.slice aa xa.length ca) (Value.slice ab xb.length cb)) (N := fun j => if j = 0 then xa.length else xb.length) (L := fun j => if j = 0 then xa else xb) (w0 := w21) (w1 := w21) (Below.refl _ _) HB18.out.size (two (p := fun j => w21.ownsRow w.heap.size 72 1 (pairV (Value.slice aa xa.length ca) (Value.slice ab xb.length cb) j) (if j = 0 then xa.length else xb.length) ((if j = 0 then xa else xb).map mkC)) (own_base HOa18.out HZa.out) (own_base HOb18.out HZb.out)) (two_ne hda)
  have HSEP : Hid (SepK D 2 (.slice (some ⟨w21.heap.size, 0, none⟩) 2 2) (pairV (Value.slice aa xa.length ca) (Value.slice ab xb.length cb))) := hid ⟨hfm.1, two (p := fun k => ∀ g, (pairV (Value.slice aa xa.length ca) (Value.slice ab xb.length cb) k).ownBlock = some g → ¬ D g) (fun g e h => by have h1 := HAA.out g e; have h2 := (hDw g h).1; omega) (fun g e h => by have h1 := HAB.out g e; have h2 := (hDw g h).1; omega)⟩
  have HFAM : Hid (FamK D mkC 72 w.heap.size 2 (.slice (some ⟨w21.heap.size, 0, none⟩) 2 2) (pairV (Value.slice aa xa.length ca) (Value.slice ab xb.length cb)) (fun j => if j = 0 then xa.length else xb.length) (fun j => if j = 0 then xa else xb) w21 (w21.alloc (.cells #[.slice aa xa.length ca, .slice ab xb.length cb] 37))) := hid ⟨hfm.2, ⟨fun k hk => heap_alloc_old w21 _ (hDw k hk).2, fun k hk => by have := (hDw k hk).2; simp; omega⟩⟩
  have HNA := hid (two (p := fun j => ((if j = 0 then xa.length else xb.length) + 6) * 16 ≤ 140737488355328) (by have := HZL.out; have h := congrArg List.length HXa.out; rw [List.length_map] at h; show (xa.length + 6) * 16 ≤ _; omega) (by have := HZL.out; have h := congrArg List.length HXb.out; rw [List.length_map] at h; show (xb.length + 6) * 16 ≤ _; omega))
  clear hfm hda
  have hsc := block_cells HMa18.out
  have ma0 := hsc.1 0 _ rfl
  have ma1 := hsc.1 1 _ rfl
  have ma2 := hsc.1 2 _ rfl
  clear hsc
  have hsc := block_cells HMb18.out
  have mb0 := hsc.1 0 _ rfl
  have mb1 := hsc.1 1 _ rfl
  have mb2 := hsc.1 2 _ rfl
  clear hsc
  have HDC := hid hdc
  clear hdc hDw
  go_wp2_with (first | (go_at_call 14; refine (apartnumbersD_any D w.heap.size 2 _ _ _ _ _ w21 (by omega) HNA.out HSEP.out HFAM.out).mono ?_; rintro e wA ⟨rfl, hbA, hkA⟩; have HBA := hid (HB18.out.trans hbA); have HCA := hid (own_same HOc18.out (fun g hg => hkA g (by rw [HD.out]; exact .inl hg))); have HDA := hid (own_same HOd18.out (fun g hg => hkA g (by rw [HD.out]; exact .inr hg))); have HFT := hid (famN (mk := Value.string) (ST := 42) (B := w.heap.size) (m := 2) (V := pairV (Value.slice ac ns.length cc) (Value.slice ad ns.length cd)) (N := fun _ => ns.length) (L := fun _ => ns) (w0 := wA) (w1 := wA) (Below.refl _ _) HBA.out.size (two (p := fun j => wA.ownsRow w.heap.size 9 1 (pairV (Value.slice ac ns.length cc) (Value.slice ad ns.length cd) j) ns.length (ns.map Value.string)) (own_base HCA.out HZc.out) (own_base HDA.out (Nat.le_trans HZc.out HZN.out))) (two_ne HDC.out)); clear hbA hkA) | (go_at_call 15; refine (aparttexts_any w.heap.size 2 _ (pairV (Value.slice ac ns.length cc) (Value.slice ad ns.length cd)) (fun _ => ns.length) (fun _ => ns) _ wA (by omega) (fun _ _ => by have := HNB.out; show (ns.length + 6) * 16 ≤ _; omega) HFT.out.1 HFT.out.2).mono ?_; rintro e wB ⟨rfl, hbB⟩))
  (try rw [Exit.noGoto_ret])
  go_ret
  exact ⟨rfl, HBA.out.trans hbB⟩
end Go.Proofs.Ytejooaeppcjhjaa
