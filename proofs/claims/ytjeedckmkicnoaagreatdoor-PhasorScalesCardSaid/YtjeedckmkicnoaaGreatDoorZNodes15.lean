/- a part of the proof of the last text -/
import Derived.Test.YtjeedckmkicnoaaGreatDoorZRef15
namespace Go.Proofs.YtjeedckmkicnoaaGreatDoor
set_option linter.all false
set_option maxHeartbeats 4000000
set_option maxRecDepth 100000
open Go.RowKit
/-- Is it on the list? Is it no node's name? -/
def has (l : List ByteArray) (s : ByteArray) : Bool := l.any fun t => t.toList == s.toList
def gnd (s : ByteArray) : Bool := (s.toList == []) || (s.toList == [48])
def nd1 (acc : List ByteArray) (s : ByteArray) : List ByteArray := if (gnd s || has acc s) = true then acc else acc ++ [s]
def fr (e : El) : List ByteArray := [e.a, e.b, e.c, e.d]
def nd4 (acc : List ByteArray) (e : El) : List ByteArray := (fr e).foldl nd1 acc
def nds (l : List El) : List ByteArray := l.foldl nd4 []
theorem nd1_len (acc : List ByteArray) (s : ByteArray) : (nd1 acc s).length ≤ acc.length + 1 := by
  unfold nd1
  split <;> simp
theorem fold_len : ∀ (l acc : List ByteArray), (l.foldl nd1 acc).length ≤ acc.length + l.length
  | [], acc => by simp
  | s :: l, acc => by
    rw [List.foldl_cons, List.length_cons]
    have h1 := fold_len l (nd1 acc s)
    have h2 := nd1_len acc s
    omega
theorem nds_len_aux : ∀ (l : List El) (acc : List ByteArray), (l.foldl nd4 acc).length ≤ acc.length + 4 * l.length
  | [], acc => by simp
  | e :: l, acc => by
    rw [List.foldl_cons, List.length_cons]
    have h1 := nds_len_aux l (nd4 acc e)
    have h2 : (nd4 acc e).length ≤ acc.length + 4 := fold_len (fr e) acc
    omega
theorem nds_len (l : List El) : (nds l).length ≤ 4 * l.length := by have := nds_len_aux l []; simpa [nds] using this
theorem nds_take_len (l : List El) (k : Nat) : (nds (l.take k)).length ≤ 4 * k := Nat.le_trans (nds_len _) (by rw [List.length_take]; omega)
theorem nds_snoc {l : List El} {k : Nat} {x : El} (h : l[k]? = some x) : nds (l.take (k + 1)) = nd4 (nds (l.take k)) x := by
  obtain ⟨hk, e⟩ := List.getElem?_eq_some_iff.1 h
  subst e
  unfold nds
  rw [List.take_succ_eq_append_getElem hk, List.foldl_append]
  rfl
theorem fold_snoc {l : List ByteArray} {k : Nat} {s : ByteArray} (h : l[k]? = some s) (acc : List ByteArray) : (l.take (k + 1)).foldl nd1 acc = nd1 ((l.take k).foldl nd1 acc) s := by
  obtain ⟨hk, e⟩ := List.getElem?_eq_some_iff.1 h
  subst e
  rw [List.take_succ_eq_append_getElem hk, List.foldl_append]
  rfl
theorem has_snoc {l : List ByteArray} {k : Nat} {t : ByteArray} (h : l[k]? = some t) (s : ByteArray) : has (l.take (k + 1)) s = (has (l.take k) s || (t.toList == s.toList)) := by
  obtain ⟨hk, e⟩ := List.getElem?_eq_some_iff.1 h
  subst e
  unfold has
  rw [List.take_succ_eq_append_getElem hk, List.any_append]
  simp
theorem sts_get {l : List ByteArray} {k : Nat} {x : Value} (h : (sts l)[k]? = some x) : ∃ s, l[k]? = some s ∧ x = .string s := map_getElem? h
theorem fr_len (e : El) : (fr e).length = 4 := rfl
theorem sl_laid {w : World} {n size : Nat} {cs : Array Value} {t : TypeId} {xs : List Value} (h : cs.toList = xs) (hn : xs.length = n * size) : IsSl (w.alloc (.cells cs t)) size (.slice (some ⟨w.heap.size, 0, none⟩) n n) n xs := by
  subst h
  refine ⟨hn, .inr ⟨_, _, _, rfl, Nat.le_refl _, by simp, fun j hj => ?_⟩⟩
  rw [cell_of_row _ _ _ _ _ _ (heap_alloc_new w _)]
  simp
theorem nd1_yes {acc : List ByteArray} {s : ByteArray} (h : (gnd s || has acc s) = true) : nd1 acc s = acc := by unfold nd1; rw [if_pos h]
theorem nd1_no {acc : List ByteArray} {s : ByteArray} (h : (gnd s || has acc s) = false) : nd1 acc s = acc ++ [s] := by unfold nd1; rw [if_neg (by rw [h]; simp)]
theorem gnd_ways (s : ByteArray) : (s.toList = [] ∧ gnd s = true) ∨ (¬ s.toList = [] ∧ (s.toList == []) = false ∧ s.toList = [48] ∧ gnd s = true) ∨ (¬ s.toList = [] ∧ (s.toList == []) = false ∧ ¬ s.toList = [48] ∧ (s.toList == [48]) = false ∧ gnd s = false) := by
  unfold gnd
  by_cases h1 : s.toList = []
  · simp [h1]
  · by_cases h2 : s.toList = [48] <;> simp [h1, h2]
set_option maxRecDepth 100000 in
set_option maxHeartbeats 2000000 in
theorem rnodes_any (p : Value) (l : List El) (w : World) (hp : RN w p l) (hl : l.length ≤ 100000) :
    Calls Tryz.prog 54 #[p] w (RetRow 9 1 (nds l).length (fun xs => xs = sts (nds l)) w) := by
  obtain ⟨i0, hi, hz0, hz1, hz2⟩ := info_parts infoSt
  obtain ⟨iu, hiu, hu0, hu1, hu2⟩ := info_parts infoEa
  go_enter Tryz.func54, Tryz.ntmps54
  go_wp2_with (go_at_call 11; refine (relements_any _ l _ hp (by omega)).mono ?_; rintro e w0 ⟨v0, xs, rfl, hown0, rfl, hb0⟩; obtain ⟨a, c, rfl⟩ := (IsSl.of_own hown0).form)
  have HI := hid (IsSl.of_own hown0)
  have HB0 := hid hb0
  clear hb0 hown0 hp
  go_loopw [3, 5] (fun out i wr => ∃ k : Nat, k ≤ l.length ∧ i = .int .i64 k ∧ wr.ownsRow w0.heap.size 9 1 out (nds (l.take k)).length (sts (nds (l.take k))) ∧ Below w0.heap.size w0 wr) (fun _ i _ => l.length - (intOf i).toNat)
  case atStart => exact ⟨0, Nat.zero_le _, rfl, World.ownsRow_nil _ _ _ _, Below.refl _ _⟩
  case round =>
    obtain ⟨k, hk, rfl, hown, hb⟩ := hrel
    obtain ⟨wo, rfl⟩ : ∃ wo : World, wo = wr := ⟨_, rfl⟩
    by_cases hlt : k < l.length
    · obtain ⟨g, o, x, hidx, hg, hx, hcell⟩ := IsSl.atF Tryz.underlying37 hiu hu1 ea_len (HI.out.below hb (Nat.le_refl _)) rfl hlt
      have c2 := hcell 2 _ rfl
      have c3 := hcell 3 _ rfl
      have c4 := hcell 4 _ rfl
      have c5 := hcell 5 _ rfl
      have HX := hid hx
      have HB := hid hb
      have HO := hid hown
      have hlen := nds_take_len l k
      clear hx hb hown hcell hg
      go_upto_region 6 with fail
      go_still_tail 20, (by kernel_rfl)
      change wpList _ _ _ _ _ wo.drew
      go_upto_region 8 with fail
      have hF := sl_laid (w := wo) (cs := #[.string x.a, .string x.b, .string x.c, .string x.d]) (t := 9) (n := 4) (size := 1) (xs := sts (fr x)) rfl rfl
      have hne : u3.ownBlock ≠ some wo.heap.size := fun e => Nat.lt_irrefl _ (HO.out.lt _ e).2
      have hO2 : (wo.alloc (.cells #[.string x.a, .string x.b, .string x.c, .string x.d] 9)).drew.ownsRow w0.heap.size 9 1 u3 (nds (l.take k)).length (sts (nds (l.take k))) := by exact HO.out.alloc _
      have hB2 : Below w0.heap.size w0 (wo.alloc (.cells #[.string x.a, .string x.b, .string x.c, .string x.d] 9)).drew := (HB.out.alloc HB.out.size _).drew
      have hF2 : IsSl (wo.alloc (.cells #[.string x.a, .string x.b, .string x.c, .string x.d] 9)).drew 1 (.slice (some ⟨wo.heap.size, 0, none⟩) 4 4) 4 (sts (fr x)) := by exact hF
      clear hF c2 c3 c4 c5
      generalize (wo.alloc (.cells #[.string x.a, .string x.b, .string x.c, .string x.d] 9)).drew = w4 at *
      obtain ⟨gf, hgf⟩ : ∃ gf, wo.heap.size = gf := ⟨_, rfl⟩
      rw [hgf] at hF2 hne
      rw [hgf]
      have HNE := hid hne
      have HO2 := hid hO2
      have HB2 := hid hB2
      have HF2 := hid hF2
      clear hne hO2 hB2 hF2 hgf
      go_loopw [3, 7] (fun out j wi => ∃ q : Nat, q ≤ 4 ∧ j = .int .i64 q ∧ wi.ownsRow w0.heap.size 9 1 out (((fr x).take q).foldl nd1 (nds (l.take k))).length (sts (((fr x).take q).foldl nd1 (nds (l.take k)))) ∧ Below w0.heap.size w0 wi ∧ IsSl wi 1 (.slice (some ⟨gf, 0, none⟩) 4 4) 4 (sts (fr x)) ∧ out.ownBlock ≠ some gf) (fun _ j _ => 4 - (intOf j).toNat)
      case atStart => exact ⟨0, Nat.zero_le _, rfl, HO2.out, HB2.out, HF2.out, HNE.out⟩
      case round =>
        obtain ⟨q, hq, rfl, hown, hb, hF, hne⟩ := hrel
        obtain ⟨wi, rfl⟩ : ∃ wi : World, wi = wr := ⟨_, rfl⟩
        by_cases hlt4 : q < 4
        · obtain ⟨g2, o2, y, hidx2, hg2, hc2, hy⟩ := IsSl.at1 Tryz.underlying86 hi hz1 hF hlt4
          obtain ⟨s, hs, rfl⟩ := sts_get hy
          obtain ⟨a3, c3, rfl⟩ := (IsSl.of_own hown).form
          have hlen2 : (((fr x).take q).foldl nd1 (nds (l.take k))).length ≤ 4 * k + 4 := by
            have h1 := fold_len ((fr x).take q) (nds (l.take k))
            have h2 : ((fr x).take q).length ≤ 4 := by rw [List.length_take]; omega
            omega
          have hfold := fold_snoc hs (nds (l.take k))
          generalize ((fr x).take q).foldl nd1 (nds (l.take k)) = A at *
          have HFOLD := hid hfold
          have HOI := hid hown
          have HBI := hid hb
          have HFI := hid hF
          have HNI := hid hne
          have hd : decide ((q : Int) < 4) = true := by simp; omega
          clear hfold hown hb hF hne hy hs hg2
          go_upto_region 10 with fail
          go_cut [8] (fun t wx => t = .bool (gnd s) ∧ wx = wi)
          case first =>
            rcases gnd_ways s with ⟨h1, h0⟩ | ⟨h1, g1, h2, h0⟩ | ⟨h1, g1, h2, g2', h0⟩
            all_goals
              have H0 := hid h0
              clear h0
              go_wp2_with fail
              go_meet
              exact ⟨by rw [H0.out], rfl⟩
          case rest =>
            obtain ⟨rfl, rfl⟩ := hcut
            go_upto_region 12 with fail
            obtain ⟨wa, rfl⟩ : ∃ wa : World, wa = wc := ⟨_, rfl⟩
            go_loopw [8, 9] (fun t j wj => ∃ r n : Nat, r ≤ A.length ∧ j = .int .i64 r ∧ t = .bool (gnd s || has (A.take r) s) ∧ wj = wa.drewN n) (fun _ j _ => A.length - (intOf j).toNat)
            case atStart => exact ⟨0, 0, Nat.zero_le _, rfl, by simp [has], rfl⟩
            case round =>
              obtain ⟨r, n, hr, rfl, rfl, hw⟩ := hrel
              have hOj : wr.ownsRow w0.heap.size 9 1 (.slice a3 A.length c3) A.length (sts A) := by rw [hw]; exact HOI.out
              have hFj : IsSl wr 1 (.slice (some ⟨gf, 0, none⟩) 4 4) 4 (sts (fr x)) := by rw [hw]; exact HFI.out
              have hcj : wr.cell? ⟨g2, o2, none⟩ = some (.string s) := by rw [hw]; exact hc2
              have hBj : Below w0.heap.size w0 wr := by rw [hw]; exact below_n HBI.out n
              have HW := hid hw
              clear hw hc2
              by_cases hltr : r < A.length
              · obtain ⟨g5, o5, y5, hidx5, hg5, hc5, hy5⟩ := IsSl.at1 Tryz.underlying86 hi hz1 (IsSl.of_own hOj) hltr
                obtain ⟨s5, hs5, rfl⟩ := sts_get hy5
                have HS := hid (has_snoc hs5 s)
                clear hy5 hs5 hg5
                cases hbb : (gnd s || has (A.take r) s)
                · have HBB := hid hbb
                  clear hbb
                  go_upto_region 14 with fail
                  go_quiet (fail)
                  go_wp2
                  go_roundw
                  case rel => exact ⟨r + 1, nq + n, by omega, by go_num, by rw [HS.out, ← Bool.or_assoc, HBB.out]; rfl, by rw [HW.out]; simp [World.drewN_drewN, Nat.add_comm]⟩
                  case measure => simp [intOf]; omega
                · have HBB := hid hbb
                  clear hbb
                  go_upto_region 14 with fail
                  go_quiet (fail)
                  go_wp2
                  go_roundw
                  case rel => exact ⟨r + 1, nq + n, by omega, by go_num, by rw [HS.out, ← Bool.or_assoc, HBB.out]; rfl, by rw [HW.out]; simp [World.drewN_drewN, Nat.add_comm]⟩
                  case measure => simp [intOf]; omega
              · obtain rfl : r = A.length := by omega
                rw [List.take_length]
                cases hbb : (gnd s || has A s)
                · have HBB := hid hbb
                  clear hbb
                  have hown := hOj
                  have hsz := hBj.size
                  go_wp2_with (refine wpList_push2 rfl rfl _ rfl _ _ _ rfl rfl w0.heap.size 9 1 16 i0 (.string ⟨#[]⟩) Tryz.underlying86 hi hz0 hz1 hz2 rfl (by decide) (by decide) _ A.length _ hown hsz (.string s) rfl rfl (by intro u hu; simp [Value.cells] at hu; subst hu; rfl) rfl rfl (by simp [maxLen]; omega) (by omega) ?_; intro g1 cap1 w2 hown1 hg1 htwo)
                  go_roundw
                  case rel =>
                    refine ⟨q + 1, by omega, by go_num, ?_, pushed hBj hOj htwo, ?_, ?_⟩
                    · rw [HFOLD.out, nd1_no HBB.out, List.length_append, sts_snoc]; exact hown1
                    · rcases htwo with ⟨h1, h2⟩ | ⟨_, h2⟩
                      · exact hFj.grown h2 fun g e e2 => HNI.out (h1.trans (e2.trans e.symm))
                      · exact hFj.grown h2 fun g _ e2 => by cases e2
                    · intro e
                      rcases htwo with ⟨h1, _⟩ | ⟨h1, _⟩
                      · exact HNI.out (h1.trans e)
                      · have h2 : g1 = gf := Option.some.inj e
                        have h3 : gf < wr.heap.size := hFj.lt rfl
                        omega
                  case measure => simp [intOf]; omega
                · have HBB := hid hbb
                  clear hbb
                  go_wp2_with fail
                  go_roundw
                  case rel =>
                    refine ⟨q + 1, by omega, by go_num, ?_, hBj, hFj, HNI.out⟩
                    rw [HFOLD.out, nd1_yes HBB.out]; exact hOj
                  case measure => simp [intOf]; omega
        · obtain rfl : q = 4 := by omega
          go_wp2_with fail
          go_roundw
          case rel =>
            refine ⟨k + 1, by omega, by go_num, ?_, hb⟩
            rw [nds_snoc HX.out]; exact hown
          case measure => simp [intOf]; omega
    · go_wp2
      go_ret
      obtain rfl : k = l.length := by omega
      rw [List.take_length] at hown
      exact ⟨_, _, rfl, own_base hown HB0.out.size, rfl, below_next HB0.out hb⟩
end Go.Proofs.YtjeedckmkicnoaaGreatDoor
