/- Nets of lists of elements: what netlist.Of and the reference's Of give, the list cut to none where no net is made. -/
import Derived.Test.YtejooaeppcjhjaaOfN
import Derived.Test.YtejooaeppcjhjaaNumbers2
import Derived.Test.YtejooaeppcjhjaaReg
import Derived.Test.YtejooaeppcjhjaaMMapD
import Derived.Test.YtejooaeppcjhjaaNRead
import Derived.Test.YtejooaeppcjhjaaNodes15
import Derived.Laws.IdiomStrings
import Derived.StillTailTactics
import Derived.Deep.QuietTactic
import Derived.BigQuiet
namespace Go.Proofs.Ytejooaeppcjhjaa

section
open Go.RowKit

def NetOk (l : List El) : Prop := ∀ x ∈ l, x.Ok ∧ checkE x = 0
theorem check_isK {x : El} (h : checkE x = 0) : isK x.kind = true := by
  unfold checkE at h
  split at h
  · assumption
  · cases h
theorem firstBad_none {l : List El} : ∀ {r : List El} {k : Nat}, firstBad l k r = none → ∀ (j : Nat) (e : El), r[j]? = some e → bad1 l (k + j) e = 0
  | [], _, _, j, e, h => by simp at h
  | x :: r, k, hf, j, e, h => by
    unfold firstBad at hf
    split at hf
    · rename_i h0
      cases j with
      | zero => simp at h; subst h; exact h0
      | succ j =>
        have := firstBad_none hf j e (by simpa using h)
        rw [show k + (j + 1) = k + 1 + j by omega]
        exact this
    · cases hf
theorem ofL_true {l : List El} (h : (ofL l).1 = true) : l.length ≤ 256 ∧ ∀ x ∈ l, checkE x = 0 := by
  unfold ofL at h
  split at h
  · cases h
  · rename_i hl
    refine ⟨by omega, fun x hx => ?_⟩
    split at h
    · cases h
    · rename_i hf
      obtain ⟨j, hj⟩ := List.getElem?_of_mem hx
      have := firstBad_none hf j x hj
      unfold bad1 at this
      split at this
      · assumption
      · exact this
theorem no_empty {l : List El} (h : ∀ x ∈ l, checkE x = 0) : has (l.map El.name) ⟨#[]⟩ = false := by
  cases hh : has (l.map El.name) ⟨#[]⟩ with
  | false => rfl
  | true =>
    exfalso
    unfold has at hh
    simp only [List.any_eq_true, List.mem_map] at hh
    obtain ⟨s, ⟨x, hx, rfl⟩, he⟩ := hh
    have h0 := h x hx
    have he2 : x.name.toList = [] := by simpa using he
    have hn : nameK x.name = 0 := by
      rw [(same_iff x.name ⟨#[]⟩).1 (by rw [he2, toList_data]; rfl)]; rfl
    unfold checkE at h0
    unfold nameBad at h0
    rw [hn] at h0
    simp at h0
    split at h0 <;> simp at h0

/-- The elements of the net that is made. -/
def nl (l : List El) : List El := if (ofL l).1 = true then l else []
theorem nl_yes {l : List El} (h : (ofL l).1 = true) : nl l = l := if_pos h
theorem nl_no {l : List El} (h : (ofL l).1 = false) : nl l = [] := if_neg (by rw [h]; simp)
theorem nl_ok {l : List El} (hok : ∀ e ∈ l, e.Ok) : (nl l).length ≤ 256 ∧ NetOk (nl l) ∧ has ((nl l).map El.name) ⟨#[]⟩ = false := by
  cases h : (ofL l).1 with
  | true =>
    rw [nl_yes h]
    obtain ⟨h1, h2⟩ := ofL_true h
    exact ⟨h1, fun x hx => ⟨hok x hx, h2 x hx⟩, no_empty h2⟩
  | false =>
    rw [nl_no h]
    exact ⟨by simp, fun x hx => (by cases hx), rfl⟩
theorem noNet_ptr {p : Value} (h : p ≠ .pointer none) : noNet p = false := by
  unfold noNet
  split
  · exact absurd rfl h
  · rfl
/-- A net was made, or there is none. -/
def RetNet (R : World → Value → List El → Prop) (l : List El) (w : World) (en : Ending) (w' : World) : Prop :=
  ∃ p x y, en = .returned (.tuple #[p, .agg #[.int .i64 x, .int .i64 y]]) ∧ R w' p (nl l) ∧ noNet p = !(ofL l).1 ∧ Below w.heap.size w w'
theorem retnet_of {R : World → Value → List El → Prop} {l : List El} {w w' : World} {en : Ending} (h : RetOf R l w en w') (hn : R w' (.pointer none) []) : RetNet R l w en w' := by
  obtain ⟨p, rfl, h, hb⟩ := h
  rcases h with ⟨h1, rfl⟩ | ⟨h1, h2, h3⟩
  · exact ⟨_, _, _, rfl, by rw [nl_no h1]; exact hn, by rw [h1]; rfl, hb⟩
  · exact ⟨_, _, _, rfl, by rw [nl_yes h1]; exact h3, by rw [h1]; exact noNet_ptr h2, hb⟩
theorem nofn_any (v : Value) (l : List El) (w : World) (hv : IsSl w 8 v l.length (l.flatMap ea)) (hok : ∀ e ∈ l, e.Ok) (hlen : l.length ≤ 140737488355328) :
    Calls Try.prog 5 #[v] w (RetNet NN l w) := (nof_any v l w hv hok hlen).mono fun _ _ h => retnet_of h (.inl ⟨rfl, rfl⟩)
theorem rofn_any (v : Value) (l : List El) (w : World) (hv : IsSl w 8 v l.length (l.flatMap ea)) (hok : ∀ e ∈ l, e.Ok) (hlen : l.length ≤ 140737488355328) :
    Calls Try.prog 6 #[v] w (RetNet RN l w) := (rof_any15 v l w hv hok hlen).mono fun _ _ h => retnet_of h (.inl ⟨rfl, rfl⟩)
theorem ofL_size {l : List El} (h : (ofL l).1 = true) : (nds l).length ≤ 32 ∧ (nds l).length + (brs l).length ≤ 64 := by
  unfold ofL at h
  split at h
  · cases h
  · split at h
    · cases h
    · split at h
      · cases h
      · rename_i hh
        omega
theorem nl_size (l : List El) : (nds (nl l)).length ≤ 32 ∧ szL (nl l) ≤ 64 := by
  cases h : (ofL l).1 with
  | true => rw [nl_yes h]; exact ofL_size h
  | false => rw [nl_no h]; exact ⟨by decide, by decide⟩
theorem nn_form {w : World} {p : Value} {l : List El} (h : NN w p l) : ∃ pa : Option Addr, p = .pointer pa ∧ noNet p = pa.isNone := by
  rcases h with ⟨rfl, _⟩ | ⟨_, g, _, _, _, _, _, _, rfl, _⟩
  · exact ⟨none, rfl, rfl⟩
  · exact ⟨some ⟨g, 0, none⟩, rfl, rfl⟩
theorem rn_form {w : World} {p : Value} {l : List El} (h : RN w p l) : ∃ pa : Option Addr, p = .pointer pa ∧ noNet p = pa.isNone := by
  rcases h with ⟨rfl, _⟩ | ⟨g, _, rfl, _⟩
  · exact ⟨none, rfl, rfl⟩
  · exact ⟨some ⟨g, 0, none⟩, rfl, rfl⟩
theorem samenumbers_true (v u : Value) (l m : List Cx) (w : World) (hv : IsSl w 1 v l.length (l.map mkC)) (hu : IsSl w 1 u m.length (m.map mkC)) (hl : l.length ≤ 140737488355328) (hm : m.length ≤ 140737488355328) (he : l.map ck = m.map ck) :
    Calls Try.prog 32 #[v, u] w fun e wz => e = .returned (.bool true) ∧ Below w.heap.size w wz :=
  (samenumbers_any v u l m w hv hu hl hm).mono fun _ _ ⟨v, n, h1, h2, h3⟩ => ⟨by rw [h1, h3, he]; simp, by rw [h2]; exact below_n (Below.refl _ _) n⟩
end

section
/- Walks of stamp.Names and of the reference's. -/
open Go.RowKit

set_option maxRecDepth 100000 in
set_option maxHeartbeats 1000000 in
theorem snames_any (p : Value) (l : List El) (w : World) (hp : NN w p l) (hl : l.length ≤ 100000) :
    Calls Try.prog 9 #[p] w (RetRow 9 1 (nds l ++ brs l).length (fun xs => xs = sts (nds l ++ brs l)) w) := by
  obtain ⟨i0, hi, hz0, hz1, hz2⟩ := info_parts infoSt
  have hnl := nds_len l
  have hbl := brs_len l
  go_enter Try.func9, Try.ntmps9
  go_wp2_with (first | (go_at_call 25; refine (nnodes_any _ l _ hp hl).mono ?_; rintro e w1 ⟨v1, xs, rfl, hown1, rfl, hb1⟩) | (go_at_call 29; refine (nbranches_any _ l _ (hp.below' hb1) hl).mono ?_; rintro e w2 ⟨v2, xs2, rfl, hown2, rfl, hb2⟩; have hown3 := own_none hown1 (grown_of_below hb2 none); have hsz := (below_step hb1 hb2).size) | (refine wpList_appendAll rfl _ _ _ rfl w.heap.size 9 1 16 i0 (.string ⟨#[]⟩) Try.underlying42 hi hz0 hz1 hz2 rfl (by decide) _ _ _ hown3 hsz _ _ _ (IsSl.of_own hown2) rfl rfl (by intro u hu; exact sts_one hu) (by simp [maxLen]; omega) (by omega) ?_; intro v3 w3 hown4 hgr1 hat1))
  go_ret
  refine ⟨_, _, rfl, ?_, rfl, below_grown (below_step hb1 hb2) hgr1 fun _ e => (hown3.lt _ e).1⟩
  have : sts (nds l ++ brs l) = sts (nds l) ++ sts (brs l) := by simp [sts]
  rw [this, List.length_append]
  exact hown4
set_option maxRecDepth 100000 in
set_option maxHeartbeats 1000000 in
theorem rnamesl_any (p : Value) (l : List El) (w : World) (hp : RN w p l) (hl : l.length ≤ 100000) :
    Calls Try.prog 13 #[p] w (RetRow 9 1 (nds l ++ brs l).length (fun xs => xs = sts (nds l ++ brs l)) w) := by
  obtain ⟨i0, hi, hz0, hz1, hz2⟩ := info_parts infoSt
  have hnl := nds_len l
  have hbl := brs_len l
  go_enter Try.func13, Try.ntmps13
  go_wp2_with (first | (go_at_call 21; refine (rnodes_any _ l _ hp hl).mono ?_; rintro e w1 ⟨v1, xs, rfl, hown1, rfl, hb1⟩) | (go_at_call 33; refine (rbranches_any _ l _ (hp.below hb1 (Nat.le_refl _)) hl).mono ?_; rintro e w2 ⟨v2, xs2, rfl, hown2, rfl, hb2⟩; have hown3 := own_none hown1 (grown_of_below hb2 none); have hsz := (below_step hb1 hb2).size) | (refine wpList_appendAll rfl _ _ _ rfl w.heap.size 9 1 16 i0 (.string ⟨#[]⟩) Try.underlying42 hi hz0 hz1 hz2 rfl (by decide) _ _ _ hown3 hsz _ _ _ (IsSl.of_own hown2) rfl rfl (by intro u hu; exact sts_one hu) (by simp [maxLen]; omega) (by omega) ?_; intro v3 w3 hown4 hgr1 hat1))
  go_ret
  refine ⟨_, _, rfl, ?_, rfl, below_grown (below_step hb1 hb2) hgr1 fun _ e => (hown3.lt _ e).1⟩
  have : sts (nds l ++ brs l) = sts (nds l) ++ sts (brs l) := by simp [sts]
  rw [this, List.length_append]
  exact hown4
end

section
/- gridworkkit's marks of lists of texts, SameTexts. -/
open Go.RowKit

def markTexts (k i : Nat) : ByteArray := (⟨#[109, 97, 114, 107]⟩ : ByteArray) ++ ⟨#[UInt8.ofNat k, UInt8.ofNat i]⟩
set_option maxRecDepth 100000 in
set_option maxHeartbeats 400000 in
theorem marktexts_any (k i : Nat) (w : World) (_hk : k ≤ 1000) (_hi : i ≤ 140737488355335) :
    Calls Try.prog 36 #[.int .i64 k, .int .i64 i] w fun e w' => e = .returned (.string (markTexts k i)) ∧ Below w.heap.size w w' := by
  have hcv : (convert 113 9 (.slice (some ⟨w.heap.size, 0, none⟩) 2 2)).run Try.prog (w.alloc (.cells #[.int .u8 ((k : Int) % 256), .int .u8 ((i : Int) % 256)] 5)) = .ok (.string ⟨#[UInt8.ofNat k, UInt8.ofNat i]⟩) (w.alloc (.cells #[.int .u8 ((k : Int) % 256), .int .u8 ((i : Int) % 256)] 5)) := by
    refine run_convert_bytes_back _ 113 9 5 ⟨w.heap.size, 0, none⟩ 2 [UInt8.ofNat k, UInt8.ofNat i] Try.underlying113 Try.underlying5 Try.underlying9 (fun j hj => ?_)
    have hc := (block_cells (heap_alloc_new w (.cells #[.int .u8 ((k : Int) % 256), .int .u8 ((i : Int) % 256)] 5))).1
    rcases (show j = 0 ∨ j = 1 by simp at hj; omega) with rfl | rfl
    · rw [show (⟨w.heap.size, 0, none⟩ : Addr).add 0 = ⟨w.heap.size, 0, none⟩ from rfl, hc 0 _ rfl]
      simp
    · rw [show (⟨w.heap.size, 0, none⟩ : Addr).add 1 = ⟨w.heap.size, 1, none⟩ from rfl, hc 1 _ rfl]
      simp
  go_enter Try.func36, Try.ntmps36
  go_wp2
  go_ret
  exact ⟨rfl, (Below.refl _ _).alloc (Nat.le_refl _) _⟩
set_option maxRecDepth 100000 in
set_option maxHeartbeats 1000000 in
theorem sametexts_true (v u : Value) (l : List ByteArray) (w : World) (hv : IsSl w 1 v l.length (sts l)) (hu : IsSl w 1 u l.length (sts l)) (hl : l.length ≤ 140737488355328) :
    Calls Try.prog 12 #[v, u] w (Ret (fun r => r = .bool true) w) := by
  obtain ⟨a, c, rfl⟩ := hv.form
  obtain ⟨a2, c2, rfl⟩ := hu.form
  obtain ⟨i0, hi, hz0, hz1, hz2⟩ := info_parts infoSt
  go_enter Try.func12, Try.ntmps12
  go_wp2
  go_loopw [5] (fun i wr => ∃ (k n : Nat), k ≤ l.length ∧ i = .int .i64 k ∧ wr = w.drewN n) (fun i _ => l.length - (intOf i).toNat)
  case atStart => exact ⟨0, 0, by omega, rfl, rfl⟩
  case round =>
    obtain ⟨k, n, hk, rfl, hw⟩ := hrel
    have hv1 : IsSl wr 1 (.slice a l.length c) l.length (sts l) := by rw [hw]; exact hv
    have hu1 : IsSl wr 1 (.slice a2 l.length c2) l.length (sts l) := by rw [hw]; exact hu
    have HW := hid hw
    clear hw
    by_cases hlt : k < l.length
    · obtain ⟨g, o, x, hidx, hg, hcell, hx⟩ := IsSl.at1 Try.underlying42 hi hz1 hv1 hlt
      obtain ⟨g2, o2, x2, hidx2, hg2, hcell2, hx2⟩ := IsSl.at1 Try.underlying42 hi hz1 hu1 hlt
      obtain ⟨b, hb0, rfl⟩ := sts_get hx
      obtain ⟨b2, hb2, rfl⟩ := sts_get hx2
      obtain rfl := Option.some.inj (hb0.symm.trans hb2)
      clear hx hx2 hb0 hb2
      go_wp2_with fail
      go_quiet ((fail))
      go_wp2
      go_roundw
      case rel => exact ⟨k + 1, nq + n, by omega, by go_num, by rw [HW.out]; simp [World.drewN_drewN, Nat.add_comm]⟩
      case measure => simp [intOf]; omega
    · go_wp2
      go_ret
      exact ⟨_, n, rfl, HW.out, rfl⟩
end
end Go.Proofs.Ytejooaeppcjhjaa
