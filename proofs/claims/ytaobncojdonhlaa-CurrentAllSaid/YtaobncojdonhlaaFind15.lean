/- Walks of gridworkref15: place, Place, Branch, Find. -/
import Derived.Test.YtaobncojdonhlaaOf15
namespace Go.Proofs.Ytaobncojdonhlaa
open Go.RowKit

/-- A text's place in a list; 0 where it is not there. -/
def plI (l : List ByteArray) (s : ByteArray) : Int := if has l s = true then (l.findIdx fun t => t.toList == s.toList : Nat) else 0
theorem plI_no {l : List ByteArray} {s : ByteArray} (h : has l s = false) : plI l s = 0 := by unfold plI; rw [if_neg (by rw [h]; simp)]
theorem find_first {α : Type} {p : α → Bool} : ∀ (l : List α) (k : Nat) (x : α), (l.take k).any p = false → l[k]? = some x → p x = true → l.findIdx p = k ∧ l.any p = true ∧ l.find? p = some x
  | [], k, x, _, h, _ => by simp at h
  | y :: l, 0, x, _, h, hx => by
    obtain rfl : y = x := by simpa using h
    simp [List.findIdx_cons, hx]
  | y :: l, k + 1, x, hn, h, hx => by
    rw [List.take_succ_cons, List.any_cons, Bool.or_eq_false_iff] at hn
    obtain ⟨h1, h2, h3⟩ := find_first l k x hn.2 (by simpa using h) hx
    simp [List.findIdx_cons, hn.1, h1, h2, h3]
theorem plI_at {l : List ByteArray} {s t : ByteArray} {k : Nat} (hn : has (l.take k) s = false) (h : l[k]? = some t) (ht : (t.toList == s.toList) = true) : has l s = true ∧ plI l s = k := by
  obtain ⟨h1, h2, _⟩ := find_first l k t hn h ht
  have h3 : has l s = true := h2
  refine ⟨h3, ?_⟩
  unfold plI
  rw [if_pos h3, h1]
set_option maxRecDepth 100000 in
set_option maxHeartbeats 1000000 in
theorem place_any (v : Value) (l : List ByteArray) (s : ByteArray) (w : World) (hv : IsSl w 1 v l.length (sts l)) (hl : l.length ≤ 1000000) :
    Calls Try.prog 85 #[v, .string s] w fun e w' => e = .returned (.tuple #[.int .i64 (plI l s), .bool (has l s)]) ∧ w = w' := by
  obtain ⟨a, c, rfl⟩ := hv.form
  obtain ⟨i0, hi, hz0, hz1, hz2⟩ := info_parts infoSt
  go_enter Try.func85, Try.ntmps85
  go_wp2
  go_loopw [6] (fun i wr => ∃ k : Nat, k ≤ l.length ∧ i = .int .i64 k ∧ has (l.take k) s = false ∧ wr = w) (fun i _ => l.length - (intOf i).toNat)
  case atStart => exact ⟨0, Nat.zero_le _, rfl, rfl, rfl⟩
  case round =>
    obtain ⟨k, hk, rfl, hn, rfl⟩ := hrel
    by_cases hlt : k < l.length
    · obtain ⟨g, o, y, hidx, hg, hc, hy⟩ := IsSl.at1 Try.underlying67 hi hz1 hv hlt
      obtain ⟨t, ht, rfl⟩ := sts_get hy
      have HN := hid hn
      have HT := hid ht
      clear hn ht hy hg
      cases hb : (t.toList == s.toList)
      · have HB := hid hb
        go_wp2_with fail
        go_roundw
        case rel => exact ⟨k + 1, by omega, by go_num, by rw [has_snoc HT.out, HN.out, HB.out]; rfl, by first | rfl | trivial⟩
        case measure => simp [intOf]; omega
      · have HB := hid hb
        go_wp2_with fail
        (try rw [Exit.noGoto_ret])
        obtain ⟨h1, h2⟩ := plI_at HN.out HT.out HB.out
        refine bodyPost_ret (v := .tuple #[.int .i64 k, .bool true]) ?_ rfl ⟨by rw [h1, h2], rfl⟩
        rw [results_tmp2 rfl]; rfl
    · obtain rfl : k = l.length := by omega
      rw [List.take_length] at hn
      have HN := hid hn
      clear hn
      go_wp2
      refine bodyPost_ret (v := .tuple #[.int .i64 0, .bool false]) ?_ rfl ⟨by rw [plI_no HN.out, HN.out], rfl⟩
      rw [results_tmp2 rfl]; rfl
def RetIB (k : Int) (b : Bool) (w : World) (en : Ending) (w' : World) : Prop := en = .returned (.tuple #[.int .i64 k, .bool b]) ∧ Below w.heap.size w w'
set_option maxRecDepth 100000 in
set_option maxHeartbeats 1000000 in
theorem rplace_any (p : Value) (l : List El) (s : ByteArray) (w : World) (hp : RN w p l) (hl : l.length ≤ 100000) :
    Calls Try.prog 81 #[p, .string s] w (RetIB (plI (nds l) s) (has (nds l) s) w) := by
  have hn := nds_len l
  go_enter Try.func81, Try.ntmps81
  go_wp2_with (first | (go_at_call 23; refine (rnodes_any _ l _ hp hl).mono ?_; rintro e w1 ⟨v1, xs, rfl, hown1, rfl, hb1⟩; have HB1 := hid hb1; have HI := hid (IsSl.of_own hown1); clear hb1 hown1) | (go_at_call 85; refine (place_any _ _ s _ HI.out (by omega)).mono ?_; rintro e w2 ⟨rfl, rfl⟩))
  refine bodyPost_ret (v := .tuple #[.int .i64 (plI (nds l) s), .bool (has (nds l) s)]) ?_ rfl ⟨rfl, HB1.out⟩
  rw [results_tmp2 rfl]; rfl
set_option maxRecDepth 100000 in
set_option maxHeartbeats 1000000 in
theorem rbranch_any (p : Value) (l : List El) (s : ByteArray) (w : World) (hp : RN w p l) (hl : l.length ≤ 100000) :
    Calls Try.prog 68 #[p, .string s] w (RetIB (plI (brs l) s) (has (brs l) s) w) := by
  have hn := brs_len l
  go_enter Try.func68, Try.ntmps68
  go_wp2_with (first | (go_at_call 51; refine (rbranches_any _ l _ hp hl).mono ?_; rintro e w1 ⟨v1, xs, rfl, hown1, rfl, hb1⟩; have HB1 := hid hb1; have HI := hid (IsSl.of_own hown1); clear hb1 hown1) | (go_at_call 85; refine (place_any _ _ s _ HI.out (by omega)).mono ?_; rintro e w2 ⟨rfl, rfl⟩))
  refine bodyPost_ret (v := .tuple #[.int .i64 (plI (brs l) s), .bool (has (brs l) s)]) ?_ rfl ⟨rfl, HB1.out⟩
  rw [results_tmp2 rfl]; rfl
end Go.Proofs.Ytaobncojdonhlaa
