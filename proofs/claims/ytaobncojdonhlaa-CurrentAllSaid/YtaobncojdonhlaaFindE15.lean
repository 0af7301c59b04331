/- Walk of gridworkref15's Find. -/
import Derived.Test.YtaobncojdonhlaaFind15
namespace Go.Proofs.Ytaobncojdonhlaa
open Go.RowKit

def zEl : El := ⟨0, ⟨#[]⟩, ⟨#[]⟩, ⟨#[]⟩, ⟨#[]⟩, ⟨#[]⟩, 0, 0⟩
/-- The element of a name. -/
def findE (l : List El) (s : ByteArray) : Option El := l.find? fun e => e.name.toList == s.toList
def RetEB (x : El) (b : Bool) (w : World) (en : Ending) (w' : World) : Prop :=
  en = .returned (.tuple #[.agg #[.int .u8 x.kind, .string x.name, .string x.a, .string x.b, .string x.c, .string x.d, .float .f64 x.val, .int .i64 x.ph], .bool b]) ∧ Below w.heap.size w w'
theorem findE_no {l : List El} {s : ByteArray} (h : named l s = false) : findE l s = none := by
  unfold findE
  unfold named at h
  rw [List.find?_eq_none]
  intro x hx
  have := List.any_eq_false.1 h x hx
  simpa using this
theorem findE_at {l : List El} {s : ByteArray} {k : Nat} {x : El} (hn : named (l.take k) s = false) (h : l[k]? = some x) (hx : (x.name.toList == s.toList) = true) : findE l s = some x ∧ named l s = true :=
  ⟨(find_first l k x hn h hx).2.2, (find_first l k x hn h hx).2.1⟩
set_option maxRecDepth 100000 in
set_option maxHeartbeats 2000000 in
theorem rfind_any (p : Value) (l : List El) (s : ByteArray) (w : World) (hp : RN w p l) (hl : l.length ≤ 100000) :
    Calls Try.prog 37 #[p, .string s] w (RetEB ((findE l s).getD zEl) (findE l s).isSome w) := by
  obtain ⟨i0, hi, hz0, hz1, hz2⟩ := info_parts infoEa
  go_enter Try.func37, Try.ntmps37
  go_upto_region 1 with fail
  have hA := heap_alloc_new w (.cells #[.int .u8 0, .string ⟨#[]⟩, .string ⟨#[]⟩, .string ⟨#[]⟩, .string ⟨#[]⟩, .string ⟨#[]⟩, .float .f64 0, .int .i64 0] 56)
  have hBW := (Below.refl w.heap.size w).alloc (Nat.le_refl _) (.cells #[.int .u8 0, .string ⟨#[]⟩, .string ⟨#[]⟩, .string ⟨#[]⟩, .string ⟨#[]⟩, .string ⟨#[]⟩, .float .f64 0, .int .i64 0] 56)
  generalize w.alloc (.cells #[.int .u8 0, .string ⟨#[]⟩, .string ⟨#[]⟩, .string ⟨#[]⟩, .string ⟨#[]⟩, .string ⟨#[]⟩, .float .f64 0, .int .i64 0] 56) = w0 at *
  have HP := hid (hp.below' hBW)
  have HA := hid hA
  have HBW := hid hBW
  clear hA hBW hp
  go_upto_region 3 with (go_at_call 50; refine (relements_any _ l _ HP.out (by omega)).mono ?_; rintro e w1 ⟨v1, xs, rfl, hown1, rfl, hb1⟩; obtain ⟨a1, c1, rfl⟩ := (IsSl.of_own hown1).form)
  have HI := hid (IsSl.of_own hown1)
  have HB1 := hid (below_next HBW.out hb1)
  have hA1 := heap_later2 hb1 HA.out
  clear hb1 hown1
  have HA1 := hid hA1
  clear hA1
  go_loopw [7] (fun i wr => ∃ k : Nat, k ≤ l.length ∧ i = .int .i64 k ∧ named (l.take k) s = false ∧ wr = w1) (fun i _ => l.length - (intOf i).toNat)
  case atStart => exact ⟨0, Nat.zero_le _, rfl, rfl, rfl⟩
  case round =>
    obtain ⟨k, hk, rfl, hn, rfl⟩ := hrel
    obtain ⟨hA2, fA⟩ := block_cells HA1.out
    have k0 := hA2 0 _ rfl; have k1 := hA2 1 _ rfl; have k2 := hA2 2 _ rfl; have k3 := hA2 3 _ rfl; have k4 := hA2 4 _ rfl; have k5 := hA2 5 _ rfl; have k6 := hA2 6 _ rfl; have k7 := hA2 7 _ rfl
    have HN := hid hn
    clear hn hA2
    by_cases hlt : k < l.length
    · obtain ⟨g, o, x, hidx, hg, hx, hcell⟩ := IsSl.atF Try.underlying27 hi hz1 ea_len HI.out rfl hlt
      have c1 := hcell 1 _ rfl
      have HX := hid hx
      cases hb : (x.name.toList == s.toList)
      · have HB := hid hb
        clear hcell hx k0 k1 k2 k3 k4 k5 k6 k7 fA
        go_wp2_with fail
        go_roundw
        case rel => exact ⟨k + 1, by omega, by go_num, by rw [named_snoc HX.out, HN.out, HB.out]; rfl, by first | rfl | trivial⟩
        case measure => simp [intOf]; omega
      · have HB := hid hb
        have c0 := hcell 0 _ rfl
        have c2 := hcell 2 _ rfl
        have c3 := hcell 3 _ rfl
        have c4 := hcell 4 _ rfl
        have c5 := hcell 5 _ rfl
        have c6 := hcell 6 _ rfl
        have c7 := hcell 7 _ rfl
        rw [Nat.add_zero] at c0
        clear hcell hx
        go_wp2_with fail
        (try rw [Exit.noGoto_ret])
        obtain ⟨h1, h2⟩ := findE_at HN.out HX.out HB.out
        refine bodyPost_ret (v := .tuple #[.agg #[.int .u8 x.kind, .string x.name, .string x.a, .string x.b, .string x.c, .string x.d, .float .f64 x.val, .int .i64 x.ph], .bool true]) ?_ rfl ⟨by rw [h1]; rfl, ?_⟩
        · rw [results_cell_tmp rfl]; go_simp
        · exact ((((((((HB1.out.setCell (Nat.le_refl _) _).setCell (Nat.le_refl _) _).setCell (Nat.le_refl _) _).setCell (Nat.le_refl _) _).setCell (Nat.le_refl _) _).setCell (Nat.le_refl _) _).setCell (Nat.le_refl _) _).setCell (Nat.le_refl _) _)
    · obtain rfl : k = l.length := by omega
      rw [List.take_length] at HN
      go_wp2_with fail
      (try rw [Exit.noGoto_ret])
      refine bodyPost_ret (v := .tuple #[.agg #[.int .u8 0, .string ⟨#[]⟩, .string ⟨#[]⟩, .string ⟨#[]⟩, .string ⟨#[]⟩, .string ⟨#[]⟩, .float .f64 0, .int .i64 0], .bool false]) ?_ rfl ⟨by rw [findE_no HN.out]; rfl, ?_⟩
      · rw [results_cell_tmp rfl]; go_simp
      · exact ((((((((HB1.out.setCell (Nat.le_refl _) _).setCell (Nat.le_refl _) _).setCell (Nat.le_refl _) _).setCell (Nat.le_refl _) _).setCell (Nat.le_refl _) _).setCell (Nat.le_refl _) _).setCell (Nat.le_refl _) _).setCell (Nat.le_refl _) _)
end Go.Proofs.Ytaobncojdonhlaa
