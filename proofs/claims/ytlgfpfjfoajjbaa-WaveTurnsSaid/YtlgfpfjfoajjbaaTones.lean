/- Walks of lists of tones: gridworklaw30.tones, sameTones. -/
import Derived.Test.YtlgfpfjfoajjbaaFlat
import Derived.Test.YtlgfpfjfoajjbaaParts2
import Derived.Test.YtlgfpfjfoajjbaaOwns
namespace Go.Proofs.Ytlgfpfjfoajjbaa
open Go.RowKit

/-- A tone: its Size by its bits, its Phase, its Harmonic. -/
abbrev Tn := Nat × Int × Int
def tz (t : Tn) : List Value := [.int .u64 t.1, .int .i64 t.2.1, .int .i64 t.2.2]
def ta (t : Tn) : List Value := [.float .f64 t.1, .int .i64 t.2.1, .int .i64 t.2.2]
theorem infoTn : (Try.prog.info? 85).map (fun i => (i.zero, i.size, i.bytes)) = some (some (.agg #[.int .u64 0, .int .i64 0, .int .i64 0]), 3, 24) := by kernel_rfl
theorem infoTa : (Try.prog.info? 71).map (fun i => (i.zero, i.size, i.bytes)) = some (some (.agg #[.float .f64 0, .int .i64 0, .int .i64 0]), 3, 24) := by kernel_rfl
theorem ta_one (t : Tn) : ∀ u ∈ ta t, u.oneCell' = true := by intro u hu; simp [ta] at hu; rcases hu with rfl | rfl | rfl <;> rfl

set_option maxRecDepth 100000 in
set_option maxHeartbeats 1000000 in
theorem tones_any (v : Value) (l : List Tn) (w : World) (hv : InSl w 3 v l.length (l.flatMap tz)) (hl : l.length * 24 ≤ 140737488351232) :
    Calls Try.prog 28 #[v] w (RetRow 71 3 l.length (fun xs => xs = l.flatMap ta) w) := by
  obtain ⟨a, c, rfl⟩ := hv.form
  obtain ⟨i0, hi, hz0, hz1, hz2⟩ := info_parts infoTa
  obtain ⟨iu, hiu, hu0, hu1, hu2⟩ := info_parts infoTn
  have b2 := frombits_law
  have hbs : ∀ (x : Nat) (y z : Int) (w : World), (Instr.buildSlice 60 1 #[(0, .agg #[.float .f64 x, .int .i64 y, .int .i64 z])]).run Try.prog w = .ok (.slice (some ⟨w.heap.size, 0, none⟩) 1 1) (w.alloc (.cells #[.float .f64 x, .int .i64 y, .int .i64 z] 71)) :=
    fun x y z w => run_buildOne Try.underlying60 hi hz0 hz1 (by decide) (by decide) _ rfl w
  go_enter Try.func28, Try.ntmps28
  go_wp2
  go_loopw [3, 4] (fun out i wr => ∃ k : Nat, k ≤ l.length ∧ i = .int .i64 k ∧ wr.ownsRow w.heap.size 71 3 out k ((l.take k).flatMap ta) ∧ Below w.heap.size w wr) (fun _ i _ => l.length - (intOf i).toNat)
  case atStart => exact ⟨0, Nat.zero_le _, rfl, World.ownsRow_nil _ _ _ _, Below.refl _ _⟩
  case round =>
    obtain ⟨k, hk, rfl, hown, hb⟩ := hrel
    by_cases hlt : k < l.length
    · obtain ⟨g, o, x, hidx, hg, hx, hcell⟩ := InSl.atF Try.underlying59 hiu hu1 (fun _ => rfl) hv rfl hlt
      have c0 := (hb.cell (p := ⟨g, o + 0, none⟩) hg).trans (hcell 0 _ rfl)
      have c1 := (hb.cell (p := ⟨g, o + 1, none⟩) hg).trans (hcell 1 _ rfl)
      have c2 := (hb.cell (p := ⟨g, o + 2, none⟩) hg).trans (hcell 2 _ rfl)
      rw [Nat.add_zero] at c0
      have HX := hid hx
      have HB := hid hb
      have HO := hid hown
      have HG := hid hg
      clear hx hb hown hcell hg
      go_wp2_with fail
      go_region_held3 (fun w' => w'.cell? ⟨g, o, none⟩ = some (.int .u64 x.1) ∧ w'.cell? ⟨g, o + 1, none⟩ = some (.int .i64 x.2.1) ∧ w'.cell? ⟨g, o + 2, none⟩ = some (.int .i64 x.2.2))
        (first | (go_keep; done) | (go_split_ands; refine ⟨?_, ?_, ?_⟩ <;> (first | exact cell_grown HG2.out HNE.out c0 | exact cell_grown HG2.out HNE.out c1 | exact cell_grown HG2.out HNE.out c2)))
        ((refine step_append_own rfl _ _ _ rfl w.heap.size 71 3 24 i0 (.agg #[.float .f64 0, .int .i64 0, .int .i64 0]) Try.underlying60 hi hz0 hz1 hz2 rfl _ k _ (by exact World.ownsRow.alloc HO.out _) _ 1 1 (ta x) rfl rfl rfl (by exact news_new) (ta_one x) (by decide) (by simp [maxLen]; omega) (by omega) (by have := HB.out.size; simp; omega) ?_; intro g1 cap1 w1 hown1 hlt1 hgr1; have HNE := hid (show u3.ownBlock ≠ some g from fun e => by have := (HO.out.lt _ e).1; have := HG.out; omega); have HG2 := hid (show wr.grownBy w1 u3.ownBlock from (by first | exact grown_alloc (grown_drew1 (grown_either (v := u3) hgr1)) | exact grown_drew1 (grown_alloc (grown_either (v := u3) hgr1)))); have HO1 := hid hown1; clear hgr1 hown1))
      (try simp only [Exit.inBlock, Exit.then])
      go_wp2
      go_roundw
      case rel =>
        refine ⟨k + 1, by omega, by go_num, ?_, HB.out.grown HG2.out HB.out.size (fun _ e => (HO.out.lt _ e).1)⟩
        rw [flat_take l k x HX.out]; exact HO1.out
      case measure => simp [intOf]; omega
    · go_wp2
      go_ret
      obtain rfl : k = l.length := by omega
      exact ⟨_, _, rfl, hown, by simp, hb⟩

theorem samereal_self (a : Nat) (w : World) : Calls Try.prog 29 #[.float .f64 a, .float .f64 a] w fun e w' => e = .returned (.bool true) ∧ w = w' :=
  (samereal_any a a w).mono fun _ _ ⟨h, hw⟩ => ⟨by rw [h]; simp, hw⟩
set_option maxRecDepth 100000 in
set_option maxHeartbeats 1000000 in
theorem sametones_true (v u : Value) (l : List Tn) (w : World) (hv : IsSl w 3 v l.length (l.flatMap ta)) (hu : IsSl w 3 u l.length (l.flatMap ta)) (hl : l.length ≤ 140737488355328) :
    Calls Try.prog 36 #[v, u] w (Ret (fun r => r = .bool true) w) := by
  obtain ⟨a, c, rfl⟩ := hv.form
  obtain ⟨a2, c2, rfl⟩ := hu.form
  obtain ⟨i0, hi, hz0, hz1, hz2⟩ := info_parts infoTa
  go_enter Try.func36, Try.ntmps36
  go_wp2
  go_loopw [5] (fun i wr => ∃ (k n : Nat), k ≤ l.length ∧ i = .int .i64 k ∧ wr = w.drewN n) (fun i _ => l.length - (intOf i).toNat)
  case atStart => exact ⟨0, 0, by omega, rfl, rfl⟩
  case round =>
    obtain ⟨k, n, hk, rfl, hw⟩ := hrel
    have hv1 : IsSl wr 3 (.slice a l.length c) l.length (l.flatMap ta) := by rw [hw]; exact hv
    have hu1 : IsSl wr 3 (.slice a2 l.length c2) l.length (l.flatMap ta) := by rw [hw]; exact hu
    have HW := hid hw
    clear hw
    by_cases hlt : k < l.length
    · obtain ⟨g, o, x, hidx, hg, hx, hcell⟩ := IsSl.atF Try.underlying60 hi hz1 (fun _ => rfl) hv1 rfl hlt
      obtain ⟨g2, o2, x2, hidx2, hg2, hx2, hcell2⟩ := IsSl.atF Try.underlying60 hi hz1 (fun _ => rfl) hu1 rfl hlt
      obtain rfl : x2 = x := by rw [hx] at hx2; exact (Option.some.inj hx2).symm
      have c0 := hcell 0 _ rfl
      have c1 := hcell 1 _ rfl
      have c2 := hcell 2 _ rfl
      have d0 := hcell2 0 _ rfl
      have d1 := hcell2 1 _ rfl
      have d2 := hcell2 2 _ rfl
      rw [Nat.add_zero] at c0 d0
      clear hx hx2 hcell hcell2 hv1 hu1
      go_wp2_with fail
      go_quiet ((go_at_call 29; exact Calls.quiet_same (samereal_self _ _)))
      go_wp2
      go_roundw
      case rel => exact ⟨k + 1, nq + n, by omega, by go_num, by rw [HW.out]; simp [World.drewN_drewN, Nat.add_comm]⟩
      case measure => simp [intOf]; omega
    · go_wp2
      go_ret
      exact ⟨_, n, rfl, HW.out, by simp⟩
end Go.Proofs.Ytlgfpfjfoajjbaa
