/- Walks of wave.Sample and gridworkref30.Sample: what is heard at a step. -/
import Derived.Test.YtlgfpfjfoajjbaaTones
import Derived.Test.YtlgfpfjfoajjbaaRoots
namespace Go.Proofs.Ytlgfpfjfoajjbaa
open Go.RowKit

theorem root_congr {a b : Int} (h : a % 24 = b % 24) : root a = root b := by
  unfold root
  rw [show (a + 18) % 24 = (b + 18) % 24 by omega, h]
/-- What a tone adds at a step. -/
def termb (t : Tn) (n : Int) : Nat := fmul (fc t.1) (root (angl t.2.1 t.2.2 n)).1
/-- What is heard at a step, up to a NaN's bits. -/
def smp (l : List Tn) (n : Int) : Nat := l.foldl (fun s t => fadd s (termb t n)) 0
theorem smp_snoc (l : List Tn) (n : Int) (k : Nat) (x : Tn) (h : l[k]? = some x) : smp (l.take (k + 1)) n = fadd (smp (l.take k) n) (termb x n) := by
  obtain ⟨hk, hx⟩ := List.getElem?_eq_some_iff.1 h
  unfold smp
  rw [List.take_succ_eq_append_getElem hk, List.foldl_append, hx]; rfl
theorem root_fc (k : Int) : fc (root k).1 = (root k).1 := cosb_fin _ (emod24 k).1 (emod24 k).2
theorem smp_step {l : List Tn} {n : Int} {k : Nat} {x : Tn} {s r p : Nat} (h : l[k]? = some x) (hs : fc s = smp (l.take k) n) (hp : fc p = fop .mul (fc x.1) (fc (root (angl x.2.1 x.2.2 n)).1)) (hr : fc r = fop .add (fc s) (fc p)) :
    fc r = smp (l.take (k + 1)) n := by
  rw [smp_snoc l n k x h, hr, hs, hp, root_fc]; rfl
theorem root_angl (p h n : Int) : root (p % 24 + h % 24 * (n % 24) % 24) = root (angl p h n) := root_congr (by unfold angl; omega)

set_option maxRecDepth 100000 in
set_option maxHeartbeats 1000000 in
theorem wsample_any (v : Value) (l : List Tn) (n : Int) (w : World) (hv : IsSl w 3 v l.length (l.flatMap ta)) (hl : l.length ≤ 140737488355328) :
    Calls Try.prog 30 #[v, .int .i64 n] w (RetB (IsF (smp l n)) w) := by
  obtain ⟨a, c, rfl⟩ := hv.form
  obtain ⟨i0, hi, hz0, hz1, hz2⟩ := info_parts infoTa
  go_enter Try.func30, Try.ntmps30
  go_wp2
  go_loopw [5, 11] (fun t i wr => ∃ (k s : Nat), k ≤ l.length ∧ i = .int .i64 k ∧ t = .float .f64 s ∧ fc s = smp (l.take k) n ∧ Below w.heap.size w wr) (fun _ i _ => l.length - (intOf i).toNat)
  case atStart => exact ⟨0, 0, Nat.zero_le _, rfl, rfl, fc_zero, Below.refl _ _⟩
  case round =>
    obtain ⟨k, s, hk, rfl, rfl, hs, hb⟩ := hrel
    by_cases hlt : k < l.length
    · obtain ⟨g, o, x, hidx, hg, hx, hcell⟩ := IsSl.atF Try.underlying60 hi hz1 (fun _ => rfl) hv rfl hlt
      have c0 := (hb.cell (p := ⟨g, o + 0, none⟩) hg).trans (hcell 0 _ rfl)
      have c1 := (hb.cell (p := ⟨g, o + 1, none⟩) hg).trans (hcell 1 _ rfl)
      have c2 := (hb.cell (p := ⟨g, o + 2, none⟩) hg).trans (hcell 2 _ rfl)
      rw [Nat.add_zero] at c0
      have hw1 : IntKind.i64.wrap (x.2.1 % 24 + x.2.2 % 24 * (n % 24) % 24) = x.2.1 % 24 + x.2.2 % 24 * (n % 24) % 24 := by
        have h1 := emod24 x.2.1
        have h2 := emod24 (x.2.2 % 24 * (n % 24))
        exact IntWalk.i64_in _ (by omega)
      have hra := root_angl x.2.1 x.2.2 n
      have HX := hid hx
      have HB := hid hb
      have HS := hid hs
      clear hx hb hs hcell
      go_wp2_with fail
      go_quiet (first | (go_at_call 58; exact Calls.quiet_same (wround_any _ _)) | (go_at_call 59; exact Calls.quiet_same (wtimes_any _ _ _)) | (go_at_call 57; exact Calls.quiet_same (troot_any _ _)))
      go_wp2_with (refine wpList_float rfl _ _ _ _ _ rfl rfl _ _ rfl rfl ?_; intro _ _ _)
      go_roundw
      case rel => exact ⟨k + 1, _, by omega, by go_num, rfl, smp_step HX.out HS.out (by assumption) (by assumption), by repeat (first | exact HB.out | refine below_n ?_ _ | refine Below.alloc ?_ HB.out.size _)⟩
      case measure => simp [intOf]; omega
    · go_wp2
      go_ret
      obtain rfl : k = l.length := by omega
      exact ⟨_, rfl, hb, _, rfl, by rw [hs, List.take_length]⟩

set_option maxRecDepth 100000 in
set_option maxHeartbeats 1000000 in
theorem rsample_any (v : Value) (l : List Tn) (n : Int) (w : World) (hv : IsSl w 3 v l.length (l.flatMap ta)) (hl : l.length ≤ 140737488355328) :
    Calls Try.prog 31 #[v, .int .i64 n] w (RetB (IsF (smp l n)) w) := by
  obtain ⟨a, c, rfl⟩ := hv.form
  obtain ⟨i0, hi, hz0, hz1, hz2⟩ := info_parts infoTa
  have hfa := @run_fadd Try.prog
  have hfm := @run_fmul Try.prog
  go_enter Try.func31, Try.ntmps31
  go_wp2
  go_loopw [5, 6] (fun t i wr => ∃ (k s : Nat), k ≤ l.length ∧ i = .int .i64 k ∧ t = .float .f64 s ∧ fc s = smp (l.take k) n ∧ Below w.heap.size w wr) (fun _ i _ => l.length - (intOf i).toNat)
  case atStart => exact ⟨0, 0, Nat.zero_le _, rfl, rfl, fc_zero, Below.refl _ _⟩
  case round =>
    obtain ⟨k, s, hk, rfl, rfl, hs, hb⟩ := hrel
    by_cases hlt : k < l.length
    · obtain ⟨g, o, x, hidx, hg, hx, hcell⟩ := IsSl.atF Try.underlying60 hi hz1 (fun _ => rfl) hv rfl hlt
      have c0 := (hb.cell (p := ⟨g, o + 0, none⟩) hg).trans (hcell 0 _ rfl)
      have c1 := (hb.cell (p := ⟨g, o + 1, none⟩) hg).trans (hcell 1 _ rfl)
      have c2 := (hb.cell (p := ⟨g, o + 2, none⟩) hg).trans (hcell 2 _ rfl)
      rw [Nat.add_zero] at c0
      have HX := hid hx
      have HB := hid hb
      have HS := hid hs
      clear hx hb hs hcell
      go_wp2_with fail
      go_region_law (first | (go_simp; go_at_call 61; refine (rangle_any _ _ _ _).mono ?_; rintro e w1 ⟨rfl, rfl⟩) | (go_simp; go_at_call 60; refine (rroot_any _ _).mono ?_; rintro e w1 ⟨rfl, hb1⟩; have d0 := cell_later (w := wr.drew) hb1 c0; have HB1 := hid (below_drew_left hb1); clear hb1))
      all_goals (try simp only [Exit.inBlock, Exit.then])
      all_goals go_wp2
      all_goals go_roundw
      all_goals try (case rel => exact ⟨k + 1, _, by omega, by go_num, rfl, smp_step HX.out HS.out (fc_fval _ _ _ _) (fc_fval _ _ _ _), below_n (HB.out.trans (HB1.out.mono HB.out.size)) _⟩)
      all_goals (simp [intOf]; omega)
    · go_wp2
      go_ret
      obtain rfl : k = l.length := by omega
      exact ⟨_, rfl, hb, _, rfl, by rw [hs, List.take_length]⟩
end Go.Proofs.Ytlgfpfjfoajjbaa
