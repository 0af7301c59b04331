/- Matrices: the reference's Add, gridworkkit's LentMatrix and SameMatrix. -/
import Derived.Test.YtlgfpfjfoajjbaaMat2
namespace Go.Proofs.Ytlgfpfjfoajjbaa
open Go.RowKit

set_option maxRecDepth 100000 in
set_option maxHeartbeats 1000000 in
theorem radd18_any (r c i j : Int) (v : Value) (l : List Cx) (y : Cx) (w : World) (hv : IsSl w 1 v l.length (l.map mkC)) (hl : l.length * 16 ≤ 140737488351232) :
    Calls Try.prog 20 #[matV r c v, .int .i64 i, .int .i64 j, mkC y] w (RetMat (madd r c (l.map ck) i j (ck y)) w) := by
  obtain ⟨a, k0, rfl⟩ := hv.form
  obtain ⟨i0, hi, hz0, hz1, hz2⟩ := info_parts infoC
  cases hbad : mbad r c l.length
  · cases hC : maddC r c i j
    · exact radd18_good r c i j a k0 l y w hv hl hbad hC
    · have hs : madd r c (l.map ck) i j (ck y) = ((0, 0, []), 2) := by simp [madd, hbad, hC]
      rw [hs]
      obtain ⟨r0, r64, q0, q64, hlen⟩ := mbad_no hbad
      have hfit := mbad_fits hbad
      have hcc := maddC_cases hC
      clear hv hs hbad hlen hC
      rcases hcc with hcc | ⟨hc0, hcc⟩ | ⟨hc0, hc1, hcc⟩ | ⟨hc0, hc1, hc2, hcc⟩
      all_goals (go_enter Try.func20, Try.ntmps20)
      all_goals (go_wp2_with fail)
      all_goals (try simp only [Exit.inBlock, Exit.then])
      all_goals (refine bodyPost_ret (v := .tuple #[matV 0 0 (.slice none 0 0), .int .i64 2]) ?_ rfl ⟨0, 0, _, 2, [], rfl, World.ownsRow_nil _ _ _ _, rfl, ?_⟩)
      all_goals (first | (rw [results_cell_tmp rfl]; go_simp; done) | exact ((Below.refl _ w).alloc (Nat.le_refl _) _).alloc (by simp) _)
  · have hs : madd r c (l.map ck) i j (ck y) = ((0, 0, []), 4) := by simp [madd, hbad]
    rw [hs]
    have hcc := mbad_cases hbad
    clear hv hs hbad
    rcases hcc with hcc | ⟨hc0, hcc⟩ | ⟨hc0, hc1, hcc⟩ | ⟨hc0, hc1, hc2, hcc⟩ | ⟨hc0, hc1, hc2, hc3, hcc⟩
    all_goals (go_enter Try.func20, Try.ntmps20)
    all_goals (go_wp2_with fail)
    all_goals (try simp only [Exit.inBlock, Exit.then])
    all_goals (refine bodyPost_ret (v := .tuple #[matV 0 0 (.slice none 0 0), .int .i64 4]) ?_ rfl ⟨0, 0, _, 4, [], rfl, World.ownsRow_nil _ _ _ _, rfl, ?_⟩)
    all_goals (first | (rw [results_cell_tmp rfl]; go_simp; done) | exact ((Below.refl _ w).alloc (Nat.le_refl _) _).alloc (by simp) _)
end Go.Proofs.Ytlgfpfjfoajjbaa
