/- Matrices: gridworkkit's LentMatrix and SameMatrix. -/
import Derived.Test.YtlgfpfjfoajjbaaMat
namespace Go.Proofs.Ytlgfpfjfoajjbaa
open Go.RowKit

/-- A matrix lent, and its numbers with the marks. -/
def RetLent (r c : Int) (l : List Cx) (w : World) (en : Ending) (w' : World) : Prop :=
  ∃ (a : Option Addr) (cap : Nat), en = .returned (.tuple #[matV r c (.slice a l.length cap), .slice a (l.length + 6) cap]) ∧ w'.ownsRow w.heap.size 45 1 (.slice a (l.length + 6) cap) (l.length + 6) ((l ++ marksNumbers 7 6).map mkC) ∧ Below w.heap.size w w'

set_option maxRecDepth 100000 in
set_option maxHeartbeats 1000000 in
theorem lentmatrix_any (r c : Int) (v : Value) (l : List Cx) (w : World) (hv : IsSl w 1 v l.length (l.map mkC)) (hl : l.length * 16 ≤ 140737488351232) :
    Calls Try.prog 17 #[matV r c v] w (RetLent r c l w) := by
  obtain ⟨a, k0, rfl⟩ := hv.form
  have HV := hid (hv.below (((Below.refl _ w).alloc (Nat.le_refl _) (.cells #[.int .i64 r, .int .i64 c, .slice a l.length k0] 42)).alloc (by simp) (.cells #[.int .i64 0, .int .i64 0, .slice none 0 0] 42)) (Nat.le_refl _))
  clear hv
  go_enter Try.func17, Try.ntmps17
  go_wp2_with fail
  refine (lentnumbers_any _ l _ HV.out hl).mono ?_
  rintro e wc ⟨v1, xs, rfl, hown, rfl, hbx⟩
  obtain ⟨g2, c2, hv2, _⟩ := hown.form (by omega)
  subst hv2
  have p0 := mat_at ((hbx.block _ (by simp; omega)).trans (alloc2_0 _ _ _))
  have p1 := mat_at ((hbx.block _ (by simp)).trans (alloc2_1 _ _ _))
  obtain ⟨c00, c01, c02, f00, f01, f02⟩ := p0
  obtain ⟨c10, c11, c12, f10, f11, f12⟩ := p1
  have hcap := own_cap hown
  have hc2 : (l.length : Int) ≤ (c2 : Int) := by omega
  have HOWN := hid hown
  have HBW := hid (below_alloc2 hbx)
  clear hown hbx HV
  go_wp2_with fail
  (try simp only [Exit.inBlock, Exit.then])
  refine bodyPost_ret (v := .tuple #[matV r c (.slice (some ⟨g2, 0, none⟩) l.length c2), .slice (some ⟨g2, 0, none⟩) (l.length + 6) c2]) ?_ rfl ⟨_, c2, rfl, ?_,
    (((HBW.out.setCell (Nat.le_refl _) _).setCell (Nat.le_succ _) _).setCell (Nat.le_succ _) _).setCell (Nat.le_succ _) _⟩
  · rw [results_cell_tmp rfl]; go_simp
  · have h1 : wc.ownsRow (w.heap.size + 2) 45 1 (.slice (some ⟨g2, 0, none⟩) (l.length + 6) c2) (l.length + 6) ((l ++ marksNumbers 7 6).map mkC) := World.ownsRow.mono HOWN.out (by simp)
    exact World.ownsRow.mono (ownsRow_setCell_below (ownsRow_setCell_below (ownsRow_setCell_below (ownsRow_setCell_below h1 (show w.heap.size < _ by omega) _) (Nat.lt_succ_self _) _) (Nat.lt_succ_self _) _) (Nat.lt_succ_self _) _) (by omega)

set_option maxRecDepth 100000 in
set_option maxHeartbeats 1000000 in
theorem samematrix_true (r c : Int) (v u : Value) (l m : List Cx) (w : World) (hv : IsSl w 1 v l.length (l.map mkC)) (hu : IsSl w 1 u m.length (m.map mkC)) (hl : l.length ≤ 140737488355328) (hm : m.length ≤ 140737488355328)
    (h : l.map ck = m.map ck) :
    Calls Try.prog 23 #[matV r c v, matV r c u] w (RetB (fun x => x = .bool true) w) := by
  obtain ⟨a, k0, rfl⟩ := hv.form
  obtain ⟨a2, k2, rfl⟩ := hu.form
  have hb2 := ((Below.refl _ w).alloc (Nat.le_refl _) (.cells #[.int .i64 r, .int .i64 c, .slice a l.length k0] 42)).alloc (by simp) (.cells #[.int .i64 r, .int .i64 c, .slice a2 m.length k2] 42)
  have HV := hid (hv.below hb2 (Nat.le_refl _))
  have HU := hid (hu.below hb2 (Nat.le_refl _))
  have HB := hid hb2
  have H := hid h
  clear hv hu hb2 h
  go_enter Try.func23, Try.ntmps23
  go_wp2_with fail
  refine (samenumbers_any _ _ l m _ HV.out HU.out hl hm).mono ?_
  rintro e w' ⟨v1, n1, rfl, rfl, rfl⟩
  rw [H.out, beq_self_eq_true]
  go_wp2_with fail
  go_ret
  exact ⟨_, rfl, below_n HB.out _, rfl⟩
end Go.Proofs.Ytlgfpfjfoajjbaa
