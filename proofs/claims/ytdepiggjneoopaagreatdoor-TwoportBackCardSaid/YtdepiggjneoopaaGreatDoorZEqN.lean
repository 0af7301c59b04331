/- a part of the proof of the last text -/
import Derived.Test.YtdepiggjneoopaaGreatDoorZMat
namespace Go.Proofs.YtdepiggjneoopaaGreatDoor
set_option linter.all false
set_option maxHeartbeats 4000000
set_option maxRecDepth 100000
open Go.RowKit
/-- Equal, pair by pair, as == has it. -/
def EqL (l m : List Cx) : Prop := l.length = m.length ∧ ∀ (k : Nat) (x y : Cx), l[k]? = some x → m[k]? = some y → FloatKind.f64.format.order x.1 y.1 = some .eq ∧ FloatKind.f64.format.order x.2 y.2 = some .eq
set_option maxRecDepth 100000 in
set_option maxHeartbeats 400000 in
theorem equalnumbers_any (v u : Value) (l m : List Cx) (w : World) (hv : IsSl w 1 v l.length (l.map mkC)) (hu : IsSl w 1 u m.length (m.map mkC)) (hl : l.length ≤ 140737488355328) (he : EqL l m) :
    Calls Tryz.prog 30 #[v, u] w (fun e w' => e = .returned (.bool true) ∧ Below w.heap.size w w') := by
  obtain ⟨a, c, rfl⟩ := hv.form
  obtain ⟨a2, c2, rfl⟩ := hu.form
  obtain ⟨i0, hi, hz0, hz1, hz2⟩ := info_parts infoC
  have hlB : ((l.length : Int) != (m.length : Int)) = false := by simp [he.1]
  have HE := hid he
  clear he
  go_enter Tryz.func30, Tryz.ntmps30
  go_wp2
  go_loopw [5] (fun i wr => ∃ (k n : Nat), k ≤ l.length ∧ i = .int .i64 k ∧ wr = w.drewN n) (fun i _ => l.length - (intOf i).toNat)
  case atStart => exact ⟨0, 0, by omega, rfl, rfl⟩
  case round =>
    obtain ⟨k, n, hk, rfl, hw⟩ := hrel
    have hv1 : IsSl wr 1 (.slice a l.length c) l.length (l.map (mkC)) := by rw [hw]; exact hv
    have hu1 : IsSl wr 1 (.slice a2 m.length c2) m.length (m.map (mkC)) := by rw [hw]; exact hu
    have HW := hid hw
    clear hw
    by_cases hlt : k < l.length
    · obtain ⟨g, o, x, hidx, hg, hcell, hx⟩ := IsSl.at1 Tryz.underlying41 hi hz1 hv1 hlt
      obtain ⟨g2, o2, x2, hidx2, hg2, hcell2, hx2⟩ := IsSl.at1 Tryz.underlying41 hi hz1 hu1 (show k < m.length by have := HE.out.1; omega)
      obtain ⟨b, hb0, rfl⟩ := map_getElem? hx
      obtain ⟨b2, hb2, rfl⟩ := map_getElem? hx2
      obtain ⟨h1, h2⟩ := HE.out.2 k b b2 hb0 hb2
      clear hx hx2 hb0 hb2
      obtain ⟨p, q⟩ := b
      obtain ⟨p2, q2⟩ := b2
      unfold mkC at hcell hcell2
      dsimp only at hcell hcell2 h1 h2
      go_wp2_with fail
      go_quiet (fail)
      go_wp2
      go_roundw
      case rel => exact ⟨k + 1, nq + n, by omega, by go_num, by rw [HW.out]; simp [World.drewN_drewN, Nat.add_comm]⟩
      case measure => simp [intOf]; omega
    · go_wp2
      go_ret
      exact ⟨rfl, by rw [HW.out]; exact below_n (Below.refl _ _) n⟩
set_option maxRecDepth 100000 in
set_option maxHeartbeats 400000 in
theorem equalmatrix_any (r : Int) (v u : Value) (l m : List Cx) (w : World) (hv : IsSl w 1 v l.length (l.map mkC)) (hu : IsSl w 1 u m.length (m.map mkC)) (hl : l.length ≤ 140737488355328) (he : EqL l m) :
    Calls Tryz.prog 20 #[.agg #[.int .i64 r, .int .i64 r, v], .agg #[.int .i64 r, .int .i64 r, u]] w (fun e w' => e = .returned (.bool true) ∧ Below w.heap.size w w') := by
  obtain ⟨a, c, rfl⟩ := hv.form
  obtain ⟨a2, c2, rfl⟩ := hu.form
  have t1 := alloc2_0 w (.cells #[.int .i64 r, .int .i64 r, .slice a l.length c] 43) (.cells #[.int .i64 r, .int .i64 r, .slice a2 m.length c2] 43)
  have t2 := alloc2_1 w (.cells #[.int .i64 r, .int .i64 r, .slice a l.length c] 43) (.cells #[.int .i64 r, .int .i64 r, .slice a2 m.length c2] 43)
  have hb : Below w.heap.size w ((w.alloc (.cells #[.int .i64 r, .int .i64 r, .slice a l.length c] 43)).alloc (.cells #[.int .i64 r, .int .i64 r, .slice a2 m.length c2] 43)) := ((Below.refl _ _).alloc (Nat.le_refl _) _).alloc (by simp) _
  have HV := hid (hv.below hb (Nat.le_refl _))
  have HU := hid (hu.below hb (Nat.le_refl _))
  have HE := hid he
  have HB := hid hb
  have m1 := mat_at t1
  have m2 := mat_at t2
  obtain ⟨a0, a1, a2', _⟩ := m1
  obtain ⟨b0, b1, b2', _⟩ := m2
  clear hv hu he hb t1 t2
  go_enter Tryz.func20, Tryz.ntmps20
  go_upto_region 1 with fail
  generalize (w.alloc (.cells #[.int .i64 r, .int .i64 r, .slice a l.length c] 43)).alloc (.cells #[.int .i64 r, .int .i64 r, .slice a2 m.length c2] 43) = w1 at *
  go_wp2_with ((go_at_call 30; refine (equalnumbers_any _ _ l m _ HV.out HU.out hl HE.out).mono ?_; rintro e w2 ⟨rfl, hb⟩; have HB2 := hid (below_step HB.out hb); clear hb))
  go_ret
  exact ⟨rfl, HB2.out⟩
end Go.Proofs.YtdepiggjneoopaaGreatDoor
