/- a part of the proof of the last text -/
import Derived.Test.YtdepiggjneoopaaGreatDoorZTp1
import Derived.Test.YtdepiggjneoopaaGreatDoorZAng
namespace Go.Proofs.YtdepiggjneoopaaGreatDoor
set_option linter.all false
set_option maxHeartbeats 4000000
set_option maxRecDepth 100000
open Go.RowKit
/-- A matrix and an error. -/
def RetM2 (S : (Nat × List Cx) × Int) (w : World) (e : Ending) (w' : World) : Prop :=
  ∃ (v : Value) (xs : List Cx), e = .returned (.tuple #[.agg #[.int .i64 S.1.1, .int .i64 S.1.1, v], .int .i64 S.2]) ∧ xs.map ck = S.1.2 ∧ w'.ownsRow w.heap.size 48 1 v xs.length (xs.map mkC) ∧ Below w.heap.size w w'
def told4S (k : Int) (a b c d : Cx) : (Nat × List Cx) × Int := if k ≠ 0 then ((0, []), k) else if fin4 a b c d = true then ((2, [ck a, ck b, ck c, ck d]), 0) else ((0, []), 6)
theorem RetM2.bad {S : (Nat × List Cx) × Int} {k : Int} {w w' : World} (h : S = ((0, []), k)) (hb : Below w.heap.size w w') : RetM2 S w (.returned (.tuple #[.agg #[.int .i64 0, .int .i64 0, .slice none 0 0], .int .i64 k])) w' :=
  ⟨_, [], by rw [h]; rfl, by rw [h]; rfl, World.ownsRow_nil _ _ _ _, hb⟩
theorem cells4_own {w w' : World} {q : Nat} {a b c d : Cx} (hq : w.heap.size ≤ q) (h : w'.heap[q]? = some (.cells #[mkC a, mkC b, mkC c, mkC d] 48 (0, 0))) : w'.ownsRow w.heap.size 48 1 (.slice (some ⟨q, 0, none⟩) 4 4) 4 ([a, b, c, d].map mkC) := by
  exact ⟨rfl, .inr ⟨q, 4, #[mkC a, mkC b, mkC c, mkC d], rfl, hq, h, Nat.le_refl _, by decide, rfl, rfl⟩⟩
theorem below_m3 {B gt : Nat} {w u : World} {a0 a1 a2 : Value} (h : Below B w u) (hg : B ≤ gt) : Below B w (((u.setCell ⟨gt, 0, none⟩ a0).setCell ⟨gt, 1, none⟩ a1).setCell ⟨gt, 2, none⟩ a2) :=
  ((h.setCell (p := ⟨gt, 0, none⟩) hg a0).setCell (p := ⟨gt, 1, none⟩) hg a1).setCell (p := ⟨gt, 2, none⟩) hg a2
theorem grown_m3 (u : World) (gt : Nat) (a0 a1 a2 : Value) : u.grownBy (((u.setCell ⟨gt, 0, none⟩ a0).setCell ⟨gt, 1, none⟩ a1).setCell ⟨gt, 2, none⟩ a2) (some gt) :=
  grown_trans (grown_trans (set1_grown u gt 0 _) (set1_grown _ gt 1 _)) (set1_grown _ gt 2 _)
theorem results_cell1Q {fn : Func} {p : Tmp} {ty : TypeId} (h : fn.results = #[.cell p ty]) (tmps : Array Value) (P : Program) (w : World) :
    (results fn tmps).run P w = ((asAddr (tmps.getD p undef)).run P w).andThen fun a w₁ => (loadVar ty a).run P w₁ := by
  simp only [results, h]
  simp [Sem.run_bind, Result.andThen]
theorem enter_over1 (args : Array Value) (w : World) : (callFunc 78 args).run Tryz.prog w = .ok (.enter 78 args) w := by
  have h : (Tryz.f78.name == "runtime.NumGoroutine") = false := by kernel_rfl
  have h2 : Tryz.f78.body.isNone = false := by kernel_rfl
  simp only [callFunc, Sem.run_bind, run_program, Result.andThen_ok, Tryz.func78, h, h2, Bool.false_eq_true, if_false, Sem.run_pure]
def tw (R : Nat) : Nat := fmul 4611686018427387904 R
def sP (A : Cx) (R : Nat) : Cx := cadd A (R, 0)
def sM (A : Cx) (R : Nat) : Cx := csub A (R, 0)
def sD (A B C D : Cx) (R : Nat) : Cx := csub (cmul (sP A R) (sP D R)) (cmul B C)
def o1 (A B C D : Cx) (R : Nat) : Cx := cdiv (csub (cmul (sM A R) (sP D R)) (cmul B C)) (sD A B C D R)
def o2 (A B C D : Cx) (R : Nat) (Z : Cx) : Cx := cdiv (cscale (tw R) Z) (sD A B C D R)
def o4 (A B C D : Cx) (R : Nat) : Cx := cdiv (csub (cmul (sP A R) (sM D R)) (cmul B C)) (sD A B C D R)
def sE (A B C D : Cx) (R : Nat) : Int := if czero (sD A B C D R) = true then 7 else if ffin (tw R) = true then 0 else 6
/-- What S tells of four numbers, all finite, and a real. -/
def sS (A B C D : Cx) (ref : Nat) : (Nat × List Cx) × Int :=
  if angE ref ≠ 0 then ((0, []), angE ref) else told4S (sE A B C D (fc ref)) (o1 A B C D (fc ref)) (o2 A B C D (fc ref) B) (o2 A B C D (fc ref) C) (o4 A B C D (fc ref))
theorem told_ck {k : Int} {a b c d a' b' c' d' : Cx} (h1 : ck a = ck a') (h2 : ck b = ck b') (h3 : ck c = ck c') (h4 : ck d = ck d') : told4S k a b c d = told4S k a' b' c' d' := by
  unfold told4S fin4; rw [h1, h2, h3, h4]
set_option maxRecDepth 100000 in
set_option maxHeartbeats 1000000 in
theorem f4list_any (a b c d : Cx) (w : World) :
    Calls Tryz.prog 42 #[mk4 a b c d] w (fun e w' => ∃ q, e = .returned (.agg #[.int .i64 2, .int .i64 2, .slice (some ⟨q, 0, none⟩) 4 4]) ∧ w.heap.size ≤ q ∧ w'.heap[q]? = some (.cells #[mkC a, mkC b, mkC c, mkC d] 48 (0, 0)) ∧ Below w.heap.size w w') := by
  obtain ⟨t1, t2, t3⟩ := two_blks w #[mkC a, mkC b, mkC c, mkC d] #[.int .i64 0, .int .i64 0, .slice none 0 0] 82 43
  have HS := hid t1
  have HT := hid t2
  have HB := hid t3
  clear t1 t2 t3
  go_enter Tryz.func42, Tryz.ntmps42
  go_upto_region 1 with fail
  generalize (w.alloc (.cells #[mkC a, mkC b, mkC c, mkC d] 82)).alloc (.cells #[.int .i64 0, .int .i64 0, .slice none 0 0] 43) = w1 at *
  obtain ⟨gs, hgs⟩ : ∃ gs, w.heap.size = gs := ⟨_, rfl⟩
  obtain ⟨gt, hgt⟩ : ∃ gt, gs + 1 = gt := ⟨_, rfl⟩
  have HLE := hid (show w.heap.size ≤ gt by omega)
  rw [hgs] at HS HT ⊢
  rw [hgt] at HT ⊢
  clear hgs hgt
  have hsc := block_cells HS.out
  have s0 := hsc.1 0 _ rfl
  have s1 := hsc.1 1 _ rfl
  have s2 := hsc.1 2 _ rfl
  have s3 := hsc.1 3 _ rfl
  have hsc := block_cells HT.out
  have t0 := hsc.1 0 _ rfl
  have t1 := hsc.1 1 _ rfl
  have t2 := hsc.1 2 _ rfl
  have f0 := hsc.2 0
  have f1 := hsc.2 1
  have f2 := hsc.2 2
  clear hsc
  have hsc := block_cells (heap_past_of (o' := (.cells #[mkC a, mkC b, mkC c, mkC d] 48)) HT.out)
  have n0 := hsc.1 0 _ rfl
  have n1 := hsc.1 1 _ rfl
  have n2 := hsc.1 2 _ rfl
  have m0 := hsc.2 0
  have m1 := hsc.2 1
  have m2 := hsc.2 2
  clear hsc t0 t1 t2 f0 f1 f2
  have HNE := hid (show w1.heap.size ≠ gt from fun e => by have := (Array.getElem?_eq_some_iff.1 HT.out).1; omega)
  have HLQ := hid (show w.heap.size ≤ w1.heap.size from HB.out.size)
  have HQ := hid (heap_alloc_new w1 (.cells #[mkC a, mkC b, mkC c, mkC d] 48))
  have HBA := hid (HB.out.alloc HB.out.size (.cells #[mkC a, mkC b, mkC c, mkC d] 48))
  go_wp2
  (try simp only [Exit.inBlock, Exit.then])
  (try rw [Exit.noGoto_ret])
  refine bodyPost_ret (v := .agg #[.int .i64 2, .int .i64 2, .slice (some ⟨w1.heap.size, 0, none⟩) 4 4]) ?_ rfl ⟨_, rfl, HLQ.out, heap_nextG (grown_m3 _ gt _ _ _) HNE.out HQ.out, below_m3 HBA.out HLE.out⟩
  rw [results_cell1Q rfl]
  go_simp
/-- What is wrong with a number that is to be divided by. -/
def ovrE (d : Cx) : Int := if czero (ck d) = true then 7 else 0
set_option maxRecDepth 100000 in
set_option maxHeartbeats 1000000 in
theorem over_any4 (d : Cx) (w : World) :
    Calls Tryz.prog 46 #[mkC d] w (fun e w' => ∃ g, e = .returned (.tuple #[.func (.func 78) #[] #[.pointer (some ⟨g, 0, none⟩)], .int .i64 (ovrE d)]) ∧ w.heap.size ≤ g ∧ w'.heap[g]? = some (.cells #[mkC d] 48 (0, 0)) ∧ Below w.heap.size w w') := by
  have hb1 := (Below.refl w.heap.size w).alloc (Nat.le_refl _) (.cells #[mkC d] 48)
  have HS := hid (heap_alloc_new w (.cells #[mkC d] 48))
  have HB := hid hb1
  clear hb1
  cases hz : czero (fc d.1, fc d.2)
  all_goals
    have he : ovrE d = (if czero (fc d.1, fc d.2) = true then 7 else 0) := rfl
    rw [hz] at he
    have HE := hid he
    have HZ := hid hz
    clear hz he
    go_enter Tryz.func46, Tryz.ntmps46
    go_upto_region 1 with fail
    generalize w.alloc (.cells #[mkC d] 48) = w1 at *
    have c0 := (block_cells HS.out).1 0 _ rfl
    go_wp2_with (go_at_call 77; refine (pzero_any _ _ _).mono ?_; rintro e w' ⟨rfl, rfl⟩; rw [HZ.out])
    (try simp only [Exit.inBlock, Exit.then])
    (try rw [Exit.noGoto_ret])
    refine bodyPost_ret (v := .tuple #[.func (.func 78) #[] #[.pointer (some ⟨w.heap.size, 0, none⟩)], .int .i64 (ovrE d)]) ?_ rfl ⟨_, rfl, Nat.le_refl _, HS.out, HB.out⟩
    rw [results_tmp2 rfl, HE.out]; rfl
set_option maxRecDepth 100000 in
set_option maxHeartbeats 1000000 in
theorem over1_any (z d : Cx) (g : Nat) (w : World) (h : w.heap[g]? = some (.cells #[mkC d] 48 (0, 0))) :
    Calls Tryz.prog 78 #[mkC z, .pointer (some ⟨g, 0, none⟩)] w (Ret (IsC (cdiv (ck z) (ck d))) w) := by
  have c0 := (block_cells h).1 0 _ rfl
  go_enter Tryz.func78, Tryz.ntmps78
  go_wp2_with (go_at_call 79; refine (pdiv_any _ _ _ _ _).mono ?_; rintro e w' ⟨_, n, rfl, rfl, r, i, rfl, hz⟩)
  (try simp only [Exit.inBlock, Exit.then])
  (try rw [Exit.noGoto_ret])
  go_ret
  exact ⟨_, _, rfl, rfl, r, i, rfl, hz⟩
end Go.Proofs.YtdepiggjneoopaaGreatDoor
