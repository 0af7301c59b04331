/- The statement of three numbers: TheveninLoads. -/
import Derived.Test.YtlgfpfjfoajjbaaParts2
namespace Go.Proofs.Ytlgfpfjfoajjbaa
open Go.RowKit

/-- What Load tells, of canonical numbers: the number, the error. -/
def loadSpec (v i l : Cx) : Cx × Int :=
  if cfin v && cfin i && cfin l then
    if cfin (cmul v (cdiv l (cadd i l))) then (cmul v (cdiv l (cadd i l)), 0) else ((0, 0), 6)
  else ((0, 0), 5)

set_option maxHeartbeats 400000 in
theorem rload_any (a b c d x y : Nat) (w : World) :
    Calls Try.prog 26 #[.complex .f64 a b, .complex .f64 c d, .complex .f64 x y] w (RetB (IsCE (loadSpec (fc a, fc b) (fc c, fc d) (fc x, fc y))) w) := by
  go_enter Try.func26, Try.ntmps26
  go_wp2_with (first | (go_at_call 47; refine (pfin_any _ _ _).mono ?_; rintro e w' ⟨v, n, rfl, rfl, rfl⟩) | (go_at_call 49; refine (rfin_any _ _ _).mono ?_; rintro e w' ⟨v, n, rfl, rfl, rfl⟩) | (go_at_call 46; refine (padd_any _ _ _ _ _).mono ?_; rintro e w' ⟨v, n, rfl, rfl, r1, i1, rfl, hri⟩) | (go_at_call 52; refine (pmul_any _ _ _ _ _).mono ?_; rintro e w' ⟨v, n, rfl, rfl, r1, i1, rfl, hri⟩) | (go_at_call 53; refine (pdiv_any _ _ _ _ _).mono ?_; rintro e w' ⟨v, n, rfl, rfl, r1, i1, rfl, hri⟩) | (go_at_call 48; refine (radd_any _ _ _ _ _).mono ?_; rintro e w' ⟨v, n, rfl, rfl, r1, i1, rfl, hri⟩) | (go_at_call 54; refine (rmul_any _ _ _ _ _).mono ?_; rintro e w' ⟨v, n, rfl, rfl, r1, i1, rfl, hri⟩) | (go_at_call 55; refine (rdiv_any _ _ _ _ _).mono ?_; rintro e w' ⟨v, n, rfl, rfl, r1, i1, rfl, hri⟩))
  all_goals (try rw [Exit.noGoto_ret])
  all_goals go_ret2
  all_goals refine ⟨_, rfl, ?_, _, _, _, rfl, ?_⟩
  all_goals (first | (show Below _ _ _; repeat (first | (refine below_n ?_ _) | (exact Below.refl _ _) | (refine Below.alloc ?_ (Nat.le_refl _) _))) | (show (_, _) = loadSpec _ _ _; simp_all [loadSpec, fc_zero]))

set_option maxHeartbeats 400000 in
theorem pload_any (a b c d x y : Nat) (w : World) :
    Calls Try.prog 25 #[.complex .f64 a b, .complex .f64 c d, .complex .f64 x y] w (RetB (IsCE (loadSpec (fc a, fc b) (fc c, fc d) (fc x, fc y))) w) := by
  go_enter Try.func25, Try.ntmps25
  go_wp2_with (first | (go_at_call 47; refine (pfin_any _ _ _).mono ?_; rintro e w' ⟨v, n, rfl, rfl, rfl⟩) | (go_at_call 49; refine (rfin_any _ _ _).mono ?_; rintro e w' ⟨v, n, rfl, rfl, rfl⟩) | (go_at_call 46; refine (padd_any _ _ _ _ _).mono ?_; rintro e w' ⟨v, n, rfl, rfl, r1, i1, rfl, hri⟩) | (go_at_call 52; refine (pmul_any _ _ _ _ _).mono ?_; rintro e w' ⟨v, n, rfl, rfl, r1, i1, rfl, hri⟩) | (go_at_call 53; refine (pdiv_any _ _ _ _ _).mono ?_; rintro e w' ⟨v, n, rfl, rfl, r1, i1, rfl, hri⟩) | (go_at_call 48; refine (radd_any _ _ _ _ _).mono ?_; rintro e w' ⟨v, n, rfl, rfl, r1, i1, rfl, hri⟩) | (go_at_call 54; refine (rmul_any _ _ _ _ _).mono ?_; rintro e w' ⟨v, n, rfl, rfl, r1, i1, rfl, hri⟩) | (go_at_call 55; refine (rdiv_any _ _ _ _ _).mono ?_; rintro e w' ⟨v, n, rfl, rfl, r1, i1, rfl, hri⟩))
  refine wp_loop_rounds 4 ?_
  repeat any_goals (rw [rounds_succ]; go_wp2_with (first | (go_at_call 47; refine (pfin_any _ _ _).mono ?_; rintro e w' ⟨v, n, rfl, rfl, rfl⟩) | (go_at_call 49; refine (rfin_any _ _ _).mono ?_; rintro e w' ⟨v, n, rfl, rfl, rfl⟩) | (go_at_call 46; refine (padd_any _ _ _ _ _).mono ?_; rintro e w' ⟨v, n, rfl, rfl, r1, i1, rfl, hri⟩) | (go_at_call 52; refine (pmul_any _ _ _ _ _).mono ?_; rintro e w' ⟨v, n, rfl, rfl, r1, i1, rfl, hri⟩) | (go_at_call 53; refine (pdiv_any _ _ _ _ _).mono ?_; rintro e w' ⟨v, n, rfl, rfl, r1, i1, rfl, hri⟩) | (go_at_call 48; refine (radd_any _ _ _ _ _).mono ?_; rintro e w' ⟨v, n, rfl, rfl, r1, i1, rfl, hri⟩) | (go_at_call 54; refine (rmul_any _ _ _ _ _).mono ?_; rintro e w' ⟨v, n, rfl, rfl, r1, i1, rfl, hri⟩) | (go_at_call 55; refine (rdiv_any _ _ _ _ _).mono ?_; rintro e w' ⟨v, n, rfl, rfl, r1, i1, rfl, hri⟩)))
  all_goals (try rw [Exit.noGoto_ret])
  all_goals go_ret2
  all_goals refine ⟨_, rfl, ?_, _, _, _, rfl, ?_⟩
  all_goals (first | (show Below _ _ _; repeat (first | (refine below_n ?_ _) | (exact Below.refl _ _) | (refine Below.alloc ?_ (Nat.le_refl _) _))) | (show (_, _) = loadSpec _ _ _; simp_all [loadSpec, fc_zero]))

/-- What Number makes, its memory told as 'nothing that was there has changed'. -/
theorem number_below (x y : Nat) (w : World) : Calls Try.prog 18 #[.agg #[.int .u64 x, .int .u64 y]] w fun e w' => e = .returned (.complex .f64 x y) ∧ Below w.heap.size w w' :=
  (number_any x y w).mono fun _ _ ⟨he, n, hw⟩ => ⟨he, by rw [hw]; exact below_n (Below.alloc (Below.refl _ _) (Nat.le_refl _) _) n⟩

set_option maxHeartbeats 400000 in
theorem loads_any (a b c d x y : Nat) (w : World) :
    Calls Try.prog 5 #[.agg #[.int .u64 a, .int .u64 b], .agg #[.int .u64 c, .int .u64 d], .agg #[.int .u64 x, .int .u64 y]] w fun e w' => e = .returned (.bool true) ∧ Below w.heap.size w w' := by
  go_enter Try.func5, Try.ntmps5
  go_wp2_with fail
  go_region_held3 (fun w' => Below w.heap.size w w' ∧ w'.cell? ⟨w.heap.size, 0, none⟩ = some (.int .u64 a) ∧ w'.cell? ⟨w.heap.size, 1, none⟩ = some (.int .u64 b) ∧ w'.cell? ⟨w.heap.size + 1, 0, none⟩ = some (.int .u64 c) ∧ w'.cell? ⟨w.heap.size + 1, 1, none⟩ = some (.int .u64 d) ∧ w'.cell? ⟨w.heap.size + 2, 0, none⟩ = some (.int .u64 x) ∧ w'.cell? ⟨w.heap.size + 2, 1, none⟩ = some (.int .u64 y)) (((try dsimp only); (try go_split_ands); refine ⟨?_, ?_, ?_, ?_, ?_, ?_, ?_⟩ <;> (first | exact below_step (by assumption) hb | exact cell_later hb (by assumption) | exact cell_at_new_drew (by simp) rfl | (go_grown; done) | (refine Below.drew ?_; assumption) | (go_keep; done)))) (first | (go_at_call 18; refine (number_below _ _ _).mono ?_; rintro e w' ⟨rfl, hb⟩) | (go_at_call 25; refine (pload_any _ _ _ _ _ _ _).mono ?_; rintro e w' ⟨v, rfl, hb, r1, i1, k1, rfl, hk1⟩) | (go_at_call 26; refine (rload_any _ _ _ _ _ _ _).mono ?_; rintro e w' ⟨v, rfl, hb, r1, i1, k1, rfl, hk1⟩))
  have HK1 := hid hk1
  clear hk1
  rename_i hH1
  go_wp2_with fail
  go_region_held3 (fun w' => Below w.heap.size w w' ∧ w'.cell? ⟨w.heap.size, 0, none⟩ = some (.int .u64 a) ∧ w'.cell? ⟨w.heap.size, 1, none⟩ = some (.int .u64 b) ∧ w'.cell? ⟨w.heap.size + 1, 0, none⟩ = some (.int .u64 c) ∧ w'.cell? ⟨w.heap.size + 1, 1, none⟩ = some (.int .u64 d) ∧ w'.cell? ⟨w.heap.size + 2, 0, none⟩ = some (.int .u64 x) ∧ w'.cell? ⟨w.heap.size + 2, 1, none⟩ = some (.int .u64 y)) (((try dsimp only); (try go_split_ands); refine ⟨?_, ?_, ?_, ?_, ?_, ?_, ?_⟩ <;> (first | exact below_step (by assumption) hb | exact cell_later hb (by assumption) | exact cell_at_new_drew (by simp) rfl | (go_grown; done) | (refine Below.drew ?_; assumption) | (go_keep; done)))) (first | (go_at_call 18; refine (number_below _ _ _).mono ?_; rintro e w' ⟨rfl, hb⟩) | (go_at_call 25; refine (pload_any _ _ _ _ _ _ _).mono ?_; rintro e w' ⟨v, rfl, hb, r1, i1, k1, rfl, hk1⟩) | (go_at_call 26; refine (rload_any _ _ _ _ _ _ _).mono ?_; rintro e w' ⟨v, rfl, hb, r1, i1, k1, rfl, hk1⟩))
  rename_i hH2
  have ek := HK1.out.trans hk1.symm
  have e1 := (Prod.mk.inj ek).1
  have e2 := (Prod.mk.inj ek).2
  have e3 := (Prod.mk.inj e1).1
  have e4 := (Prod.mk.inj e1).2
  clear ek e1 HK1 hk1
  go_wp2_with (go_at_call 27; refine (samenum_any _ _ _ _ _).mono ?_; rintro e w' ⟨rfl, rfl⟩)
  all_goals go_ret
  all_goals exact ⟨ret_bool (by simp_all), hH2.1⟩
end Go.Proofs.Ytlgfpfjfoajjbaa
