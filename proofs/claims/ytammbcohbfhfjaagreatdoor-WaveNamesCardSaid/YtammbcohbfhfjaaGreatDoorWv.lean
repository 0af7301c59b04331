/- wave.Row, by a walk: what it returns, and that it only makes memory. -/
import Derived.Test.YtammbcohbfhfjaaGreatDoorRows
import Derived.Test.YtammbcohbfhfjaaGreatDoorFlat
import Derived.Test.YtammbcohbfhfjaaGreatDoorEvC
namespace Go.Proofs.YtammbcohbfhfjaaGreatDoor
open Go.RowKit

theorem frombits_law (n : Int) (w : World) : (callFunc 89 #[.int .u64 n]).run Tryz.prog w = .ok (.value (.float .f64 n.toNat)) w := by
  rw [run_callFunc_extern Tryz.func89 (by kernel_rfl) (by kernel_rfl) (by kernel_rfl) (e := Extern.MathFloatBits.float64frombits) (by kernel_rfl)]
  rfl

/-- A tone: its Size by its bits, its Phase, its Harmonic. -/
abbrev Tn := Nat × Int × Int

def ta (t : Tn) : List Value := [.float .f64 t.1, .int .i64 t.2.1, .int .i64 t.2.2]

theorem infoTa : (Tryz.prog.info? 24).map (fun i => (i.zero, i.size, i.bytes)) = some (some (.agg #[.float .f64 0, .int .i64 0, .int .i64 0]), 3, 24) := by kernel_rfl

theorem own_none {w w' : World} {base e size n : Nat} {v : Value} {xs : List Value} (h : w.ownsRow base e size v n xs) (hg : w.grownBy w' none) : w'.ownsRow base e size v n xs := h.kept hg (by cases v.ownBlock <;> simp)

theorem grown_of_below {w w1 : World} (hb : Below w.heap.size w w1) (r : Option Nat) : w.grownBy w1 r := ⟨hb.os, hb.tape, hb.output, hb.size, fun k hk _ => hb.block k hk⟩

/-- The cosine of 0 to 6 steps, by its bits. -/
def cst (k : Int) : Nat :=
  if k = 0 then 4607182418800017408 else if k = 1 then 4606875505927962389 else if k = 2 then 4605975682916830378 else if k = 3 then 4604544271217802189
  else if k = 4 then 4602678819172646912 else if k = 5 then 4598334089338226320 else 0
/-- The cosine of 0 to 23 steps. -/
def cosb (k : Int) : Nat :=
  if 17 < k then cst (24 - k) else if 12 < k then Op.negFloat .f64 (cst (k - 12)) else if 6 < k then Op.negFloat .f64 (cst (12 - k)) else cst k
/-- The root of a number of steps. -/
def root (k : Int) : Cx := (cosb (k % 24), cosb ((k + 18) % 24))
theorem cosb_fin (k : Int) (h : 0 ≤ k) (h2 : k < 24) : fc (cosb k) = cosb k := by
  obtain ⟨m, rfl⟩ := Int.eq_ofNat_of_zero_le h
  have : ∀ m : Fin 24, fc (cosb (m.val : Int)) = cosb (m.val : Int) := by decide +kernel
  exact this ⟨m, by omega⟩
theorem run_negf {P : Program} (x : Nat) (w : World) : (Op.unary .neg (.float .f64 x)).run P w = .ok (.float .f64 (Op.negFloat .f64 x)) w := rfl

set_option maxHeartbeats 400000 in
theorem tconst_any (k : Int) (w : World) :
    Calls Tryz.prog 55 #[.int .i64 k] w fun e w' => e = .returned (.float .f64 (cst k)) ∧ w = w' := by
  have b2 := frombits_law
  have hc : k = 0 ∨ k = 1 ∨ k = 2 ∨ k = 3 ∨ k = 4 ∨ k = 5 ∨ (k ≠ 0 ∧ k ≠ 1 ∧ k ≠ 2 ∧ k ≠ 3 ∧ k ≠ 4 ∧ k ≠ 5) := by omega
  rcases hc with rfl | rfl | rfl | rfl | rfl | rfl | ⟨h0, h1, h2, h3, h4, h5⟩
  all_goals (go_enter Tryz.func55, Tryz.ntmps55)
  all_goals go_wp2
  all_goals (try go_ret)
  all_goals (first | exact ⟨rfl, rfl⟩ | exact ⟨by simp [cst, *], rfl⟩)

set_option maxHeartbeats 400000 in
theorem tcos_any (k : Int) (w : World) (h : 0 ≤ k) (h2 : k < 24) :
    Calls Tryz.prog 25 #[.int .i64 k] w fun e w' => e = .returned (.float .f64 (cosb k)) ∧ w = w' := by
  have hn := fun (x : Nat) (w : World) => run_negf (P := Tryz.prog) x w
  have hc : 17 < k ∨ (¬ 17 < k ∧ 12 < k) ∨ (¬ 17 < k ∧ ¬ 12 < k ∧ 6 < k) ∨ (¬ 17 < k ∧ ¬ 12 < k ∧ ¬ 6 < k) := by omega
  rcases hc with h3 | ⟨h3, h4⟩ | ⟨h3, h4, h5⟩ | ⟨h3, h4, h5⟩
  all_goals (go_enter Tryz.func25, Tryz.ntmps25)
  all_goals (go_wp2_with (go_at_call 55; refine (tconst_any _ _).mono ?_; rintro e w' ⟨rfl, rfl⟩))
  all_goals (try rw [Exit.noGoto_ret])
  all_goals go_ret
  all_goals exact ⟨congrArg (fun x => Ending.returned (.float .f64 x)) (by unfold cosb; repeat (first | rw [if_pos (by omega)] | rw [if_neg (by omega)])), rfl⟩

theorem mod_p (n : Int) : (Int.tmod n 24 + 24).tmod 24 = n % 24 := by
  have h : Int.tmod n 24 = _ := Int.tmod_eq_emod
  rw [h]
  have h1 := Int.emod_nonneg n (show (24 : Int) ≠ 0 by decide)
  have h2 := Int.emod_lt_of_pos n (show (0 : Int) < 24 by decide)
  split
  · rw [Int.tmod_eq_emod_of_nonneg (by omega)]; omega
  · have : (24 : Int).natAbs = 24 := rfl
    rw [this, Int.tmod_eq_emod_of_nonneg (by omega)]; omega
theorem tmod_in (n : Int) : -23 ≤ Int.tmod n 24 ∧ Int.tmod n 24 ≤ 23 := by
  have h : Int.tmod n 24 = _ := Int.tmod_eq_emod
  rw [h]
  have h1 := Int.emod_nonneg n (show (24 : Int) ≠ 0 by decide)
  have h2 := Int.emod_lt_of_pos n (show (0 : Int) < 24 by decide)
  have h3 : (24 : Int).natAbs = 24 := rfl
  split
  · omega
  · rename_i h4
    have : n % 24 ≠ 0 := fun e => h4 (.inr (Int.dvd_of_emod_eq_zero e))
    rw [h3]; omega
theorem wrap_mod (n : Int) : wrap64 (Int.tmod n 24 + 24) = Int.tmod n 24 + 24 := by
  have := tmod_in n
  unfold wrap64; omega
set_option maxHeartbeats 400000 in
theorem troot_any (k : Int) (w : World) :
    Calls Tryz.prog 12 #[.int .i64 k] w fun e w' => e = .returned (.complex .f64 (root k).1 (root k).2) ∧ w = w' := by
  have hw := wrap_mod k
  obtain ⟨m, hm⟩ : ∃ m, k % 24 = m := ⟨_, rfl⟩
  have h1 := Int.emod_nonneg k (show (24 : Int) ≠ 0 by decide)
  have h2 := Int.emod_lt_of_pos k (show (0 : Int) < 24 by decide)
  have hp := mod_p k
  have hr : root k = (cosb m, cosb ((m + 18) % 24)) := by unfold root; rw [show (k + 18) % 24 = (m + 18) % 24 by omega, hm]
  rw [hm] at h1 h2 hp
  rw [hr]
  clear hm hr
  go_enter Tryz.func12, Tryz.ntmps12
  go_wp2_with (go_at_call 25; refine (tcos_any _ _ (by omega) (by omega)).mono ?_; rintro e w' ⟨rfl, rfl⟩)
  go_ret
  exact ⟨rfl, rfl⟩

set_option maxHeartbeats 400000 in
theorem wround_any (k : Int) (w : World) :
    Calls Tryz.prog 13 #[.int .i64 k] w fun e w' => e = .returned (.int .i64 (k % 24)) ∧ w = w' := by
  have hw := wrap_mod k
  have hp := mod_p k
  go_enter Tryz.func13, Tryz.ntmps13
  go_wp2
  go_ret
  exact ⟨rfl, rfl⟩
theorem mul_24 {a b : Int} (h0 : 0 ≤ a) (h1 : a < 24) (h2 : 0 ≤ b) (h3 : b < 24) : 0 ≤ a * b ∧ a * b ≤ 529 := by
  refine ⟨Int.mul_nonneg h0 h2, ?_⟩
  have : a * b ≤ 23 * 23 := Int.mul_le_mul (by omega) (by omega) h2 (by omega)
  omega
theorem emod24 (k : Int) : 0 ≤ k % 24 ∧ k % 24 < 24 := ⟨Int.emod_nonneg _ (by decide), Int.emod_lt_of_pos _ (by decide)⟩
set_option maxHeartbeats 400000 in
theorem wtimes_any (a b : Int) (w : World) :
    Calls Tryz.prog 14 #[.int .i64 a, .int .i64 b] w fun e w' => e = .returned (.int .i64 ((a % 24) * (b % 24) % 24)) ∧ w = w' := by
  obtain ⟨h0, h1⟩ := mul_24 (emod24 a).1 (emod24 a).2 (emod24 b).1 (emod24 b).2
  have hw : wrap64 (a % 24 * (b % 24)) = a % 24 * (b % 24) := by
    generalize a % 24 * (b % 24) = x at *
    unfold wrap64; omega
  clear h0 h1
  go_enter Tryz.func14, Tryz.ntmps14
  go_wp2_with (go_at_call 13; refine (wround_any _ _).mono ?_; rintro e w' ⟨rfl, rfl⟩)
  go_ret
  exact ⟨rfl, rfl⟩

/-- The angle of a tone at a step. -/
def angl (ph h at_ : Int) : Int := ((h % 24) * (at_ % 24) + ph % 24) % 24

theorem root_congr {a b : Int} (h : a % 24 = b % 24) : root a = root b := by
  unfold root
  rw [show (a + 18) % 24 = (b + 18) % 24 by omega, h]
/-- What a tone adds at a step. -/
def termb (t : Tn) (n : Int) : Nat := fmul (fc t.1) (root (angl t.2.1 t.2.2 n)).1
/-- What is heard at a step, up to a NaN's bits. -/
def smp (l : List Tn) (n : Int) : Nat := l.foldl (fun s t => fadd s (termb t n)) 0
theorem smp_snoc (l : List Tn) (n : Int) (k : Nat) (x : Tn) (h : l[k]? = some x) : smp (l.take (k + 1)) n = fadd (smp (l.take k) n) (termb x n) := by
  obtain ⟨hk, hx⟩ := List.getElem?_eq_some_iff.1 h
  unfold smp
  rw [List.take_succ_eq_append_getElem hk, List.foldl_append, hx]; rfl
theorem root_fc (k : Int) : fc (root k).1 = (root k).1 := cosb_fin _ (emod24 k).1 (emod24 k).2
theorem smp_step {l : List Tn} {n : Int} {k : Nat} {x : Tn} {s r p : Nat} (h : l[k]? = some x) (hs : fc s = smp (l.take k) n) (hp : fc p = fop .mul (fc x.1) (fc (root (angl x.2.1 x.2.2 n)).1)) (hr : fc r = fop .add (fc s) (fc p)) :
    fc r = smp (l.take (k + 1)) n := by
  rw [smp_snoc l n k x h, hr, hs, hp, root_fc]; rfl
theorem root_angl (p h n : Int) : root (p % 24 + h % 24 * (n % 24) % 24) = root (angl p h n) := root_congr (by unfold angl; omega)

set_option maxRecDepth 100000 in
set_option maxHeartbeats 1000000 in
theorem wsample_any (v : Value) (l : List Tn) (n : Int) (w : World) (hv : IsSl w 3 v l.length (l.flatMap ta)) (hl : l.length ≤ 140737488355328) :
    Calls Tryz.prog 4 #[v, .int .i64 n] w (RetB (IsF (smp l n)) w) := by
  obtain ⟨a, c, rfl⟩ := hv.form
  obtain ⟨i0, hi, hz0, hz1, hz2⟩ := info_parts infoTa
  go_enter Tryz.func4, Tryz.ntmps4
  go_wp2
  go_loopw [5, 11] (fun t i wr => ∃ (k s : Nat), k ≤ l.length ∧ i = .int .i64 k ∧ t = .float .f64 s ∧ fc s = smp (l.take k) n ∧ Below w.heap.size w wr) (fun _ i _ => l.length - (intOf i).toNat)
  case atStart => exact ⟨0, 0, Nat.zero_le _, rfl, rfl, fc_zero, Below.refl _ _⟩
  case round =>
    obtain ⟨k, s, hk, rfl, rfl, hs, hb⟩ := hrel
    by_cases hlt : k < l.length
    · obtain ⟨g, o, x, hidx, hg, hx, hcell⟩ := IsSl.atF Tryz.underlying25 hi hz1 (fun _ => rfl) hv rfl hlt
      have c0 := (hb.cell (p := ⟨g, o + 0, none⟩) hg).trans (hcell 0 _ rfl)
      have c1 := (hb.cell (p := ⟨g, o + 1, none⟩) hg).trans (hcell 1 _ rfl)
      have c2 := (hb.cell (p := ⟨g, o + 2, none⟩) hg).trans (hcell 2 _ rfl)
      rw [Nat.add_zero] at c0
      have hw1 : IntKind.i64.wrap (x.2.1 % 24 + x.2.2 % 24 * (n % 24) % 24) = x.2.1 % 24 + x.2.2 % 24 * (n % 24) % 24 := by
        have h1 := emod24 x.2.1
        have h2 := emod24 (x.2.2 % 24 * (n % 24))
        exact IntWalk.i64_in _ (by omega)
      have hra := root_angl x.2.1 x.2.2 n
      have HX := hid hx
      have HB := hid hb
      have HS := hid hs
      clear hx hb hs hcell
      go_wp2_with fail
      go_quiet (first | (go_at_call 13; exact Calls.quiet_same (wround_any _ _)) | (go_at_call 14; exact Calls.quiet_same (wtimes_any _ _ _)) | (go_at_call 12; exact Calls.quiet_same (troot_any _ _)))
      go_wp2_with (refine wpList_float rfl _ _ _ _ _ rfl rfl _ _ rfl rfl ?_; intro _ _ _)
      go_roundw
      case rel => exact ⟨k + 1, _, by omega, by go_num, rfl, smp_step HX.out HS.out (by assumption) (by assumption), by repeat (first | exact HB.out | refine below_n ?_ _ | refine Below.alloc ?_ HB.out.size _)⟩
      case measure => simp [intOf]; omega
    · go_wp2
      go_ret
      obtain rfl : k = l.length := by omega
      exact ⟨_, rfl, hb, _, rfl, by rw [hs, List.take_length]⟩


theorem infoF : (Tryz.prog.info? 22).map (fun i => (i.zero, i.size, i.bytes)) = some (some (.float .f64 0), 1, 8) := by kernel_rfl

/-- What is heard at the first n steps. -/
def smps (l : List Tn) (n : Nat) : List Nat := (List.range n).map fun k : Nat => smp l k
theorem smps_succ (l : List Tn) (n : Nat) : smps l (n + 1) = smps l n ++ [smp l n] := range_succ_map _ _
theorem smps_len (l : List Tn) (n : Nat) : (smps l n).length = n := by simp [smps]
/-- A row: the reals, up to NaN's bits; or the error. -/
def rowSpec (l : List Tn) (n : Int) : List Nat × Int := if n < 0 ∨ 65536 < n then ([], 2) else (smps l n.toNat, 0)
/-- A slice of reals of its own, and an error. -/
def RetRe (S : List Nat × Int) (w : World) (en : Ending) (w' : World) : Prop :=
  ∃ (v : Value) (k : Int) (xs : List Nat), en = .returned (.tuple #[v, .int .i64 k]) ∧ w'.ownsRow w.heap.size 22 1 v xs.length (xs.map (Value.float .f64)) ∧ (xs.map fc, k) = S ∧ Below w.heap.size w w'


theorem set_fill (xs : List Nat) (k m r : Nat) (h : xs.length = k) (hk : k < m) :
    (xs.map (Value.float .f64) ++ List.replicate (m - k) (Value.float .f64 0)).set k (.float .f64 r) = (xs ++ [r]).map (Value.float .f64) ++ List.replicate (m - (k + 1)) (Value.float .f64 0) := by
  have hl : (xs.map (Value.float .f64)).length = k := by rw [List.length_map, h]
  rw [List.set_append_right _ _ (by omega), hl, Nat.sub_self, show m - k = (m - (k + 1)) + 1 by omega, List.replicate_succ, List.set_cons_zero, List.map_append, List.append_assoc]
  rfl
set_option maxRecDepth 100000 in
set_option maxHeartbeats 1000000 in
theorem wrow_any (v : Value) (l : List Tn) (n : Int) (w : World) (hv : IsSl w 3 v l.length (l.flatMap ta)) (hl : l.length ≤ 140737488355328) :
    Calls Tryz.prog 5 #[v, .int .i64 n] w (RetRe (rowSpec l n) w) := by
  obtain ⟨a, c, rfl⟩ := hv.form
  obtain ⟨i0, hi, hz0, hz1, hz2⟩ := info_parts infoF
  by_cases hbad : n < 0 ∨ 65536 < n
  · have hs : rowSpec l n = ([], 2) := if_pos hbad
    rw [hs]
    clear hs
    rcases hbad with hbad | hbad
    · go_enter Tryz.func5, Tryz.ntmps5
      go_wp2
      go_ret2
      exact ⟨_, _, [], rfl, World.ownsRow_nil _ _ _ _, rfl, Below.refl _ _⟩
    · have h0 : ¬ n < 0 := by omega
      go_enter Tryz.func5, Tryz.ntmps5
      go_wp2
      go_ret2
      exact ⟨_, _, [], rfl, World.ownsRow_nil _ _ _ _, rfl, Below.refl _ _⟩
  · have hs : rowSpec l n = (smps l n.toNat, 0) := if_neg hbad
    rw [hs]
    obtain ⟨m, rfl⟩ := Int.eq_ofNat_of_zero_le (show 0 ≤ n by omega)
    have hm : m ≤ 65536 := by omega
    have h0 : ¬ (m : Int) < 0 := by omega
    have h1 : ¬ 65536 < (m : Int) := by omega
    clear hs hbad
    rw [Int.toNat_natCast]
    go_enter Tryz.func5, Tryz.ntmps5
    go_wp2_with (refine wpList_make_full _ rfl _ _ _ rfl w.heap.size 22 i0 (.float .f64 0) 1 Tryz.underlying27 hi hz0 hz1 .i64 .i64 _ _ m rfl rfl rfl rfl (by rw [hz2]; omega) (by simp [maxLen]; omega) (Nat.le_refl _) ?_; intro w1 hown1 hgr1)
    have hown0 : w1.ownsRow w.heap.size 22 1 (.slice (some ⟨w.heap.size, 0, none⟩) m m) m (List.replicate m (Value.float .f64 0)) := by
      have h := hown1
      rw [Nat.mul_one, show (Value.float .f64 0).cells = #[.float .f64 0] from rfl, toList_madeCells_one] at h
      exact h
    have HB0 := hid (show Below w.heap.size w w1 from (Below.refl _ _).grown hgr1 (Nat.le_refl _) (by intro k e; cases e))
    clear hown1 hgr1
    generalize (some ⟨w.heap.size, 0, none⟩ : Option Addr) = a1 at *
    have HOWN := hid hown0
    clear hown0
    go_wp2
    go_loopw [17] (fun i wr => ∃ (k : Nat) (xs : List Nat), k ≤ m ∧ i = .int .i64 k ∧ xs.length = k ∧ wr.ownsRow w.heap.size 22 1 (.slice a1 m m) m (xs.map (Value.float .f64) ++ List.replicate (m - k) (.float .f64 0)) ∧ xs.map fc = smps l k ∧ Below w.heap.size w wr) (fun i _ => m - (intOf i).toNat)
    case atStart => exact ⟨0, [], Nat.zero_le _, rfl, rfl, by simpa using HOWN.out, rfl, HB0.out⟩
    case round =>
      obtain ⟨k, xs, hk, rfl, hlen, hown, hxs, hb⟩ := hrel
      by_cases hlt : k < m
      · have hv1 := hv.below hb (Nat.le_refl _)
        have HB := hid hb
        have HXS := hid hxs
        have HO := hid hown
        have HLEN := hid hlen
        clear hb hxs hown hlen
        go_wp2_with fail
        refine (wsample_any _ l k _ hv1 hl).mono ?_
        rintro e w1 ⟨v1, rfl, hb1, r1, rfl, hr1⟩
        have HB1 := hid (below_step HB.out hb1)
        have hown : w1.ownsRow w.heap.size 22 1 (.slice a1 m m) m (xs.map (Value.float .f64) ++ List.replicate (m - k) (.float .f64 0)) := own_none HO.out (grown_of_below hb1 _)
        have HR := hid hr1
        clear hb1 hr1 hv1
        obtain ⟨g, x, hidx, hB, hg, hcell, hx, hfr, hob, hst⟩ := own_at1 Tryz.underlying27 hi hz1 hown hlt
        have HO1 := hid (hst w1 hown (.float .f64 r1)).1
        have HGB := hid hB
        clear hx hob hst hown
        go_wp2_with fail
        go_roundw
        case rel =>
          refine ⟨k + 1, xs ++ [r1], by omega, by go_num, by simp [HLEN.out], ?_, ?_, HB1.out.setCell HGB.out _⟩
          · rw [← set_fill xs k m r1 HLEN.out hlt]; exact HO1.out
          · rw [List.map_append, HXS.out, smps_succ, List.map_cons, List.map_nil, HR.out]
        case measure => simp [intOf]; omega
      · go_wp2
        go_ret2
        obtain rfl : k = m := by omega
        exact ⟨_, _, xs, rfl, by rw [hlen]; simpa using hown, by rw [hxs], hb⟩

section
open Go.Ev
theorem relL_plain {ρ : Env} : ∀ {l xs : List Value}, relL ρ (l.map AC.c) xs → xs = l
  | [], [], _ => rfl
  | a :: l, x :: xs, h => by
    have e : x = a := h.1
    rw [e, relL_plain h.2]
  | [], _ :: _, h => h.elim
  | _ :: _, [], h => h.elim
/-- wave.Row as a call that is known with its memory: what the new row holds is left open. -/
theorem wrow_me {E : Kn} {H0 : T AObj} (hB : Base E H0) (l : List Tn) (id n : Nat) (ty : TypeId) (kd : RK) (cap : Cap) (hl : l.length ≤ 1000) (hid : Nat.blt id n = true) :
    MCall Tryz.prog E 5 [.o (.s id 0 l.length cap), .o (.c (.int .i64 65536))] (mkH [(id, .row ty ((l.flatMap ta).map .c) kd)] H0) n (.t [.o (.s n 0 65536 (.rest 1)), .o (.c (.int .i64 0))])
      (mkH [(id, .row ty ((l.flatMap ta).map .c) kd), (n, .row 22 [] .op)] H0) (n + 1) := by
  intro B0 w0 ρ G w vs hR hH hfr hA
  have hid := Nat.le_of_ble_eq_true hid
  match vs, hA with
  | [vx, vn], ⟨⟨b, N, c, hb, hvx, hcap, hlc⟩, hn, _⟩ =>
  have hn : vn = .int .i64 65536 := hn
  subst hn hvx
  have hG : G id = some (.row ty ((l.flatMap ta).map .c) kd) := hH id _ (by show (H0.set id _).get id = _; rw [T.get_set, if_pos rfl])
  have hG0 : G n = none := hfr n (Nat.le_refl _) (by omega)
  obtain ⟨head, rest, fr, ty', h1, h2, _⟩ := hR.row hG hb
  obtain rfl := relL_plain h2
  have hfl : (l.flatMap ta).length = l.length * 3 := flat_len (f := ta) (s := 3) (fun _ => rfl) l
  have hsl : IsSl w 3 (.slice (some ⟨b, 0, none⟩) l.length c) l.length (l.flatMap ta) := ⟨hfl, .inr ⟨b, 0, c, rfl, hlc, (Array.getElem?_eq_some_iff.1 h1).1, fun j hj => by
    rw [cell_blk h1, Nat.zero_add, List.getElem?_append_left (by omega)]⟩⟩
  refine (wrow_any _ l 65536 w hsl (by omega)).mono ?_
  rintro e w' ⟨v, k, xs, rfl, hown, hs, hbel⟩
  have hsp : rowSpec l 65536 = (smps l 65536, 0) := if_neg (by decide)
  rw [hsp] at hs
  obtain rfl : k = 0 := congrArg Prod.snd hs
  have hlen : xs.length = 65536 := by
    have := congrArg (fun q : List Nat × Int => q.1.length) hs
    simpa [smps_len] using this
  rcases hown.2 with ⟨_, h0⟩ | ⟨g, cap', cur, rfl, hg, hblk, hle, _, hsz, _⟩
  · omega
  · have hR' := hR.new (b := g) (n := cap') (ob := .row 22 [] .op) hbel hG0 hg (by
      rw [hblk]
      exact ⟨cur.toList, (0, 0), 22, by simp, fun _ => rfl, fun _ _ i _ h => by omega, by simpa using hsz, (fun h => by cases h), cur.toList, [], rfl, trivial⟩)
    have hn0 : ρ n = none := by
      cases hx : ρ n with
      | none => rfl
      | some p => exact absurd hG0 (hR.dom n p hx)
    refine ⟨_, ρ.put n (g, cap'), G.put n (.row 22 [] .op), rfl, ⟨[.slice (some ⟨g, 0, none⟩) xs.length cap', .int .i64 0], rfl, ⟨g, cap', cap', by simp [Env.put], by rw [hlen], by dsimp only; omega, by omega⟩, rfl, trivial⟩, hR', Env.le_put _ hn0, fun i ob hi => ?_, fun i hi => ?_⟩
    · have hi : ((H0.set id _).set n _).get i = some ob := hi
      unfold Heap.put
      rw [T.get_set] at hi
      split at hi
      · rename_i e; rw [if_pos e]; exact hi
      · rename_i e
        rw [if_neg e]
        rw [T.get_set] at hi
        split at hi
        · rename_i e2; subst e2; rw [hG]; exact hi
        · exact (hR.base i ob (by rw [hB.h0]; exact hi)).1
    · unfold Heap.put
      rw [if_neg]
      intro e
      subst e
      unfold inTouch at hi
      rw [show Nat.ble i i = true from Nat.ble_eq_true_of_le (Nat.le_refl _), show Nat.blt i (i + 1) = true from Nat.ble_eq_true_of_le (Nat.le_refl _)] at hi
      simp at hi
end
end Go.Proofs.YtammbcohbfhfjaaGreatDoor
