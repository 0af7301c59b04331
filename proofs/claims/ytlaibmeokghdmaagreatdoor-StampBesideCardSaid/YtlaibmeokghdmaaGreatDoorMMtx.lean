/- Infinities and NaNs: what math.IsInf asks, and 'x - x == 0'. No function of the program is named here. -/
import Derived.Test.YtlaibmeokghdmaaGreatDoorSz
import Derived.Test.YtlaibmeokghdmaaGreatDoorStpW2
import Derived.Test.YtlaibmeokghdmaaGreatDoorPhas
import Derived.Test.YtlaibmeokghdmaaGreatDoorFindE15
import Derived.Test.YtlaibmeokghdmaaGreatDoorReg
import Derived.Test.YtlaibmeokghdmaaGreatDoorMParts2
namespace Go.Proofs.YtlaibmeokghdmaaGreatDoor

section
open Go.RowKit FV

/-- The greatest number. -/
abbrev bigF : Nat := 9218868437227405311
theorem mag_big {r : Nat} (h : r < 2047 * 2 ^ 52) : mag r ≤ mag bigF := by
  obtain ⟨K, hK⟩ : ∃ K, K = 2045 := ⟨_, rfl⟩
  have h1 : mag bigF = (2 ^ 53 - 1) * 2 ^ K := by
    have := mag_rung K (2 ^ 53 - 1) (by omega) (.inl (by omega))
    have he : K * 2 ^ 52 + (2 ^ 53 - 1) = bigF := by show _ = 9218868437227405311; omega
    rw [he] at this
    exact this
  rw [h1]
  unfold mag
  split
  · have := Nat.two_pow_pos K
    have h3 : (2 ^ 53 - 1) * 1 ≤ (2 ^ 53 - 1) * 2 ^ K := Nat.mul_le_mul_left _ this
    omega
  · exact Nat.mul_le_mul (by have := Nat.mod_lt r (show 0 < 2 ^ 52 by decide); omega) (Nat.pow_le_pow_right (by decide) (by subst hK; omega))
theorem fin_ffin {x : Nat} (h : FV.fin x = true) : ffin x = true := by
  have hs : dbl.sub x x = some (dbl.nearest false 0 (plc x)) := by
    unfold Ieee.Format.sub
    rw [read_fin h]
    cases hs : sgn x <;> simp [Ieee.Datum.sum, Ieee.Datum.opposite, signed_eq, sg, Ieee.Format.write, Int.add_right_neg, Int.add_left_neg]
  have hz : ∀ b, dbl.nearest b 0 (plc x) = dbl.word b 0 := fun b => by unfold Ieee.Format.nearest; rw [if_pos rfl]
  unfold ffin fsub fop
  show (ford ((dbl.sub x x).getD qnan) 0 == some .eq) = true
  rw [hs, hz]
  decide +kernel
theorem notfin {x : Nat} (h : FV.fin x = false) : ffin x = false := by
  cases hh : ffin x with
  | false => rfl
  | true => rw [ffin_fin hh] at h; cases h
theorem ord_self {x : Nat} (h : FV.fin x = true) : ford x x = some .eq := by
  show dbl.order x x = _
  exact order_eq h h rfl
theorem isInf_fin {x : Nat} (h : FV.fin x = true) : (ford (fsize x) bigF == some .gt) = false := by
  have fx : FV.fin (fsize x) = true := by unfold FV.fin at *; rw [fsz_mod]; exact h
  have fb : FV.fin bigF = true := by decide
  have hlt : fsize x < 2047 * 2 ^ 52 := by unfold FV.fin at h; have := of_decide_eq_true h; exact this
  have : dbl.order (fsize x) bigF = some (compare (val (fsize x)) (val bigF)) := order_fin fx fb
  show (dbl.order (fsize x) bigF == some .gt) = false
  rw [this]
  have hv : val (fsize x) ≤ val bigF := by
    unfold val
    rw [sgn_lo (fsz_lt x), sgn_lo (show bigF < 2 ^ 63 by decide), fsz_mod, Nat.mod_eq_of_lt (show bigF < 2 ^ 63 by decide)]
    have := mag_big hlt
    show ((mag (fsize x) : Nat) : Int) ≤ ((mag bigF : Nat) : Int)
    exact_mod_cast this
  rw [beq_eq_false_iff_ne]
  intro hc
  have h1 := Option.some.inj hc
  rw [Int.compare_eq_gt] at h1
  omega
theorem isInf_not {x : Nat} (h : FV.fin x = false) : (ford (fsize x) bigF == some .gt) = true ∨ ((ford (fsize x) bigF == some .gt) = false ∧ (ford x x != some .eq) = true) := by
  have h3 : ¬ x % 2 ^ 63 < 2047 * 2 ^ 52 := by simpa [FV.fin] using h
  have fb : FV.fin bigF = true := by decide
  have hsz : fsize x = x % 2 ^ 63 := rfl
  by_cases he : x % 2 ^ 63 = 2047 * 2 ^ 52
  · left
    rw [hsz, he]
    decide +kernel
  · right
    have hr : ∃ s t, dbl.read x = .nan s t := by
      unfold Ieee.Format.read
      simp only [sw_eq, inf_eq, bin_eq]
      rw [if_neg (by omega), if_neg (by omega), if_neg (by omega)]
      exact ⟨_, _, rfl⟩
    have hr2 : ∃ s t, dbl.read (fsize x) = .nan s t := by
      unfold Ieee.Format.read
      simp only [sw_eq, inf_eq, bin_eq, fsz_mod]
      rw [hsz, if_neg (by omega), if_neg (by omega), if_neg (by omega)]
      exact ⟨_, _, rfl⟩
    obtain ⟨s, t, hr⟩ := hr
    obtain ⟨s2, t2, hr2⟩ := hr2
    constructor
    · show (dbl.order _ _ == some .gt) = false
      unfold Ieee.Format.order
      rw [hr2, read_fin fb]
      simp [Ieee.Datum.order]
    · show (dbl.order _ _ != some .eq) = true
      unfold Ieee.Format.order
      rw [hr]
      simp [Ieee.Datum.order]
theorem fin_iff (x : Nat) : FV.fin x = ffin (fc x) := by
  rw [ffin_fc]
  cases h : FV.fin x with
  | true => rw [fin_ffin h]
  | false => rw [notfin h]
/-- Of two finite numbers one is above the other, or not. -/
theorem ord_le {x y : Nat} (hx : FV.fin x = true) (hy : FV.fin y = true) : (ford x y == some .lt || ford x y == some .eq) = !(ford x y == some .gt) := by
  have : ford x y = some (compare (val x) (val y)) := order_fin hx hy
  rw [this]
  cases compare (val x) (val y) <;> rfl
end

section
/- The board as it is built; the table of what each kind stamps; math.IsInf; stamp.made. -/
open Go.RowKit

def zrs : List Cx := List.replicate 4096 (0, 0)
theorem board_new (p : Value) (nd n : Nat) :
    ((Tryz.zeroCells81.setIfInBounds 0 p).setIfInBounds 1 (.int .i64 nd)).setIfInBounds 2 (.int .i64 n) = boardCells p nd n false zrs := by
  kernel_rfl
theorem results_cell1M {fn : Func} {p : Tmp} {ty : TypeId} (h : fn.results = #[.cell p ty]) (tmps : Array Value) (P : Program) (w : World) :
    (results fn tmps).run P w = ((asAddr (tmps.getD p undef)).run P w).andThen fun a w₁ => (loadVar ty a).run P w₁ := by
  simp only [results, h]
  simp [Sem.run_bind, Result.andThen]
set_option maxHeartbeats 400000 in
theorem abs_any (x : Nat) (w : World) :
    Calls Tryz.prog 54 #[.float .f64 x] w fun e w' => e = .returned (.float .f64 (fsize x)) ∧ w = w' := by
  have b1 := bits_law
  have b2 := frombits_law
  go_enter Tryz.func54, Tryz.ntmps54
  go_wp2
  go_ret
  exact ⟨congrArg (fun y => Ending.returned (.float .f64 y)) (fsize_walk x), rfl⟩
set_option maxHeartbeats 400000 in
theorem isinf_any (x : Nat) (w : World) :
    Calls Tryz.prog 30 #[.float .f64 x, .int .i64 0] w fun e w' => e = .returned (.bool (ford (fsize x) bigF == some .gt)) ∧ w = w' := by
  go_enter Tryz.func30, Tryz.ntmps30
  go_wp2_with (go_at_call 54; refine (abs_any _ _).mono ?_; rintro e w' ⟨rfl, rfl⟩)
  go_ret
  exact ⟨rfl, rfl⟩
set_option maxHeartbeats 400000 in
theorem made_any (p : Value) (l : List El) (w : World) (hp : NN w p l) (hn : has (l.map El.name) ⟨#[]⟩ = false) :
    Calls Tryz.prog 29 #[p] w fun e w' => e = .returned (.bool (!noNet p)) ∧ w = w' := by
  have HP := hid hp
  have HN := hid hn
  clear hp hn
  cases hq : noNet p
  · have HQ := hid hq
    go_enter Tryz.func29, Tryz.ntmps29
    go_wp2_with (go_at_call 53; refine (nwithout_none _ l _ HP.out HN.out).mono ?_; rintro e w' ⟨rfl, rfl⟩; rw [HQ.out])
    go_ret
    exact ⟨rfl, rfl⟩
  · have HQ := hid hq
    go_enter Tryz.func29, Tryz.ntmps29
    go_wp2_with (go_at_call 53; refine (nwithout_none _ l _ HP.out HN.out).mono ?_; rintro e w' ⟨rfl, rfl⟩; rw [HQ.out])
    go_ret
    exact ⟨rfl, rfl⟩
end

section
/- The right side of a net's equations: plain law. -/
open Go.RowKit

/-- A number put to a node's place, if it has one: what stands there then; is it finite? -/
def putS (l : List El) (r : Nat → Cx) (s : ByteArray) (f : Cx → Cx) : (Nat → Cx) × Bool :=
  if has (nds l) s = true then (upd r (plI (nds l) s).toNat (f (r (plI (nds l) s).toNat)), cfin (f (r (plI (nds l) s).toNat))) else (r, true)
def brAt (l : List El) (x : El) : Nat := (nds l).length + (plI (brs l) x.name).toNat
/-- One element: what stands there then; is what was put there finite? -/
def rgtS (l : List El) (r : Nat → Cx) (x : El) : (Nat → Cx) × Bool :=
  if (srcS x).2 ≠ 0 then (r, true)
  else if x.kind = 5 then (upd r (brAt l x) (srcS x).1, cfin (srcS x).1)
  else ((putS l (putS l r x.a fun z => csub z (srcS x).1).1 x.b fun z => cadd z (srcS x).1).1,
    (putS l (putS l r x.a fun z => csub z (srcS x).1).1 x.b fun z => cadd z (srcS x).1).2 && (putS l r x.a fun z => csub z (srcS x).1).2)
def rgtK (l : List El) : Nat → (Nat → Cx)
  | 0 => fun _ => (fc 0, fc 0)
  | k + 1 => match l[k]? with | some x => (rgtS l (rgtK l k) x).1 | none => rgtK l k
theorem rgtK_succ {l : List El} {k : Nat} {x : El} (h : l[k]? = some x) : rgtK l (k + 1) = (rgtS l (rgtK l k) x).1 := by simp only [rgtK, h]
def rgtBad (l : List El) : Option Nat := (List.range l.length).find? fun k => match l[k]? with | some x => !(rgtS l (rgtK l k) x).2 | none => false
/-- The right side of a net; the fault. -/
def rgtE (b : Bool) (l : List El) : List Cx × (Int × Int) :=
  if b = true then ([], (1, -1)) else match rgtBad l with
    | some k => ([], (6, k))
    | none => ((List.range ((nds l).length + (brs l).length)).map (rgtK l l.length), (0, 0))
theorem find_rng {n k : Nat} {p : Nat → Bool} (hk : k < n) (h : ∀ i, i < k → p i = false) (hp : p k = true) : (List.range n).find? p = some k := by
  rw [List.find?_eq_some_iff_getElem]
  exact ⟨hp, k, by simpa using hk, by simp, fun j hj => by simp [h j hj]⟩
theorem rgt_none {l : List El} : rgtE true l = ([], (1, -1)) := by unfold rgtE; rw [if_pos rfl]
theorem rgt_stop {l : List El} {k : Nat} {x : El} (hx : l[k]? = some x) (h : ∀ (i : Nat) (y : El), i < k → l[i]? = some y → (rgtS l (rgtK l i) y).2 = true) (hb : (rgtS l (rgtK l k) x).2 = false) : rgtE false l = ([], (6, (k : Int))) := by
  have hk := (List.getElem?_eq_some_iff.1 hx).1
  unfold rgtE rgtBad
  rw [if_neg (by simp), find_rng hk (fun i hi => by
    have hy : l[i]? = some l[i] := List.getElem?_eq_getElem (by omega)
    simp only [hy, h i _ hi hy, Bool.not_true]) (by simp only [hx, hb, Bool.not_false])]
theorem rgt_done {l : List El} (h : ∀ (i : Nat) (y : El), l[i]? = some y → (rgtS l (rgtK l i) y).2 = true) : rgtE false l = ((List.range ((nds l).length + (brs l).length)).map (rgtK l l.length), (0, 0)) := by
  unfold rgtE rgtBad
  rw [if_neg (by simp), List.find?_eq_none.2 (fun i hi => by
    have hi := List.mem_range.1 hi
    have hy : l[i]? = some l[i] := List.getElem?_eq_getElem hi
    simp only [hy, h i _ hy, Bool.not_true]; simp)]
/-- All numbers stay finite as long as what is put there is. -/
theorem putS_fin {l : List El} {r : Nat → Cx} {s : ByteArray} {f : Cx → Cx} {n : Nat} (hr : ∀ j, j < n → cfin (r j) = true) (hp : (putS l r s f).2 = true) : ∀ j, j < n → cfin ((putS l r s f).1 j) = true := by
  intro j hj
  unfold putS at *
  split at hp
  · rename_i h
    rw [if_pos h]
    by_cases e : j = (plI (nds l) s).toNat
    · subst e; simp only [upd_same]; exact hp
    · simp only [upd_ne _ _ e]; exact hr j hj
  · rename_i h
    rw [if_neg h]; exact hr j hj
theorem rgtS_fin {l : List El} {r : Nat → Cx} {x : El} {n : Nat} (hr : ∀ j, j < n → cfin (r j) = true) (hp : (rgtS l r x).2 = true) : ∀ j, j < n → cfin ((rgtS l r x).1 j) = true := by
  intro j hj
  unfold rgtS at *
  split at hp
  · rename_i h; rw [if_pos h]; exact hr j hj
  · rename_i h
    rw [if_neg h]
    split at hp
    · rename_i h2
      rw [if_pos h2]
      by_cases e : j = brAt l x
      · subst e; simp only [upd_same]; exact hp
      · simp only [upd_ne _ _ e]; exact hr j hj
    · rename_i h2
      rw [if_neg h2]
      simp only [Bool.and_eq_true] at hp
      exact putS_fin (putS_fin hr hp.2) hp.1 j hj
theorem rgtK_fin {l : List El} {n : Nat} : ∀ {k : Nat}, k ≤ l.length → (∀ (i : Nat) (y : El), i < k → l[i]? = some y → (rgtS l (rgtK l i) y).2 = true) → ∀ j, j < n → cfin (rgtK l k j) = true
  | 0, _, _, j, _ => by show cfin (fc 0, fc 0) = true; decide +kernel
  | k + 1, hk, h, j, hj => by
    have hy : l[k]? = some l[k] := List.getElem?_eq_getElem (by omega)
    rw [rgtK_succ hy]
    exact rgtS_fin (rgtK_fin (by omega) (fun i y hi hy => h i y (by omega) hy)) (h k _ (by omega) hy) j hj
/-- Each name stands once. -/
def Uniq (l : List El) : Prop := ∀ (k : Nat) (x : El), l[k]? = some x → named (l.take k) x.name = false
theorem brs_app (a b : List El) : brs (a ++ b) = brs a ++ brs b := by simp [brs]
theorem has_brs {l : List El} {s : ByteArray} (h : named l s = false) : has (brs l) s = false := by
  unfold has brs named at *
  rw [List.any_eq_false] at *
  intro t ht
  obtain ⟨x, hx, rfl⟩ := List.mem_map.1 ht
  exact h x (List.mem_filter.1 hx).1
/-- The place of a branch: as many as there are ahead of it. -/
theorem br_index {l : List El} (hu : Uniq l) {k : Nat} {x : El} (hx : l[k]? = some x) (hb : isBr x = true) : has (brs l) x.name = true ∧ plI (brs l) x.name = ((brs (l.take k)).length : Int) := by
  obtain ⟨hk, e⟩ := List.getElem?_eq_some_iff.1 hx
  have hsplit : brs l = brs (l.take k) ++ (x.name :: brs (l.drop (k + 1))) := by
    conv => lhs; rw [← List.take_append_drop k l, brs_app, List.drop_eq_getElem_cons hk, e]
    congr 1
    unfold brs
    rw [List.filter_cons, if_pos hb]; rfl
  refine plI_at (k := (brs (l.take k)).length) (t := x.name) ?_ ?_ (by simp)
  · rw [hsplit, List.take_left' rfl]
    exact has_brs (hu k x hx)
  · rw [hsplit, List.getElem?_append_right (Nat.le_refl _), Nat.sub_self]; rfl
theorem brs_take_succ {l : List El} {k : Nat} {x : El} (hx : l[k]? = some x) : (brs (l.take (k + 1))).length = (brs (l.take k)).length + (if isBr x = true then 1 else 0) := by
  cases h : isBr x with
  | true => rw [brs_yes hx h]; simp
  | false => rw [brs_no hx h]; simp
end

section
/- Walk of stamp.Matrix. -/
open Go.RowKit

/-- A matrix and a fault, in memory of its own. -/
def RetMx (S : (Nat × List Cx) × (Int × Int)) (w : World) (e : Ending) (w' : World) : Prop :=
  ∃ (v : Value) (xs : List Cx), e = .returned (.tuple #[.agg #[.int .i64 S.1.1, .int .i64 S.1.1, v], .agg #[.int .i64 S.2.1, .int .i64 S.2.2]]) ∧ xs.map ck = S.1.2 ∧ w'.ownsRow w.heap.size 47 1 v xs.length (xs.map mkC) ∧ Below w.heap.size w w'
theorem RetMx.bad {w w' : World} {S : (Nat × List Cx) × (Int × Int)} {a b : Int} (h : S = ((0, []), (a, b))) (hb : Below w.heap.size w w') : RetMx S w (.returned (.tuple #[.agg #[.int .i64 0, .int .i64 0, .slice none 0 0], .agg #[.int .i64 a, .int .i64 b]])) w' :=
  ⟨.slice none 0 0, [], by rw [h]; rfl, by rw [h]; rfl, World.ownsRow_nil _ _ _ _, hb⟩
theorem results_cell_cellM {fn : Func} {p q : Tmp} {ty ty2 : TypeId} (h : fn.results = #[.cell p ty, .cell q ty2]) (tmps : Array Value) (P : Program) (w : World) :
    (results fn tmps).run P w =
      ((asAddr (tmps.getD p undef)).run P w).andThen fun a w₁ => ((loadVar ty a).run P w₁).andThen fun v w₂ => ((asAddr (tmps.getD q undef)).run P w₂).andThen fun b w₃ => ((loadVar ty2 b).run P w₃).andThen fun u w₄ => .ok (.tuple #[v, u]) w₄ := by
  simp only [results, h]
  simp [Sem.run_bind, Result.andThen]
theorem below_alloc2 (w : World) (o o' : Obj) : Below w.heap.size w ((w.alloc o).alloc o') := ((Below.refl _ _).alloc (Nat.le_refl _) o).alloc (by simp) o'
theorem NN.alloc2 {w : World} {p : Value} {l : List El} (h : NN w p l) (o o' : Obj) : NN ((w.alloc o).alloc o') p l := h.below (below_alloc2 w o o') (Nat.le_refl _)
theorem heap_laterG {w w' : World} {g b : Nat} {o : Obj} (hg : w.grownBy w' (some g)) (hne : ¬ some g = some b) (h : w.heap[b]? = some o) : w'.heap[b]? = some o :=
  (hg.block b (Array.getElem?_eq_some_iff.1 h).1 (fun e => hne e.symm)).trans h
theorem has_br {l : List El} {k : Nat} {x : El} (h : l[k]? = some x) (hb : isBr x = true) : has (brs l) x.name = true := by
  unfold has brs
  rw [List.any_eq_true]
  exact ⟨x.name, List.mem_map.2 ⟨x, List.mem_filter.2 ⟨List.mem_of_getElem? h, hb⟩, rfl⟩, by simp⟩
theorem step_ad {l : List El} {om y1 y2 : Nat} {m : Nat → Cx} {x : El} (h : isAd x = true) (h0 : (admS x om).2 = 0) (hy : (fc y1, fc y2) = (admS x om).1) :
    stStep l om m x = (((stPair (rowI l x.a) (rowI l x.b) (fc y1, fc y2)).foldl (st1 (szL l)) (m, false)).1, if ((stPair (rowI l x.a) (rowI l x.b) (fc y1, fc y2)).foldl (st1 (szL l)) (m, false)).2 = true then 6 else 0) := by
  unfold stStep
  rw [if_neg (fun e => e.2 h0), hy]
  unfold stOf
  rw [if_pos h]
theorem step_bad {l : List El} {om : Nat} {m : Nat → Cx} {x : El} (h : isAd x = true) (h0 : (admS x om).2 ≠ 0) : stStep l om m x = (m, (admS x om).2) := by
  unfold stStep
  rw [if_pos ⟨h, h0⟩]
theorem step_no {l : List El} {om : Nat} {m : Nat → Cx} {x : El} {L : List St} (h : isAd x = false) (hL : ∀ y, stOf l x y = L) :
    stStep l om m x = ((L.foldl (st1 (szL l)) (m, false)).1, if (L.foldl (st1 (szL l)) (m, false)).2 = true then 6 else 0) := by
  unfold stStep
  rw [if_neg (fun e => by rw [h] at e; cases e.1), hL]
def endBad (a b : Int) : Value := .tuple #[.agg #[.int .i64 0, .int .i64 0, .slice none 0 0], .agg #[.int .i64 a, .int .i64 b]]
set_option maxRecDepth 100000 in
set_option maxHeartbeats 1000000 in
theorem smatrix_bad (p : Value) (l : List El) (om : Nat) (w : World) (hp : NN w p l) (hn : has (l.map El.name) ⟨#[]⟩ = false) (hb : noNet p = true ∨ angE om ≠ 0) :
    Calls Tryz.prog 11 #[p, .float .f64 om] w (RetMx (matS (noNet p) l om) w) := by
  have HP := hid hp
  have HN := hid hn
  cases hq : noNet p
  · have ha : angE om ≠ 0 := by rcases hb with h | h; (rw [hq] at h; cases h); exact h
    have HQ := hid hq
    clear hp hn hb hq
    have HA := hid ha
    cases hf : FV.fin om
    · have H5 := hid (ang_5 ((fin_iff om).symm.trans hf))
      rcases isInf_not hf with h | ⟨h, h2⟩
      · have HI := hid h
        clear hf h ha
        go_enter Tryz.func11, Tryz.ntmps11
        go_wp2_with (first | (go_at_call 29; refine (made_any _ l _ (HP.out.alloc2 _ _) HN.out).mono ?_; rintro e w' ⟨rfl, rfl⟩; rw [HQ.out]) | (go_at_call 30; refine (isinf_any _ _).mono ?_; rintro e w' ⟨rfl, rfl⟩; rw [HI.out]))
        refine bodyPost_ret (v := endBad 5 (-1)) ?_ rfl (RetMx.bad ((mat_ang HA.out).trans (by rw [H5.out])) (below_alloc2 _ _ _))
        rw [results_cell_cellM rfl]; go_simp; rfl
      · have HI := hid h
        have h3 : (FloatKind.f64.format.order om om != some .eq) = true := h2
        clear hf h h2 ha
        go_enter Tryz.func11, Tryz.ntmps11
        go_wp2_with (first | (go_at_call 29; refine (made_any _ l _ (HP.out.alloc2 _ _) HN.out).mono ?_; rintro e w' ⟨rfl, rfl⟩; rw [HQ.out]) | (go_at_call 30; refine (isinf_any _ _).mono ?_; rintro e w' ⟨rfl, rfl⟩; rw [HI.out]))
        refine bodyPost_ret (v := endBad 5 (-1)) ?_ rfl (RetMx.bad ((mat_ang HA.out).trans (by rw [H5.out])) (below_alloc2 _ _ _))
        rw [results_cell_cellM rfl]; go_simp; rfl
    · have hff : ffin (fc om) = true := (fin_iff om).symm.trans hf
      cases hg : (FloatKind.f64.format.order om 0 == some .gt)
      · have H2 := hid (ang_2 hff hg)
        have HI := hid (isInf_fin hf)
        have h3 : (FloatKind.f64.format.order om om != some .eq) = false := by
          have := ord_self hf
          show (ford om om != some .eq) = false
          rw [this]; rfl
        have h4 : (FloatKind.f64.format.order om 0 == some .lt || FloatKind.f64.format.order om 0 == some .eq) = true := by
          have := ord_le hf (show FV.fin 0 = true by decide)
          show (ford om 0 == some .lt || ford om 0 == some .eq) = true
          rw [this]
          show (!(FloatKind.f64.format.order om 0 == some .gt)) = true
          rw [hg]; rfl
        clear hf hff hg ha
        go_enter Tryz.func11, Tryz.ntmps11
        go_wp2_with (first | (go_at_call 29; refine (made_any _ l _ (HP.out.alloc2 _ _) HN.out).mono ?_; rintro e w' ⟨rfl, rfl⟩; rw [HQ.out]) | (go_at_call 30; refine (isinf_any _ _).mono ?_; rintro e w' ⟨rfl, rfl⟩; rw [HI.out]))
        refine bodyPost_ret (v := endBad 2 (-1)) ?_ rfl (RetMx.bad ((mat_ang HA.out).trans (by rw [H2.out])) (below_alloc2 _ _ _))
        rw [results_cell_cellM rfl]; go_simp; rfl
      · exact absurd (ang_0 hff hg) ha
  · have HQ := hid hq
    clear hp hn hb hq
    go_enter Tryz.func11, Tryz.ntmps11
    go_upto_region 2 with (go_at_call 29; refine (made_any _ l _ (HP.out.alloc2 _ _) HN.out).mono ?_; rintro e w' ⟨rfl, rfl⟩; rw [HQ.out])
    go_wp2
    refine bodyPost_ret (v := endBad 1 (-1)) ?_ rfl (RetMx.bad mat_none (below_alloc2 _ _ _))
    rw [results_cell_cellM rfl]; go_simp; rfl
end
end Go.Proofs.YtlaibmeokghdmaaGreatDoor
