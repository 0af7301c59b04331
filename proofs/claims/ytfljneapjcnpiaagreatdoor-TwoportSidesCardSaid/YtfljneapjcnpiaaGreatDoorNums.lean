/- gridworkkit.Numbers: a list of numbers by their bits. -/
import Derived.Test.YtfljneapjcnpiaaGreatDoorNumbers2
import Derived.Test.YtfljneapjcnpiaaGreatDoorOwns
namespace Go.Proofs.YtfljneapjcnpiaaGreatDoor
open Go.RowKit

/-- The cells of a number by its bits. -/
def zc (z : Cx) : List Value := [.int .u64 z.1, .int .u64 z.2]
theorem zc_get : ∀ (l : List Cx) (k : Nat), (l.flatMap zc)[k * 2]? = l[k]?.map (fun z => Value.int .u64 z.1) ∧ (l.flatMap zc)[k * 2 + 1]? = l[k]?.map (fun z => Value.int .u64 z.2)
  | [], k => by simp
  | z :: l, 0 => by simp [zc]
  | z :: l, k + 1 => by
    have := zc_get l k
    rw [show (k + 1) * 2 = k * 2 + 2 by omega, List.flatMap_cons]
    simpa [zc] using this
theorem zc_len (l : List Cx) : (l.flatMap zc).length = l.length * 2 := by
  induction l with
  | nil => rfl
  | cons z l ih => rw [List.flatMap_cons, List.length_append, ih, List.length_cons, Nat.add_mul]; simp [zc]; omega
/-- An element of some cells: where it lies, what it holds. -/
theorem IsSl.atN {P : Program} {t e size : Nat} {i : TypeInfo} (ht : P.underlying t = some (.slice e)) (hi : P.info? e = some i) (hs : i.size = size)
    {w : World} {a : Option Addr} {n c : Nat} {xs : List Value} (h : IsSl w size (.slice a n c) n xs) {k : Nat} (hk : k < n) :
    ∃ g o, (∀ w', (Instr.indexAt t (.slice a n c) (.int .i64 k)).run P w' = .ok (.pointer (some ⟨g, o, none⟩)) w') ∧ g < w.heap.size ∧ ∀ j, j < size → w.cell? ⟨g, o + j, none⟩ = xs[k * size + j]? := by
  rcases h.2 with ⟨_, h0⟩ | ⟨g, off, c', hv, hc, hg, hcell⟩
  · omega
  · cases hv
    refine ⟨g, off + k * size, fun w' => ?_, hg, fun j hj => ?_⟩
    · have he : P.elem t = e := by simp [Program.elem, ht]
      rw [run_indexAt_slice w' t _ n c .i64 k (by rw [he]; exact ht), if_pos ⟨by omega, by omega⟩, he]
      simp [sizeOf, typeInfo, hi, hs, Result.andThen, Addr.add]
    · rw [Nat.add_assoc]
      refine hcell _ ?_
      have := Nat.mul_le_mul_right size (show k + 1 ≤ n by omega)
      rw [Nat.add_mul] at this; omega
theorem InSl.atZ {P : Program} {t e : TypeId} {i : TypeInfo} (ht : P.underlying t = some (.slice e)) (hi : P.info? e = some i) (hs : i.size = 2)
    {w : World} {a : Option Addr} {n c : Nat} {l : List Cx} (h : InSl w 2 (.slice a n c) n (l.flatMap zc)) (hl : l.length = n) {k : Nat} (hk : k < n) :
    ∃ (g o x y : Nat), (∀ w', (Instr.indexAt t (.slice a n c) (.int .i64 k)).run P w' = .ok (.pointer (some ⟨g, o, none⟩)) w') ∧ g < w.heap.size ∧ w.cell? ⟨g, o, none⟩ = some (.int .u64 x) ∧ w.cell? ⟨g, o + 1, none⟩ = some (.int .u64 y) ∧ l[k]? = some (x, y) := by
  obtain ⟨g, o, h1, h2, h3⟩ := IsSl.atN (size := 2) ht hi hs (h.pos (by omega)) hk
  have hlk : l[k]? = some l[k] := List.getElem?_eq_getElem (by omega)
  refine ⟨g, o, l[k].1, l[k].2, h1, h2, ?_, ?_, hlk⟩
  · have := h3 0 (by decide)
    rw [Nat.add_zero, Nat.add_zero, (zc_get l k).1, hlk] at this; exact this
  · have := h3 1 (by decide)
    rw [(zc_get l k).2, hlk] at this; exact this
theorem number_c (x y : Nat) (w : World) :
    Calls Tryz.prog 7 #[.agg #[.int .u64 x, .int .u64 y]] w fun e w' => e = .returned (mkC (x, y)) ∧ Below w.heap.size w w' :=
  (number_any x y w).mono fun _ _ ⟨he, n, hw⟩ => ⟨he, by rw [hw]; exact below_n (Below.alloc (Below.refl _ _) (Nat.le_refl _) _) n⟩

set_option maxRecDepth 100000 in
set_option maxHeartbeats 400000 in
theorem numbers_any (v : Value) (l : List Cx) (w : World) (hv : InSl w 2 v l.length (l.flatMap zc)) (hl : l.length * 16 ≤ 140737488351232) :
    Calls Tryz.prog 51 #[v] w (RetRow 26 1 l.length (fun xs => xs = l.map mkC) w) := by
  obtain ⟨a, c, rfl⟩ := hv.form
  obtain ⟨i0, hi, hz0, hz1, hz2⟩ := info_parts infoC
  obtain ⟨iu, hiu, hu0, hu1, hu2⟩ := info_parts infoZ
  go_enter Tryz.func51, Tryz.ntmps51
  go_wp2
  go_loopw [3, 4] (fun out i wr => ∃ k : Nat, k ≤ l.length ∧ i = .int .i64 k ∧ wr.ownsRow w.heap.size 26 1 out k ((l.take k).map mkC) ∧ Below w.heap.size w wr) (fun _ i _ => l.length - (intOf i).toNat)
  case atStart => exact ⟨0, Nat.zero_le _, rfl, World.ownsRow_nil _ _ _ _, Below.refl _ _⟩
  case round =>
    obtain ⟨k, hk, rfl, hown, hb⟩ := hrel
    by_cases hlt : k < l.length
    · obtain ⟨g, o, x, y, hidx, hg, hcell, hcell2, hx⟩ := InSl.atZ Tryz.underlying46 hiu hu1 (hv.below hb (Nat.le_refl _)) rfl hlt
      have HX := hid hx
      have HB := hid hb
      have HO := hid hown
      clear hx hb hown
      go_wp2_with fail
      refine (number_c x y _).mono ?_
      rintro e w1 ⟨rfl, hb1⟩
      have HB1 := hid (below_step HB.out hb1)
      have hsz := HB1.out.size
      have hown : w1.ownsRow w.heap.size 26 1 u3 k ((l.take k).map mkC) := own_none HO.out (grown_of_below hb1 _)
      go_wp2_with (refine wpList_push rfl rfl _ rfl _ _ _ rfl rfl w.heap.size 26 1 16 i0 (.complex .f64 0 0) Tryz.underlying30 hi hz0 hz1 hz2 rfl (by decide) (by decide) _ k _ hown hsz _ rfl rfl (by intro u hu; exact mkC_mem hu) rfl rfl (by simp [maxLen]; omega) (by omega) ?_; intro g1 cap1 w2 hown1 hgr1 hat1 hlt1)
      go_roundw
      case rel =>
        refine ⟨k + 1, by omega, by go_num, ?_, below_grown HB1.out hgr1 fun _ e => (hown.lt _ e).1⟩
        rw [List.take_succ_eq_append_getElem hlt, List.map_append]
        have : l[k] = (x, y) := by have := HX.out; simpa [hlt] using this
        rw [this]; exact hown1
      case measure => simp [intOf]; omega
    · go_wp2
      go_ret
      obtain rfl : k = l.length := by omega
      exact ⟨_, _, rfl, hown, by simp, hb⟩
end Go.Proofs.YtfljneapjcnpiaaGreatDoor
