/- Walk of gridworkref21.All. -/
import Derived.Test.YtlaibmeokghdmaaGreatDoorMAllC
namespace Go.Proofs.YtlaibmeokghdmaaGreatDoor

section
open Go.RowKit
theorem rn_row {w : World} {g : Nat} {l : List El} (h : RN w (.pointer (some ⟨g, 0, none⟩)) l) : ∃ a c, w.cell? ⟨g, 0, none⟩ = some (.slice a l.length c) ∧ IsSl w 8 (.slice a l.length c) l.length (l.flatMap ea) := by
  rcases h with ⟨h, _⟩ | ⟨g2, v, h, h0, h1, hs⟩
  · cases h
  · cases h
    obtain ⟨a, c, rfl⟩ := hs.form
    exact ⟨a, c, h0, hs⟩
end

section
/- Walks of a solution's makers: gridworklaw21.fit, gridworkkit.KeptSolution. -/
open Go.RowKit

/-- A list as long as is wanted: noughts behind it. -/
def fitL (l : List Cx) (n : Nat) : List Cx := (l ++ List.replicate (n - l.length) (0, 0)).take n
theorem fitL_len (l : List Cx) (n : Nat) : (fitL l n).length = n := by unfold fitL; rw [List.length_take, List.length_append, List.length_replicate]; omega
def slen : Value → Nat
  | .slice _ n _ => n
  | _ => 0
/-- The beginning of a slice. -/
theorem IsSl.begin {w : World} {a : Option Addr} {m c n : Nat} {xs : List Value} (h : IsSl w 1 (.slice a m c) m xs) (hn : n ≤ m) : IsSl w 1 (.slice a n c) n (xs.take n) := by
  have hx := h.1
  rcases h.2 with ⟨h0, h1⟩ | ⟨g, off, c', hv, hc, hg, hcell⟩
  · cases h0
    obtain rfl : n = 0 := by omega
    exact ⟨by simp, .inl ⟨rfl, rfl⟩⟩
  · cases hv
    refine ⟨by rw [List.length_take]; omega, .inr ⟨g, off, c, rfl, by omega, hg, fun j hj => ?_⟩⟩
    rw [List.getElem?_take_of_lt (by omega)]
    exact hcell j (by omega)
theorem IsSl.cap {w : World} {a : Option Addr} {m c : Nat} {xs : List Value} (h : IsSl w 1 (.slice a m c) m xs) : m ≤ c := by
  rcases h.2 with ⟨h0, h1⟩ | ⟨g, off, c', hv, hc, hg, hcell⟩
  · cases h0; omega
  · cases hv; exact hc
theorem own_any {a : Option Addr} {m n c : Nat} {k : Nat} (h : (Value.slice a n c).ownBlock = some k) : (Value.slice a m c).ownBlock = some k := by
  cases a <;> exact h
def RetCut (n : Nat) (xs : List Value) (v : Value) (w : World) (en : Ending) (w' : World) : Prop :=
  ∃ u, en = .returned u ∧ IsSl w' 1 u n xs ∧ w.grownBy w' v.ownBlock ∧ ∀ k, u.ownBlock = some k → v.ownBlock = some k ∨ w.heap.size ≤ k
theorem grown_push {w wr w7 : World} {v u : Value} {r : Nat} (hg : w.grownBy wr v.ownBlock) (hu : ∀ k, u.ownBlock = some k → v.ownBlock = some k ∨ w.heap.size ≤ k) (hp : Pushed wr w7 u r) : w.grownBy w7 v.ownBlock := by
  rcases hp with ⟨h1, h2⟩ | ⟨h1, h2⟩
  · refine ⟨h2.os.trans hg.os, h2.tape.trans hg.tape, h2.output.trans hg.output, Nat.le_trans hg.size h2.size, fun k hk hne => ?_⟩
    refine (h2.block k (Nat.lt_of_lt_of_le hk hg.size) (fun e => ?_)).trans (hg.block k hk hne)
    rcases hu r h1 with h | h
    · exact hne (e.trans h.symm)
    · have := Option.some.inj e; omega
  · refine ⟨h2.os.trans hg.os, h2.tape.trans hg.tape, h2.output.trans hg.output, Nat.le_trans hg.size h2.size, fun k hk hne => ?_⟩
    exact (h2.block k (Nat.lt_of_lt_of_le hk hg.size) (by simp)).trans (hg.block k hk hne)
theorem own_push {w wr w7 : World} {v u : Value} {r : Nat} (hs : w.heap.size ≤ wr.heap.size) (hu : ∀ k, u.ownBlock = some k → v.ownBlock = some k ∨ w.heap.size ≤ k) (hp : Pushed wr w7 u r) : v.ownBlock = some r ∨ w.heap.size ≤ r := by
  rcases hp with ⟨h1, h2⟩ | ⟨h1, h2⟩
  · exact hu r h1
  · exact .inr (Nat.le_trans hs h1)
set_option maxRecDepth 100000 in
set_option maxHeartbeats 1000000 in
theorem fit_any (B : Nat) (v : Value) (l : List Cx) (n : Nat) (w : World) (hv : w.ownsRow B 47 1 v l.length (l.map mkC)) (hB : B ≤ w.heap.size) (hl : l.length * 16 ≤ 140737488351232) (hn : n ≤ 400000) :
    Calls Tryz.prog 43 #[v, .int .i64 n] w (RetCut n ((fitL l n).map mkC) v w) := by
  obtain ⟨i0, hi, hz0, hz1, hz2⟩ := info_parts infoC
  have HV := hid hv
  clear hv
  go_enter Tryz.func43, Tryz.ntmps43
  go_upto_region 1 with fail
  go_loopw [0] (fun u wr => ∃ (j : Nat) (xs : List Cx), xs = l ++ List.replicate j (0, 0) ∧ wr.ownsRow B 47 1 u xs.length (xs.map mkC) ∧ (0 < j → xs.length ≤ n) ∧ w.grownBy wr v.ownBlock ∧ ∀ k, u.ownBlock = some k → v.ownBlock = some k ∨ w.heap.size ≤ k) (fun u _ => n - slen u)
  case atStart => exact ⟨0, l, by simp, HV.out, by intro h; omega, World.grownBy.refl _ _, fun k h => .inl h⟩
  case round =>
    obtain ⟨j, xs, hxs, hown, hj, hb, hu⟩ := hrel
    obtain ⟨a, c, rfl⟩ := (IsSl.of_own hown).form
    have HXS := hid hxs
    have HOW := hid hown
    have HB := hid hb
    have HJ := hid hj
    have HU := hid hu
    clear hxs hj hb hu
    by_cases hlt : xs.length < n
    · have hsz : B ≤ wr.heap.size := Nat.le_trans hB HB.out.size
      go_wp2_with (refine wpList_push2 rfl rfl _ rfl _ _ _ rfl rfl B 47 1 16 i0 (.complex .f64 0 0) Tryz.underlying36 hi hz0 hz1 hz2 rfl (by decide) (by decide) _ xs.length _ hown hsz (.complex .f64 0 0) rfl rfl (by intro u hu; simp [Value.cells] at hu; subst hu; rfl) rfl rfl (by simp [maxLen]; omega) (by omega) ?_; intro r1 cap1 w7 hown7 hlt7 htwo; have HO7 := hid hown7; have HP7 := hid (show Pushed wr w7 (Value.slice a xs.length c) r1 from htwo); clear htwo hown7 hown)
      go_roundw
      case rel =>
        refine ⟨j + 1, xs ++ [(0, 0)], ?_, ?_, ?_, ?_, ?_⟩
        · rw [HXS.out, List.append_assoc, List.replicate_succ']
        · have := HO7.out
          rw [List.length_append, List.map_append]
          exact this
        · intro _; rw [List.length_append]; simp; omega
        · exact grown_push HB.out HU.out HP7.out
        · intro k hk; cases hk; exact own_push HB.out.size HU.out HP7.out
      case measure => simp [slen]; omega
    · have hlen := HXS.out
      have hle : n ≤ xs.length := by omega
      have hcp := IsSl.cap (IsSl.of_own hown)
      have hnc : n ≤ c := by omega
      have hnl : (n : Int) ≤ (c : Int) := by omega
      have hfit : fitL l n = xs.take n := by
        unfold fitL
        rw [HXS.out]
        by_cases h0 : j = 0
        · subst h0
          rw [HXS.out] at hle
          simp at hle
          rw [Nat.sub_eq_zero_of_le hle]
        · have h1 := HJ.out (by omega)
          have h2 : xs.length = l.length + j := by rw [HXS.out]; simp
          rw [show n - l.length = j by omega]
      have HFT := hid hfit
      have HSL := hid (IsSl.begin (IsSl.of_own hown) hle)
      clear hlen hfit hown
      go_wp2_with fail
      go_ret
      exact ⟨_, rfl, by rw [HFT.out, List.map_take]; exact HSL.out, HB.out, fun k hk => HU.out k (own_any hk)⟩
theorem fit_bound (l : List Cx) (n : Nat) (ft : Bool) (hl : l.length * 16 ≤ 140737488351232) (hn : n ≤ 400000) : (if ft = true then fitL l n else l).length * 16 ≤ 140737488351232 := by
  split
  · rw [fitL_len]; omega
  · exact hl
end
end Go.Proofs.YtlaibmeokghdmaaGreatDoor
