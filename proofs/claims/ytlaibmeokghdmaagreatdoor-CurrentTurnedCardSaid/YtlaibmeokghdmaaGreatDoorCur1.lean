/- Walks of the volts of a node: current.volts, gridworkref21.volts. What flows through an element, in words. -/
import Derived.Test.YtlaibmeokghdmaaGreatDoorOfN
import Derived.Test.YtlaibmeokghdmaaGreatDoorAdm2
import Derived.Test.YtlaibmeokghdmaaGreatDoorMElements
namespace Go.Proofs.YtlaibmeokghdmaaGreatDoor
open Go.RowKit

/-- The volts of a node; the amperes of a branch. -/
def voltS (l : List El) (V : List Cx) (s : ByteArray) : Cx := if has (nds l) s = true then V.getD (plI (nds l) s).toNat (0, 0) else (0, 0)
def ampS (l : List El) (A : List Cx) (s : ByteArray) : Cx := A.getD (plI (brs l) s).toNat (0, 0)
def flowS (l : List El) (V A : List Cx) (o : Nat) (e : El) : Cx × Int :=
  if (e.kind == 4) = true then fin6 (phs e.val e.ph)
  else if isBr e = true then fin6 (ck (ampS l A e.name))
  else if (e.kind == 6) = true then fin6 (cmul (fc e.val, fc 0) (csub (ck (voltS l V e.c)) (ck (voltS l V e.d))))
  else if (admS e o).2 = 0 then fin6 (cmul (admS e o).1 (csub (ck (voltS l V e.a)) (ck (voltS l V e.b)))) else ((fc 0, fc 0), (admS e o).2)
theorem pl_in {l : List ByteArray} {s : ByteArray} (h : has l s = true) : ∃ k : Nat, plI l s = (k : Int) ∧ k < l.length := by
  refine ⟨l.findIdx fun u => u.toList == s.toList, by unfold plI; rw [if_pos h], ?_⟩
  rw [List.findIdx_lt_length]
  obtain ⟨u, hu, h2⟩ := List.any_eq_true.1 h
  exact ⟨u, hu, h2⟩
theorem volt_no {l : List El} {V : List Cx} {s : ByteArray} (h : has (nds l) s = false) : voltS l V s = (0, 0) := by unfold voltS; rw [if_neg (by rw [h]; decide)]
theorem volt_at {l : List El} {V : List Cx} {s : ByteArray} {k : Nat} {z : Cx} (h : has (nds l) s = true) (hk : plI (nds l) s = (k : Int)) (hz : V[k]? = some z) : voltS l V s = z := by
  unfold voltS
  rw [if_pos h, hk]
  simp [List.getD, hz]
theorem amp_at {l : List El} {A : List Cx} {s : ByteArray} {k : Nat} {z : Cx} (hk : plI (brs l) s = (k : Int)) (hz : A[k]? = some z) : ampS l A s = z := by
  unfold ampS
  rw [hk]
  simp [List.getD, hz]
set_option maxRecDepth 100000 in
set_option maxHeartbeats 800000 in
theorem cvolts_any (p : Value) (l : List El) (o : Nat) (v1 v2 : Value) (V : List Cx) (s : ByteArray) (w : World) (hp : NN w p l) (hs : s.size ≤ maxLen) (h1 : IsSl w 1 v1 V.length (V.map mkC)) (hV : V.length = (nds l).length) :
    Calls Tryz.prog 71 #[p, .agg #[.float .f64 o, v1, v2], .string s] w (fun e w' => e = .returned (.complex .f64 (voltS l V s).1 (voltS l V s).2) ∧ Below w.heap.size w w') := by
  obtain ⟨a, c, rfl⟩ := h1.form
  obtain ⟨i0, hi, hz0, hz1, hz2⟩ := info_parts infoC
  have hbw := (Below.refl w.heap.size w).alloc (Nat.le_refl _) (.cells #[.float .f64 o, .slice a V.length c, v2] 63)
  have hbx := heap_alloc_new w (.cells #[.float .f64 o, .slice a V.length c, v2] 63)
  obtain ⟨hbc, fb⟩ := block_cells hbx
  have b1 := hbc 1 _ rfl
  have HP := hid (hp.below' hbw)
  have HV := hid (h1.below hbw (Nat.le_refl _))
  have HBW := hid hbw
  have HLEN := hid hV
  clear hV
  clear hbc fb hbx hbw hp h1
  go_enter Tryz.func71, Tryz.ntmps71
  go_upto_region 1 with fail
  generalize w.alloc (.cells #[.float .f64 o, .slice a V.length c, v2] 63) = w1 at *
  cases hh : has (nds l) s
  · have HH := hid hh
    clear hh
    go_wp2_with (go_at_call 18; refine (nplace_any _ l s _ HP.out hs).mono ?_; rintro e w2 ⟨rfl, rfl⟩; rw [HH.out])
    (try rw [Exit.noGoto_ret])
    go_ret
    exact ⟨by rw [volt_no HH.out]; rfl, HBW.out⟩
  · have HH := hid hh
    obtain ⟨k, hk, hlt⟩ := pl_in hh
    have HK := hid hk
    clear hk hh
    obtain ⟨g, o2, x, hidx, hg, hcell, hx⟩ := IsSl.at1 Tryz.underlying36 hi hz1 HV.out (k := k) (by have := HLEN.out; omega)
    obtain ⟨z, hz, rfl⟩ := map_getElem? hx
    unfold mkC at hcell
    have HZ := hid hz
    clear hz hx hg
    go_wp2_with (go_at_call 18; refine (nplace_any _ l s _ HP.out hs).mono ?_; rintro e w2 ⟨rfl, rfl⟩; rw [HH.out, HK.out])
    (try rw [Exit.noGoto_ret])
    go_ret
    exact ⟨by rw [volt_at HH.out HK.out HZ.out]; rfl, HBW.out⟩
end Go.Proofs.YtlaibmeokghdmaaGreatDoor
