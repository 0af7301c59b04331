/- stamp.Matrix of a net that may be none: its parts told one by one. -/
import Derived.Test.YtlaibmeokghdmaaGreatDoorMtx2
import Derived.Test.YtlaibmeokghdmaaGreatDoorMNl
namespace Go.Proofs.YtlaibmeokghdmaaGreatDoor
open Go.RowKit

/-- As RetMx, its parts told one by one. -/
def RetMz (n : Nat) (zs : List Cx) (ea eb : Int) (w : World) (e : Ending) (w' : World) : Prop :=
  ∃ (v : Value) (xs : List Cx), e = .returned (.tuple #[.agg #[.int .i64 n, .int .i64 n, v], .agg #[.int .i64 ea, .int .i64 eb]]) ∧ xs.map ck = zs ∧ w'.ownsRow w.heap.size 47 1 v xs.length (xs.map mkC) ∧ Below w.heap.size w w'
theorem RetMz.of {n : Nat} {zs : List Cx} {ea eb : Int} {w w' : World} {e : Ending} {S : (Nat × List Cx) × (Int × Int)} (hS : S = ((n, zs), (ea, eb))) (h : RetMx S w e w') : RetMz n zs ea eb w e w' := by
  subst hS
  exact h
theorem smatrix_any (p : Value) (l : List El) (om n : Nat) (zs : List Cx) (ea eb : Int) (w : World) (hp : NN w p (nl l)) (hok : ∀ e ∈ l, e.Ok) (hS : matS (noNet p) (nl l) om = ((n, zs), (ea, eb))) :
    Calls Tryz.prog 11 #[p, .float .f64 om] w (RetMz n zs ea eb w) := by
  obtain ⟨h1, h2, h3⟩ := nl_ok hok
  by_cases hb : noNet p = true ∨ angE om ≠ 0
  · exact (smatrix_bad p (nl l) om w hp h3 hb).mono fun _ _ h => RetMz.of hS h
  · have hq : noNet p = false := by simpa using fun h => hb (.inl h)
    have ha : angE om = 0 := Decidable.byContradiction fun h => hb (.inr h)
    rw [hq] at hS
    exact (smatrix_good p (nl l) om w hp h3 hq ha (fun x hx => (h2 x hx).1) (fun x hx => check_isK (h2 x hx).2) (by omega) (nl_size l).2).mono fun _ _ h => RetMz.of hS h
/-- The elements of a net that may be. -/
structure NetG (l : List El) : Prop where
  len : l.length ≤ 256
  ok : ∀ x ∈ l, x.Ok
  ck : ∀ x ∈ l, checkE x = 0
  nm : has (l.map El.name) ⟨#[]⟩ = false
  sz : szL l ≤ 64
theorem smx_any (p : Value) (l : List El) (om : Nat) (w : World) (hp : NN w p l) (hq : noNet p = false) (hg : NetG l) :
    Calls Tryz.prog 11 #[p, .float .f64 om] w (RetMx (matS false l om) w) := by
  by_cases ha : angE om = 0
  · exact (smatrix_good p l om w hp hg.nm hq ha hg.ok (fun x hx => check_isK (hg.ck x hx)) (by have := hg.len; omega) hg.sz)
  · have h := smatrix_bad p l om w hp hg.nm (.inr ha)
    rwa [hq] at h
theorem netg_of {l : List El} (h : (ofL l).1 = true) (hok : ∀ x ∈ l, x.Ok) : NetG l := by
  obtain ⟨h1, h2⟩ := ofL_true h
  exact ⟨h1, hok, h2, no_empty h2, (ofL_size h).2⟩
end Go.Proofs.YtlaibmeokghdmaaGreatDoor
