/- What a map from names to places holds: plain law. No function of the program is named here. -/
import Derived.Test.YtaobncojdonhlaaFind15
import Derived.Maps.OwnSet
namespace Go.Proofs.Ytaobncojdonhlaa
open Go.RowKit

abbrev DU := DataW Unit
/-- A name as a key; a place as an element. -/
def kls (s : ByteArray) : Lit := .string s.data.toList
def plD (i : Int) : DU := .lit (.int .i64 i)
theorem toList_data (s : ByteArray) : s.toList = s.data.toList := by
  first | exact ByteArray.toList_eq s | exact ByteArray.toList_data s | simp [ByteArray.toList_eq] | rfl
theorem same_iff (s t : ByteArray) : (s.toList == t.toList) = true ↔ s = t := by
  rw [beq_iff_eq, toList_data, toList_data]
  exact ⟨fun h => ByteArray.ext (Array.toList_inj.1 h), fun h => by rw [h]⟩
theorem kls_ne {s t : ByteArray} (h : ¬ s = t) : kls s ≠ kls t := fun e => h (ByteArray.ext (Array.toList_inj.1 (by injection e)))
theorem kls_key (s : ByteArray) : WideAt.IsKeyLit (kls s) := trivial
theorem has_iff (l : List ByteArray) (s : ByteArray) : has l s = true ↔ s ∈ l := by
  unfold has
  rw [List.any_eq_true]
  constructor
  · rintro ⟨t, ht, h⟩
    rw [same_iff] at h
    exact h ▸ ht
  · intro h
    exact ⟨s, h, by simp⟩
/-- The map holds each name of the list, at its place. -/
def MapIs (D : DU) (l : List ByteArray) : Prop := Maps.IsMap D ∧ ∀ s, D.atKey (kls s) (plD 0) = plD (plI l s) ∧ Maps.has D (kls s) = has l s
theorem mapIs_empty : MapIs (.map []) [] := ⟨Maps.isMap_empty, fun s => ⟨rfl, rfl⟩⟩
theorem has_app (l : List ByteArray) (s t : ByteArray) : has (l ++ [s]) t = (has l t || (s.toList == t.toList)) := by simp [has]
theorem plI_old {l : List ByteArray} {s t : ByteArray} (h : ¬ s = t) : plI (l ++ [s]) t = plI l t := by
  have hf : (s.toList == t.toList) = false := by
    cases e : (s.toList == t.toList)
    · rfl
    · exact absurd ((same_iff s t).1 e) h
  unfold plI
  rw [has_app, hf, Bool.or_false]
  cases hh : has l t
  · simp
  · simp only [if_true]
    rw [List.findIdx_append]
    have : l.findIdx (fun u => u.toList == t.toList) < l.length := List.findIdx_lt_length.2 (by
      obtain ⟨u, hu, hu2⟩ := List.any_eq_true.1 hh
      exact ⟨u, hu, hu2⟩)
    rw [if_pos this]
theorem plI_new {l : List ByteArray} {s : ByteArray} (h : has l s = false) : plI (l ++ [s]) s = l.length ∧ has (l ++ [s]) s = true := by
  have := plI_at (l := l ++ [s]) (s := s) (t := s) (k := l.length) (by rw [List.take_left' rfl]; exact h) (by simp) (by simp)
  exact ⟨this.2, this.1⟩
theorem mapIs_put {D : DU} {l : List ByteArray} {s : ByteArray} (h : MapIs D l) (hs : has l s = false) : MapIs (D.put (kls s) (plD l.length)) (l ++ [s]) := by
  refine ⟨h.1.put _ _, fun t => ?_⟩
  by_cases e : s = t
  · subst e
    obtain ⟨h1, h2⟩ := plI_new hs
    rw [Maps.atKey_put_same h.1 (kls_key s), Maps.has_put_same h.1 (kls_key s), h1, h2]
    exact ⟨rfl, rfl⟩
  · have hf : (s.toList == t.toList) = false := by
      cases e2 : (s.toList == t.toList)
      · rfl
      · exact absurd ((same_iff s t).1 e2) e
    rw [Maps.atKey_put_other (kls_ne fun x => e x.symm), Maps.has_put_other (kls_ne fun x => e x.symm), plI_old e, has_app, hf, Bool.or_false]
    exact h.2 t
end Go.Proofs.Ytaobncojdonhlaa
