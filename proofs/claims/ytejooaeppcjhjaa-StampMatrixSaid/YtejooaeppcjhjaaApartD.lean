/- As Apart; beside it a set of blocks that stay as they were. -/
import Derived.Test.YtejooaeppcjhjaaApart
namespace Go.Proofs.Ytejooaeppcjhjaa
open Go.RowKit

/-- Blocks that are as they were. -/
structure KeepD (D : Nat → Prop) (w wr : World) : Prop where
  keep : ∀ k, D k → wr.heap[k]? = w.heap[k]?
  lt : ∀ k, D k → k < wr.heap.size
theorem KeepD.grown {D : Nat → Prop} {w wr w1 : World} {r : Option Nat} (h : KeepD D w wr) (hg : wr.grownBy w1 r) (hne : ∀ g, r = some g → ¬ D g) : KeepD D w w1 :=
  ⟨fun k hk => (hg.block k (h.lt k hk) (fun e => hne k e.symm hk)).trans (h.keep k hk), fun k hk => Nat.lt_of_lt_of_le (h.lt k hk) hg.size⟩
section
variable {α : Type} {D : Nat → Prop} {mk : α → Value} {mark : Nat → Nat → α} {E ST B m : Nat} {v0 : Value} {V : Nat → Value} {N : Nat → Nat}
structure SepK (D : Nat → Prop) (m : Nat) (v0 : Value) (V : Nat → Value) : Prop extends Sep m v0 V where
  dd : ∀ k, k < m → ∀ g, (V k).ownBlock = some g → ¬ D g
structure FamK (D : Nat → Prop) (mk : α → Value) (E B m : Nat) (v0 : Value) (V : Nat → Value) (N : Nat → Nat) (L : Nat → List α) (w wr : World) : Prop extends Fam mk E B m v0 V N L w wr where
  kd : KeepD D w wr
theorem FamK.store {L : Nat → List α} {w wr w1 : World} (h : FamK D mk E B m v0 V N L w wr) (hs : SepK D m v0 V) {k : Nat} (hk : k < m) {l : List α} {g : Nat} (hv : (V k).ownBlock = some g)
    (hg : wr.grownBy w1 (some g)) (h1 : w1.ownsRow B E 1 (V k) (N k) (l.map mk)) : FamK D mk E B m v0 V N (fun j => if j = k then l else L j) w w1 :=
  ⟨h.toFam.store hs.toSep hk hv hg h1, h.kd.grown hg (fun g' e => by cases e; exact hs.dd k hk g hv)⟩
theorem FamK.congr {L L' : Nat → List α} {w wr : World} (h : FamK D mk E B m v0 V N L w wr) (hl : ∀ j, j < m → L j = L' j) : FamK D mk E B m v0 V N L' w wr := ⟨h.toFam.congr hl, h.kd⟩
structure GsK (D : Nat → Prop) (mk : α → Value) (mark : Nat → Nat → α) (E ST B m : Nat) (v0 : Value) (V : Nat → Value) (N : Nat → Nat) (k kr : Nat) (out : Value) (G : Nat → Value) (w wr : World) : Prop extends Gs mk mark E ST B m v0 V N k kr out G w wr where
  kd : KeepD D w wr
  od : ∀ g, out.ownBlock = some g → ¬ D g
structure CurK (D : Nat → Prop) (mk : α → Value) (mark : Nat → Nat → α) (E B m : Nat) (v0 : Value) (V : Nat → Value) (N : Nat → Nat) (k n : Nat) (out gv : Value) (G : Nat → Value) (wr : World) : Prop extends Cur mk mark E B m v0 V N k n out gv G wr where
  cd : ∀ g, gv.ownBlock = some g → ¬ D g
theorem GsK.start {w wr : World} (h : FamK D mk E B m v0 V N (fun j => marksOf mark (j + 10) (N j)) w wr) : GsK D mk mark E ST B m v0 V N 0 0 (.slice none 0 0) V w wr :=
  ⟨Gs.start h.toFam, h.kd, fun g hg => (by cases hg)⟩
theorem GsK.drewN {k kr : Nat} {out : Value} {G : Nat → Value} {w wr : World} (h : GsK D mk mark E ST B m v0 V N k kr out G w wr) (n : Nat) : GsK D mk mark E ST B m v0 V N k kr out G w (wr.drewN n) :=
  ⟨h.toGs.drewN n, ⟨h.kd.keep, h.kd.lt⟩, h.od⟩
theorem GsK.less {k kr kr' : Nat} {out : Value} {G : Nat → Value} {w wr : World} (h : GsK D mk mark E ST B m v0 V N k kr out G w wr) (hk : kr ≤ kr') : GsK D mk mark E ST B m v0 V N k kr' out G w wr :=
  ⟨h.toGs.less hk, h.kd, h.od⟩
theorem CurK.begin {k : Nat} {out : Value} {G : Nat → Value} {w wr : World} (h : GsK D mk mark E ST B m v0 V N k k out G w wr) (hs : SepK D m v0 V) (hk : k < m) : CurK D mk mark E B m v0 V N k (N k) out (V k) G wr :=
  ⟨Cur.begin h.toGs hs.toSep hk, hs.dd k hk⟩
theorem GsK.push_in {k n g cap : Nat} {out gv : Value} {G : Nat → Value} {w wr w1 : World} (h : GsK D mk mark E ST B m v0 V N k (k + 1) out G w wr) (c : CurK D mk mark E B m v0 V N k n out gv G wr) (hs : SepK D m v0 V) (hf : OwnForm m V N) (hk : k < m) (hn : N k ≤ n)
    (h1 : w1.ownsRow B E 1 (.slice (some ⟨g, 0, none⟩) (n + 1) cap) (n + 1) ((marksOf mark (k + 10) n).map mk ++ [mk (mark (k + 10) n)]))
    (h2 : (gv.ownBlock = some g ∧ wr.grownBy w1 (some g)) ∨ (wr.heap.size ≤ g ∧ wr.grownBy w1 none)) :
    GsK D mk mark E ST B m v0 V N k (k + 1) out G w w1 ∧ CurK D mk mark E B m v0 V N k (n + 1) out (.slice (some ⟨g, 0, none⟩) (n + 1) cap) G w1 := by
  have hp := Gs.push_in h.toGs c.toCur hs.toSep hf hk hn h1 h2
  rcases h2 with ⟨hg, hgr⟩ | ⟨hge, hgr⟩
  · exact ⟨⟨hp.1, h.kd.grown hgr (fun g' e => by cases e; exact c.cd g hg), h.od⟩, ⟨hp.2, fun g' e => by cases e; exact c.cd g hg⟩⟩
  · exact ⟨⟨hp.1, h.kd.grown hgr (fun g' e => by cases e), h.od⟩, ⟨hp.2, fun g' e hd => by have := ownBlock_lit e; have := h.kd.lt g' hd; omega⟩⟩
theorem GsK.push_out {k g cap : Nat} {out gv : Value} {G : Nat → Value} {w wr w1 : World} (h : GsK D mk mark E ST B m v0 V N k (k + 1) out G w wr) (c : CurK D mk mark E B m v0 V N k (N k + 6) out gv G wr) (hs : SepK D m v0 V) (hk : k < m)
    (h1 : w1.ownsRow B ST 1 (.slice (some ⟨g, 0, none⟩) (k + 1) cap) (k + 1) ((List.range k).map G ++ [gv]))
    (h2 : (out.ownBlock = some g ∧ wr.grownBy w1 (some g)) ∨ (wr.heap.size ≤ g ∧ wr.grownBy w1 none)) :
    GsK D mk mark E ST B m v0 V N (k + 1) (k + 1) (.slice (some ⟨g, 0, none⟩) (k + 1) cap) (fun j => if j = k then gv else G j) w w1 := by
  have hp := Gs.push_out h.toGs c.toCur hs.toSep hk h1 h2
  rcases h2 with ⟨hg, hgr⟩ | ⟨hge, hgr⟩
  · exact ⟨hp, h.kd.grown hgr (fun g' e => by cases e; exact h.od g hg), fun g' e => by cases e; exact h.od g hg⟩
  · exact ⟨hp, h.kd.grown hgr (fun g' e => by cases e), fun g' e hd => by have := ownBlock_lit e; have := h.kd.lt g' hd; omega⟩
end
/-- Lists that share no memory, and share none with what else is to stay. -/
def ApartOkK (D : Nat → Prop) (B : Nat) (w : World) (en : Ending) (w' : World) : Prop := en = .returned (.bool true) ∧ Below B w w' ∧ ∀ k, D k → w'.heap[k]? = w.heap[k]?
end Go.Proofs.Ytejooaeppcjhjaa
