/- a part of the proof of the last text -/
import Derived.Test.YtdepiggjneoopaaGreatDoorZMRow
namespace Go.Proofs.YtdepiggjneoopaaGreatDoor
set_option linter.all false
set_option maxHeartbeats 4000000
set_option maxRecDepth 100000
open Go.RowKit
def marksOf {α:Type} (mark:Nat→Nat→α) (k n:Nat):List α:=(List.range n).map (mark k)
section
variable {α:Type} {mk:α→Value} {mark:Nat→Nat→α} {E ST B m:Nat} {v0:Value} {V:Nat→Value} {N:Nat→Nat}
structure Fam (mk:α→Value) (E B m:Nat) (v0:Value) (V:Nat→Value) (N:Nat→Nat) (L:Nat→List α) (w wr:World):Prop where
 below:Below B w wr
 size:B≤wr.heap.size
 list:IsSl wr 1 v0 m ((List.range m).map V)
 rows:∀j,j < m→wr.ownsRow B E 1 (V j) (N j) ((L j).map mk)
theorem Fam.len {L:Nat→List α} {w wr:World} (h:Fam mk E B m v0 V N L w wr) {k:Nat} (hk:k < m):(L k).length=N k:=by simpa using (h.rows k hk).1
theorem Fam.form {L:Nat→List α} {w wr:World} (h:Fam mk E B m v0 V N L w wr) {k:Nat} (hk:k < m):∃a c,V k=.slice a (N k) c:=(IsSl.of_own (h.rows k hk)).form
theorem Fam.drewN {L:Nat→List α} {w wr:World} (h:Fam mk E B m v0 V N L w wr) (n:Nat):Fam mk E B m v0 V N L w (wr.drewN n):=⟨zAg h.below n,h.size,h.list,h.rows⟩
theorem Fam.drew {L:Nat→List α} {w wr:World} (h:Fam mk E B m v0 V N L w wr):Fam mk E B m v0 V N L w wr.drew:=⟨h.below.drew,h.size,h.list,h.rows⟩
theorem Fam.later {L:Nat→List α} {w wr w1:World} (h:Fam mk E B m v0 V N L w wr) (hb:Below wr.heap.size wr w1):Fam mk E B m v0 V N L w w1:=
 ⟨h.below.trans (hb.mono h.size),Nat.le_trans h.size hb.size,h.list.below hb (Nat.le_refl _),fun j hj=> (h.rows j hj).kept (row:=none) ⟨hb.os,hb.tape,hb.output,hb.size,fun k hk _=> hb.block k hk⟩ (by cases (V j).ownBlock <;> simp)⟩
theorem Fam.congr {L L':Nat→List α} {w wr:World} (h:Fam mk E B m v0 V N L w wr) (hl:∀j,j < m→L j=L' j):Fam mk E B m v0 V N L' w wr:=
 ⟨h.below,h.size,h.list,fun j hj=> by rw [←hl j hj];exact h.rows j hj⟩
structure Gs (mk:α→Value) (mark:Nat→Nat→α) (E ST B m:Nat) (v0:Value) (V:Nat→Value) (N:Nat→Nat) (k kr:Nat) (out:Value) (G:Nat→Value) (w wr:World):Prop where
 below:Below B w wr
 size:B≤wr.heap.size
 list:IsSl wr 1 v0 m ((List.range m).map V)
 old:∀j,j < m→IsSl wr 1 (V j) (N j) ((marksOf mark (j+10) (N j)).map mk)
 rows:∀j,j < m→kr≤j→wr.ownsRow B E 1 (V j) (N j) ((marksOf mark (j+10) (N j)).map mk)
 new:∀j,j < k→IsSl wr 1 (G j) (N j+6) ((marksOf mark (j+10) (N j+6)).map mk)
 outR:wr.ownsRow B ST 1 out k ((List.range k).map G)
 outV:∀g,out.ownBlock=some g→(∀j,j < m→(V j).ownBlock≠some g)∧(∀j,j < k→(G j).ownBlock≠some g)∧v0.ownBlock≠some g
 gV:∀j,j < k→∀g,(G j).ownBlock=some g→∀j',j' < m→k≤j'→(V j').ownBlock≠some g
theorem Gs.start {w wr:World} (h:Fam mk E B m v0 V N (fun j=> marksOf mark (j+10) (N j)) w wr):Gs mk mark E ST B m v0 V N 0 0 (.slice none 0 0) V w wr:=
 ⟨h.below,h.size,h.list,fun j hj=> IsSl.of_own (h.rows j hj),fun j hj _=> h.rows j hj,fun j hj=> by omega,World.ownsRow_nil _ _ _ _,fun g hg=> (by cases hg),fun j hj=> by omega⟩
theorem Gs.drewN {k kr:Nat} {out:Value} {G:Nat→Value} {w wr:World} (h:Gs mk mark E ST B m v0 V N k kr out G w wr) (n:Nat):Gs mk mark E ST B m v0 V N k kr out G w (wr.drewN n):=
 ⟨zAg h.below n,h.size,h.list,h.old,h.rows,h.new,h.outR,h.outV,h.gV⟩
theorem own_ne {w w':World} {base e size n:Nat} {v:Value} {xs:List Value} {g:Nat} (h:w.ownsRow base e size v n xs) (hg:w.grownBy w' (some g)) (aK:v.ownBlock≠some g):w'.ownsRow base e size v n xs:=h.kept hg (.inr aK)
theorem zBf {w w':World} {base e size n:Nat} {v:Value} {xs:List Value} (h:w.ownsRow base e size v n xs) (hg:w.grownBy w' none):w'.ownsRow base e size v n xs:=h.kept hg (by cases v.ownBlock <;> simp)
theorem zCx {g g' n c:Nat} (h:(Value.slice (some ⟨g,0,none⟩) n c).ownBlock=some g'):g'=g:=by simpa [Value.ownBlock] using h.symm
end
end Go.Proofs.YtdepiggjneoopaaGreatDoor
