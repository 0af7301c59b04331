/- a part of the proof of the last text -/
import Derived.Test.YtaegmlhfecfgkaaGreatDoorZPhw4
namespace Go.Proofs.YtaegmlhfecfgkaaGreatDoor
set_option linter.all false
set_option maxHeartbeats 4000000
set_option maxRecDepth 100000
open Go.RowKit
def solV (om k m:Nat) (S:Option (Nat→Cx) × (Int × Int)):Nat × List Cx × List Cx:=
 match S.1 with
 | none=> (0, [], [])
 | some x=> (om,(List.range k).map x,(List.range m).map fun i=> x (k+i))
def RetSolU (dis:Bool) (T:Nat × List Cx × List Cx) (f:Int × Int) (w:World) (e:Ending) (w':World):Prop:=
 ∃ (a1 a2:Option Addr) (c1 c2:Nat) (X1 X2:List Cx),e=.returned (.tuple #[.agg #[.float .f64 T.1,.slice a1 X1.length c1,.slice a2 X2.length c2],.agg #[.int .i64 f.1,.int .i64 f.2]])∧X1.map ck=T.2.1∧X2.map ck=T.2.2∧
  w'.ownsRow w.heap.size 43 1 (.slice a1 X1.length c1) X1.length (X1.map mkC)∧w'.ownsRow w.heap.size 43 1 (.slice a2 X2.length c2) X2.length (X2.map mkC)∧(dis=true→Dis (.slice a1 X1.length c1) (.slice a2 X2.length c2))∧Below w.heap.size w w'
def RetSolV (dis:Bool) (o:Nat) (V1 V2:List Cx) (f1 f2:Int) (w:World) (e:Ending) (w':World):Prop:=
 ∃ (a1 a2:Option Addr) (c1 c2:Nat) (X1 X2:List Cx),e=.returned (.tuple #[.agg #[.float .f64 o,.slice a1 X1.length c1,.slice a2 X2.length c2],.agg #[.int .i64 f1,.int .i64 f2]])∧X1.map ck=V1∧X2.map ck=V2∧
  w'.ownsRow w.heap.size 43 1 (.slice a1 X1.length c1) X1.length (X1.map mkC)∧w'.ownsRow w.heap.size 43 1 (.slice a2 X2.length c2) X2.length (X2.map mkC)∧(dis=true→Dis (.slice a1 X1.length c1) (.slice a2 X2.length c2))∧Below w.heap.size w w'
theorem RetSolU.v {dis:Bool} {T:Nat × List Cx × List Cx} {f:Int × Int} {o:Nat} {V1 V2:List Cx} {f1 f2:Int} {w w':World} {e:Ending} (h:RetSolU dis T f w e w') (hT:T=(o,V1,V2)) (hf:f=(f1,f2)):RetSolV dis o V1 V2 f1 f2 w e w':=by
 subst hT hf;exact h
theorem nil_own {w:World} {B e n:Nat}:w.ownsRow B e n (.slice none 0 0) 0 []:=⟨by simp,.inl ⟨rfl,rfl⟩⟩
theorem own_vec {w:World} {B q n:Nat} {M:List Cx} {r:Nat→Cx} (h:VecM w q n r M) (hB:B≤q) (hn:n≤1000):w.ownsRow B 43 1 (.slice (some ⟨q,0,none⟩) M.length n) M.length (M.map mkC):=by
 obtain ⟨hl,hr,_⟩:=h;refine ⟨by simp,.inr ⟨q,n,(M.map mkC).toArray,rfl,hB,hr,by omega,Nat.le_trans hn (by decide),by simp [hl],?_⟩⟩;rw [Nat.mul_one];exact List.take_of_length_le (by simp)
theorem VecM.whole {w:World} {b n:Nat} {r:Nat→Cx} {M:List Cx} (h:VecM w b n r M):M.map ck=(List.range n).map r:=by
 apply List.ext_getElem
 · simp [h.len]
 · intro i h1 h2;have hi:i < n:=by simpa using h2
   rw [List.getElem_map,List.getElem_map,List.getElem_range,←h.num i hi,List.getD_eq_getElem?_getD,List.getElem?_eq_getElem (by rw [h.len];omega)];rfl
theorem solU_P {om k m:Nat} {S:Option (Nat→Cx) × (Int × Int)} {w w':World} {e:Ending} (hk:k≤1000) (hm:m≤1000) (h:RetSolP om k m S w e w'):RetSolU true (solV om k m S) S.2 w e w':=by
 obtain ⟨hb,⟨h1,h2⟩ | ⟨x,q1,q2,h1,h2,h3,h4,h5,⟨M1,h6⟩,⟨M2,h7⟩⟩⟩:=h
 · refine ⟨none,none,0,0, [], [],?_,?_,?_,nil_own,nil_own,fun _ g hg=> (by cases hg),hb⟩
   · rw [h2];simp [solV,h1]
   · simp [solV,h1]
   · simp [solV,h1]
 · have e1:=h6.len;have e2:=h7.len;refine ⟨some ⟨q1,0,none⟩,some ⟨q2,0,none⟩,k,m,M1,M2,?_,?_,?_,own_vec h6 h3 hk,own_vec h7 h4 hm,fun _ g h8 h9=> h5 ((Option.some.inj h8).trans (Option.some.inj h9).symm),hb⟩
   · rw [h2,h1,e1,e2];rfl
   · rw [h6.whole,h1];rfl
   · rw [h7.whole,h1];rfl
theorem solV_len {om k m:Nat} {S:Option (Nat→Cx) × (Int × Int)}:(solV om k m S).2.1.length≤k∧(solV om k m S).2.2.length≤m:=by
 unfold solV
 split <;> simp
end Go.Proofs.YtaegmlhfecfgkaaGreatDoor
