/- a part of the proof of the last text -/
import Derived.Test.YtdepiggjneoopaaGreatDoorZBlind0
namespace Go.Proofs.YtdepiggjneoopaaGreatDoor
set_option linter.all false
set_option maxHeartbeats 4000000
set_option maxRecDepth 100000
open Go.RowKit
def SameN (l m:List El):Prop:=m.length=l.length∧∀ (k:Nat) (x y:El),l[k]? =some x→m[k]? =some y→y.kind=x.kind∧y.name=x.name∧y.a=x.a∧y.b=x.b∧y.c=x.c∧y.d=x.d∧(x.kind≠4→x.kind≠5→y.val=x.val)
theorem SameN.names {l m:List El} (h:SameN l m):m.map El.name=l.map El.name:=by
 apply List.ext_getElem?
 intro k;rw [List.getElem?_map,List.getElem?_map]
 by_cases hk:k < l.length
 · have hx:l[k]? =some l[k]:=List.getElem?_eq_getElem hk;have hy:m[k]? =some (m[k]'(by rw [h.1];exact hk)):=List.getElem?_eq_getElem (by rw [h.1];exact hk);rw [hx,hy];simp only [Option.map_some];rw [(h.2 k _ _ hx hy).2.1]
 · rw [List.getElem?_eq_none (by have:=h.1;omega),List.getElem?_eq_none (by have:=h.1;omega)]
theorem named_map (l:List El) (s:ByteArray):zEn l s=(l.map El.name).any fun t=> t.toList==s.toList:=by
 unfold zEn;rw [List.any_map];rfl
theorem SameN.uniq {l m:List El} (h:SameN l m) (hu:Uniq l):Uniq m:=by
 intro k y hy;have hk:k < l.length:=by rw [←h.1];exact (List.getElem?_eq_some_iff.1 hy).1
 have hx:l[k]? =some l[k]:=List.getElem?_eq_getElem hk;have h1:=hu k _ hx;rw [named_map,List.map_take] at h1⊢;rw [h.names,(h.2 k _ _ hx hy).2.1];exact h1
theorem SameN.ren {l m:List El} (h:SameN l m) (hu:Uniq l) (c1:∀x∈l,zAv x=0) (c2:∀x∈m,zAv x=0):RenM id (fun _=> True) l m:=
 ⟨h.1,fun k x y hx hy=> by
  obtain ⟨e1,_,e3,e4,e5,e6,e7⟩:=h.2 k x y hx hy;exact ⟨e1,e7,e3,e4,e5,e6⟩,fun _ _=> ⟨trivial,trivial,trivial,trivial⟩,fun _ _ _ _=> rfl,fun _ _=> rfl,hu,h.uniq hu,c1,c2⟩
theorem SameN.good {l m:List El} (h:SameN l m) (hg:(ofL l).1=true) (c2:∀x∈m,zAv x=0):ofL m=(true,0,0):=by
 have hr:=h.ren (uniq_good hg) (zFm hg).2 c2;have h3:=ofL_size hg;rw [ofL_good (by rw [h.1];have:=(zFm hg).1;omega) (fun j e he=> ?_)]
 · rw [hr.nn,hr.bn,if_neg (by omega)]
 · unfold bad1;rw [c2 e (List.mem_of_getElem? he),if_pos rfl,hr.u2 j e he]
   rfl
def mutE (v:Nat) (p:Int) (x:El):El:=if zDd x=true then {x with val:=v,ph:=p} else x
theorem mut_same (v:Nat) (p:Int) (l:List El):SameN l (l.map (mutE v p)):=by
 refine ⟨by simp,fun k x y hx hy=> ?_⟩;rw [List.getElem?_map,hx] at hy;obtain rfl:=Option.some.inj hy;unfold mutE
 split
 · rename_i hs;refine ⟨rfl,rfl,rfl,rfl,rfl,rfl,fun h4 h5=> ?_⟩;unfold zDd at hs;simp only [Bool.or_eq_true,beq_iff_eq] at hs;rcases hs with h | h
   · exact absurd h h4
   · exact absurd h h5
 · exact ⟨rfl,rfl,rfl,rfl,rfl,rfl,fun _ _=> rfl⟩
theorem mut_check {v:Nat} {p:Int} {x:El} (h:zAv x=0) (hv:ffin v=true):zAv (mutE v p x)=0:=by
 unfold mutE
 split
 · rename_i hs;have hk:kAb x.kind=false∧kPh x.kind=true:=by
    unfold zDd at hs;simp only [Bool.or_eq_true,beq_iff_eq] at hs;rcases hs with h1 | h1 <;> rw [h1] <;> exact ⟨rfl,rfl⟩
   unfold zAv at h⊢;have e1:zCc {x with val:=v,ph:=p} =zCc x:=rfl;have e2:zCv {x with val:=v,ph:=p} =zCv x:=by
    unfold zCv;dsimp only;rw [hk.2]
    rfl
   rw [e1,e2];dsimp only
   split at h
   · rename_i hi;rw [if_pos hi]
     split at h
     · cases h
     · rename_i hn;rw [if_neg hn]
       split at h
       · cases h
       · rename_i ha;rw [if_neg ha,if_neg (by have:=fsize_word hv;omega),hk.1]
         rfl
   · cases h
 · exact h
theorem SameN.chg {l m:List El} (h:SameN l m) (f g:Nat→Nat):SameN (l.map (Go.Proofs.YtdepiggjneoopaaGreatDoor.chg f)) (m.map (Go.Proofs.YtdepiggjneoopaaGreatDoor.chg g)):=by
 refine ⟨by rw [List.length_map,List.length_map,h.1],fun k x y hx hy=> ?_⟩;rw [List.getElem?_map] at hx hy;cases pW:l[k]? with
 | none=> rw [pW] at hx;cases hx
 | some x0=>
  cases qJ:m[k]? with
  | none=> rw [qJ] at hy;cases hy
  | some y0=>
   rw [pW] at hx;rw [qJ] at hy;obtain rfl:=Option.some.inj hx;obtain rfl:=Option.some.inj hy;obtain ⟨e1,e2,e3,e4,e5,e6,e7⟩:=h.2 k x0 y0 pW qJ;have es:zDd y0=zDd x0:=by unfold zDd;rw [e1]
   unfold Go.Proofs.YtdepiggjneoopaaGreatDoor.chg setV;rw [es];cases hs:zDd x0 with
   | true=>
    rw [if_pos rfl,if_pos rfl];refine ⟨e1,e2,e3,e4,e5,e6,fun h4 h5=> ?_⟩;unfold zDd at hs;simp only [Bool.or_eq_true,beq_iff_eq] at hs;rcases hs with h | h
    · exact absurd h h4
    · exact absurd h h5
   | false=>
    rw [if_neg (by simp),if_neg (by simp)];exact ⟨e1,e2,e3,e4,e5,e6,e7⟩
end Go.Proofs.YtdepiggjneoopaaGreatDoor
