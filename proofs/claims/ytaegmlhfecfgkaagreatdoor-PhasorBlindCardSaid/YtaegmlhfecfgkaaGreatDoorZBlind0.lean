/- a part of the proof of the last text -/
import Derived.Test.YtaegmlhfecfgkaaGreatDoorZRen0
namespace Go.Proofs.YtaegmlhfecfgkaaGreatDoor
set_option linter.all false
set_option maxHeartbeats 4000000
set_option maxRecDepth 100000
open Go.RowKit
def rnN (s:ByteArray):ByteArray:=if gnd s=true then s else ⟨#[113]⟩++s
def rnE (s:ByteArray):ByteArray:=s++⟨#[95,120]⟩
def ren (x:El):El:=⟨x.kind,rnE x.name,rnN x.a,rnN x.b,rnN x.c,rnN x.d,x.val,x.ph⟩
theorem cat_list (s t:ByteArray):(s++t).toList=s.toList++t.toList:=by
 rw [ByteArray.toList_eq,ByteArray.toList_eq,ByteArray.toList_eq]
 simp
theorem gnd_iff (s:ByteArray):gnd s=true ↔ s.toList= []∨s.toList= [48]:=by
 unfold gnd
 simp
theorem rnN_list {s:ByteArray} (h:gnd s=false):(rnN s).toList=113::s.toList:=by
 unfold rnN;rw [if_neg (by rw [h];simp),cat_list,ByteArray.toList_eq]
 rfl
theorem rnN_gnd {s:ByteArray} (h:gnd s=true):rnN s=s:=by unfold rnN;rw [if_pos h]
theorem rnN_gd (s:ByteArray):gnd (rnN s)=gnd s:=by
 cases h:gnd s with
 | true=> rw [rnN_gnd h,h]
 | false=>
  cases h2:gnd (rnN s) with
  | false=> rfl
  | true=>
   rw [gnd_iff,rnN_list h] at h2;rcases h2 with h2 | h2 <;> simp at h2
theorem rnN_inj (s t:ByteArray):((rnN s).toList==(rnN t).toList)=(s.toList==t.toList):=by
 rw [Bool.eq_iff_iff,beq_iff_eq,beq_iff_eq];cases hs:gnd s with
 | true=>
  rw [rnN_gnd hs];cases ht:gnd t with
  | true=> rw [rnN_gnd ht]
  | false=>
   rw [rnN_list ht];have h1:=(gnd_iff s).1 hs;have h2:¬(t.toList= []∨t.toList= [48]):=fun h=> by rw [(gnd_iff t).2 h] at ht;cases ht
   constructor
   · intro h;rcases h1 with h1 | h1 <;> rw [h1] at h <;> simp at h
   · intro h;rw [h] at h1;exact absurd h1 h2
 | false=>
  rw [rnN_list hs];cases ht:gnd t with
  | true=>
   rw [rnN_gnd ht];have h1:=(gnd_iff t).1 ht;have h2:¬(s.toList= []∨s.toList= [48]):=fun h=> by rw [(gnd_iff s).2 h] at hs;cases hs
   constructor
   · intro h;rcases h1 with h1 | h1 <;> rw [h1] at h <;> simp at h
   · intro h;rw [←h] at h1;exact absurd h1 h2
  | false=> rw [rnN_list ht];simp
theorem rnE_inj (s t:ByteArray):((rnE s).toList==(rnE t).toList)=(s.toList==t.toList):=by
 rw [Bool.eq_iff_iff,beq_iff_eq,beq_iff_eq];unfold rnE;rw [cat_list,cat_list];exact List.append_left_inj _
theorem size_list (s:ByteArray):s.toList.length=s.size:=by rw [ByteArray.toList_eq];rfl
theorem rnN_size {s:ByteArray} (h:s.size≤15):(rnN s).size≤16:=by
 cases hs:gnd s with
 | true=> rw [rnN_gnd hs];omega
 | false=>
  have:=congrArg List.length (rnN_list hs);rw [size_list,List.length_cons,size_list] at this
  omega
theorem rnN_node {s:ByteArray} (h:nodeB s=true) (hs:s.size≤15):nodeB (rnN s)=true:=by
 cases hg:gnd s with
 | true=> rw [rnN_gnd hg];exact h
 | false=>
  unfold nodeB at h⊢;rw [Bool.and_eq_true,Bool.and_eq_true] at h⊢;have hl:=rnN_list hg;have hn:=congrArg List.length hl;rw [size_list,List.length_cons,size_list] at hn;refine ⟨⟨decide_eq_true (by omega),decide_eq_true (rnN_size hs)⟩,?_⟩;have h2:=h.2;unfold smallB at h2⊢;rw [←ByteArray.toList_eq] at h2⊢;rw [hl,List.all_cons,h2]
  decide
theorem rnN_nil (s:ByteArray):(rnN s).toList= [] ↔ s.toList= []:=by
 cases hg:gnd s with
 | true=> rw [rnN_gnd hg]
 | false=>
  rw [rnN_list hg]
  constructor
  · intro h;cases h
  · intro h;rw [(gnd_iff s).2 (.inl h)] at hg;cases hg
theorem rnE_size (s:ByteArray):(rnE s).size=s.size+2:=by
 rw [←size_list,←size_list];unfold rnE;rw [cat_list,List.length_append,ByteArray.toList_eq ⟨#[95,120]⟩]
 rfl
theorem rnE_kind {s:ByteArray} (h:nameK s≠0) (hs:s.size≤14):nameK (rnE s)=nameK s:=by
 unfold nameK at h
 split at h
 · rename_i h1;obtain ⟨h2,h3,h4⟩:=h1;have hz:=rnE_size s;have hd:(rnE s).data.toList=s.data.toList++ [95,120]:=by
    have:=cat_list s ⟨#[95,120]⟩;rw [ByteArray.toList_eq,ByteArray.toList_eq,ByteArray.toList_eq] at this;exact this
   have h5:2≤ (rnE s).size∧(rnE s).size≤16∧smallB ((rnE s).extract 1 (rnE s).size)=true:=by
    refine ⟨by omega,by omega,?_⟩;unfold smallB at h4⊢;have e1:(s.extract 1 s.size).data.toList=s.data.toList.drop 1:=by
     simp [ByteArray.extract,ByteArray.copySlice]
     rw [List.take_of_length_le (by simp)]
    have e2:((rnE s).extract 1 (rnE s).size).data.toList=(rnE s).data.toList.drop 1:=by
     simp [ByteArray.extract,ByteArray.copySlice]
     rw [List.take_of_length_le (by simp)]
    rw [e1] at h4;rw [e2,hd,List.drop_append_of_le_length (by simp;omega),List.all_append,h4]
    decide
   have h6:(rnE s)[0]'(by omega)=s[0]'(by omega):=by
    have g1:(rnE s).data.toList[0]? =s.data.toList[0]?:=by rw [hd,List.getElem?_append_left (by simp;omega)]
    have a1:(rnE s).data.toList[0]? =some ((rnE s)[0]'(by omega)):=by simp [ByteArray.getElem_eq_getElem_data]
    have a2:s.data.toList[0]? =some (s[0]'(by omega)):=by simp [ByteArray.getElem_eq_getElem_data]
    rw [a1,a2] at g1;exact Option.some.inj g1
   unfold nameK;rw [dif_pos h5,dif_pos ⟨h2,h3,h4⟩,h6]
 · exact absurd rfl h
def shortE (x:El):Prop:=x.name.size≤14∧x.a.size≤15∧x.b.size≤15∧x.c.size≤15∧x.d.size≤15
theorem ren_check {x:El} (h:checkE x=0) (hs:shortE x):checkE (ren x)=0:=by
 unfold checkE at h
 split at h
 · rename_i hk
   split at h
   · cases h
   · rename_i hn
     split at h
     · cases h
     · rename_i ha;have hn2:nameBad (ren x)=false:=by
        have hn3:nameBad x=false:=by simpa using hn
        unfold nameBad at hn3⊢;simp only [Bool.or_eq_false_iff] at hn3;obtain ⟨⟨⟨⟨n1,n2⟩,n3⟩,n4⟩,n5⟩:=hn3;have n1':nameK x.name≠0:=by simpa using n1
        have e1:nameK (ren x).name=nameK x.name:=rnE_kind n1' hs.1;have n3':nodeB x.a=true:=by simpa using n3
        have n4':nodeB x.b=true:=by simpa using n4
        have e2:nodeB (ren x).a=true:=rnN_node n3' hs.2.1;have e3:nodeB (ren x).b=true:=rnN_node n4' hs.2.2.1;rw [e1,e2,e3];have e4:(ren x).kind=x.kind:=rfl;rw [e4,n1,n2];cases hf:kFo x.kind with
        | false=> rfl
        | true=>
         rw [hf,Bool.true_and,Bool.or_eq_false_iff] at n5;have e5:nodeB (ren x).c=true:=rnN_node (by simpa using n5.1) hs.2.2.2.1;have e6:nodeB (ren x).d=true:=rnN_node (by simpa using n5.2) hs.2.2.2.2;rw [e5,e6];rfl
       have ha2:argBad (ren x)=false:=by
        have ha3:argBad x=false:=by simpa using ha
        unfold argBad at ha3⊢;have e1:decide ((ren x).a.toList=(ren x).b.toList)=decide (x.a.toList=x.b.toList):=by
         have:=rnN_inj x.a x.b;rw [Bool.eq_iff_iff,beq_iff_eq,beq_iff_eq] at this;exact decide_eq_decide.2 this
        have e2:decide ((ren x).c.toList= [])=decide (x.c.toList= []):=decide_eq_decide.2 (rnN_nil x.c);have e3:decide ((ren x).d.toList= [])=decide (x.d.toList= []):=decide_eq_decide.2 (rnN_nil x.d);rw [e1,e2,e3];exact ha3
       unfold checkE;have e4:(ren x).kind=x.kind:=rfl;have e5:(ren x).val=x.val:=rfl;rw [e4,e5,if_pos hk,hn2,ha2,if_neg (by simp),if_neg (by simp)];exact h
 · cases h
theorem named_ren (l:List El) (s:ByteArray):named (l.map ren) (rnE s)=named l s:=by
 unfold named;rw [List.any_map]
 congr 1
 funext d
 exact rnE_inj d.name s
theorem uniq_good {l:List El} (h:(ofL l).1=true):Uniq l:=by
 unfold ofL at h
 split at h
 · cases h
 · split at h
   · cases h
   · rename_i hf;intro k x hk;have h0:=firstBad_none hf k x hk;rw [Nat.zero_add] at h0;unfold bad1 at h0
     split at h0
     · split at h0
       · cases h0
       · rename_i h2;simpa using h2
     · rename_i h1;exact absurd h0 h1
theorem ren_all {l:List El} (h:(ofL l).1=true) (hs:∀x∈l,shortE x):RenAll rnN (fun _=> True) l (l.map ren):=by
 obtain ⟨h1,h2⟩:=ofL_true h;refine ⟨⟨by simp,fun k x y hx hy=> ?_,fun _ _=> ⟨trivial,trivial,trivial,trivial⟩,fun s t _ _=> rnN_inj s t,fun s _=> rnN_gd s,uniq_good h,fun k y hy=> ?_,h2,fun y hy=> ?_⟩,fun k x y hx hy=> ?_⟩
 · rw [List.getElem?_map,hx] at hy;obtain rfl:=Option.some.inj hy;exact ⟨rfl,fun _ _=> rfl,rfl,rfl,rfl,rfl⟩
 · rw [List.getElem?_map] at hy;cases hx:l[k]? with
   | none=> rw [hx] at hy;cases hy
   | some x=>
    rw [hx] at hy;obtain rfl:=Option.some.inj hy;rw [←List.map_take];show named ((l.take k).map ren) (rnE x.name)=false;rw [named_ren];exact uniq_good h k x hx
 · obtain ⟨x,hx,rfl⟩:=List.mem_map.1 hy;exact ren_check (h2 x hx) (hs x hx)
 · rw [List.getElem?_map,hx] at hy;obtain rfl:=Option.some.inj hy;exact ⟨rfl,rfl⟩
theorem ren_good {l:List El} (h:(ofL l).1=true) (hs:∀x∈l,shortE x):ofL (l.map ren)=(true,0,0):=by
 have hr:=ren_all h hs;have h3:=ofL_size h;rw [ofL_good (by rw [List.length_map];have:=(ofL_true h).1;omega) (fun j e he=> ?_)]
 · rw [hr.nn,hr.bn,if_neg (by omega)]
 · unfold bad1;rw [hr.c2 e (List.mem_of_getElem? he),if_pos rfl,hr.u2 j e he]
   rfl
theorem ren_ok {x:El} (h:x.Ok) (hs:shortE x):(ren x).Ok:=by
 have hm:16≤maxLen:=by decide
 refine ⟨?_,Nat.le_trans (rnN_size hs.2.1) hm,Nat.le_trans (rnN_size hs.2.2.1) hm,Nat.le_trans (rnN_size hs.2.2.2.1) hm,Nat.le_trans (rnN_size hs.2.2.2.2) hm,h.val⟩;show (rnE x.name).size≤maxLen;rw [rnE_size];have:=hs.1
 omega
end Go.Proofs.YtaegmlhfecfgkaaGreatDoor
