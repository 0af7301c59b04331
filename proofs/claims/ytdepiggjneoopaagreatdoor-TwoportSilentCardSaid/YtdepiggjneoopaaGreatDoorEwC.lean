/- An evaluator of closed runs, and that it is sound. -/
import Derived.Test.YtdepiggjneoopaaGreatDoorEwB
import Derived.Defers
import Derived.LaidLaws
import Derived.ChangeArms
import Derived.OpenShut
import Derived.DataReads
import Derived.Laws.Externs
import Derived.Lib.MakeNoZero
import Derived.WalkKit
import Derived.ProofKit
import Derived.ShutString
import Derived.ChangeOld
import Derived.Below
import Derived.Lib.SmallJoins
set_option linter.all false
namespace Go.Ev
open Go.RowKit
def Fe (P:Program) (E:Kn) (cf:Co):Prop:=∀f args s x s',cf f args s=some (x,s')→Up s s'∧
 ∀B0 w0 ρ G w vs,Rel E B0 w0 ρ G w→All2 (Ao ρ) args vs→Agree s' s G→Calls P f (List.toArray vs) w fun e w'=> ∃v ρ' G',e=.returned v∧Cq ρ' x v∧Lift E B0 w0 s s' ρ G w ρ' G' w'
section
variable {P:Program} {E:Kn} {s:S} {ρ:Env}
def Hu (ρ:Env) (tm:T AV) (a:Act) (ops:Array Oper) (o:Oper):Prop:=
 ∀j want t,o.guard=some (j,want)→(ops[j]?).bind (·.dst)=some t→∀v,tm.get t=some v→∃x,a.tmps[t]? =some x∧Cq ρ v x
theorem Iu {tm:T AV} {a:Act} {ops:Array Oper} {o:Oper} {b:Bool} (hg:Hu ρ tm a ops o) (h:Mn ops o tm=some b):Region.wanted o (yielded ops a.tmps)=b:=by
 unfold Mn at h;unfold Region.wanted;cases ho:o.guard with
 | none=> simp [ho] at h;simp [h]
 | some q=>
  obtain ⟨j,want⟩:=q;simp only [ho] at h;dsimp only;unfold yielded;cases hd:(ops[j]?).bind (·.dst) with
  | none=> simp only [hd] at h;cases h;rfl
  | some t=>
   simp only [hd] at h
   split at h
   · rename_i c hc;cases h;obtain ⟨x,h1,h2⟩:=hg j want t ho hd _ hc;have e:x=.bool c:=h2;subst e;simp only [Option.bind_some,h1];cases c <;> cases want <;> rfl
   · rename_i c hc;cases h;obtain ⟨x,h1,h2⟩:=hg j want t ho hd _ hc;have e:x=_:=h2;subst e;simp only [Option.bind_some,h1]
     rfl
   · cases h
theorem Ej {nt:Nat} {tm tm':T AV} {dst:Option Tmp} {x:AV} (h:St nt tm dst x=some tm'):(∀t,dst=some t→t < nt∧tm'.get t=some x)∧(∀t,dst≠some t→tm'.get t=tm.get t):=by
 unfold St at h;cases dst with
 | none=> cases h;exact ⟨fun t e=> (by cases e),fun _ _=> rfl⟩
 | some d=>
  dsimp only at h;cases hb:(Nat.blt d nt && Nat.ble nt 100000) with
  | false=> simp [hb] at h
  | true=>
   simp only [hb,cond_true] at h;cases h;simp only [Bool.and_eq_true] at hb;refine ⟨fun t e=> ?_,fun t e=> ?_⟩
   · cases e;exact ⟨Db hb.1,by rw [T.get_set];simp⟩
   · rw [T.get_set,if_neg (fun e2=> e (by rw [e2]))]
theorem Ek {cf:Co} (hcf:Fe P E cf) {nt:Nat} {ops:Array Oper} {o:Oper} {tm tm':T AV} {s':S} (h:opA P E cf nt ops o tm s=some (tm',s')):Up s s'∧∀t,o.dst≠some t→tm'.get t=tm.get t:=by
 unfold opA at h
 split at h
 · cases h
 · split at h
   · rename_i hp;cases h;exact ⟨Up.refl _,(Ej hp).2⟩
   · cases h
 · split at h
   · cases h
   · rename_i x s1 hx
     split at h
     · rename_i hp;cases h;exact ⟨Uj _ _ hx,(Ej hp).2⟩
     · cases h
   · rename_i f args hx
     split at h
     · cases h
     · rename_i x s1 hc
       split at h
       · rename_i hp;cases h;exact ⟨(hcf _ _ _ _ _ hc).1,(Ej hp).2⟩
       · cases h
theorem Pl (hE:KnOk P E) {cf:Co} (hcf:Fe P E cf) {nt:Nat} {ops:Array Oper} {o:Oper} {tm tm':T AV} {s':S} (h:opA P E cf nt ops o tm s=some (tm',s'))
 {B0:Nat} {w0:World} {G:Heap} {w:World} {a:Act} (hR:Rel E B0 w0 ρ G w) (ht:OpRel E ρ tm a o) (hg:Hu ρ tm a ops o) (ha:Agree s' s G) {K:Act→World→Prop} {Q:Exit→Act→World→Prop}
 (hK:∀v x ρ' G' w',Cq ρ' x v→(∀t,o.dst=some t→t < nt∧tm'.get t=some x)→Lift E B0 w0 s s' ρ G w ρ' G' w'→K (a.put o.dst v) w'):
 if Region.wanted o (yielded ops a.tmps) then o.wp P a w K Q∨(o.asks P a w∧LetsOut Q) else K (a.put o.dst undef) w:=by
 unfold opA at h
 split at h
 · cases h
 · rename_i hw;rw [Iu hg hw]
   split at h
   · rename_i hp;cases h;simp only [Bool.false_eq_true,if_false];exact hK undef Hy ρ G w rfl (Ej hp).1 (Lift.refl hR ha)
   · cases h
 · rename_i hw;rw [Iu hg hw];simp only [if_true];refine .inl ?_
   split at h
   · cases h
   · rename_i x s1 hx
     split at h
     · rename_i hp;cases h;obtain ⟨ρ',G',w',v,h1,h2,h3⟩:=Uk hE hR ht hx ha;unfold Oper.wp;rcases h1 with h1 | ⟨h1,rfl⟩
       · rw [h1];exact hK v x ρ' G' w' h2 (Ej hp).1 h3
       · rw [h1];exact hK undef x ρ' G' w' h2 (Ej hp).1 h3
     · cases h
   · rename_i f args hx
     split at h
     · cases h
     · rename_i x s1 hc
       split at h
       · rename_i hp;cases h;obtain ⟨vs,h1,h2⟩:=Ry hR ht hx;unfold Oper.wp;rw [h1];refine Calls.mono ((hcf _ _ _ _ _ hc).2 B0 w0 ρ G w vs hR h2 ha) ?_;rintro e w' ⟨v,ρ',G',rfl,h3,h4⟩;exact hK v x ρ' G' w' h3 (Ej hp).1 h4
       · cases h
theorem TmRel.op {tm:T AV} {a:Act} {o:Oper} {B0:Nat} {w0:World} {G:Heap} {w:World} (hR:Rel E B0 w0 ρ G w) (ht:TmRel ρ tm a.tmps):OpRel E ρ tm a o:=
 ⟨fun x _ u hu=> Ep hR ht hu,fun t _ v hv=> by
  obtain ⟨z,h1,h2⟩:=ht t v hv;have:a.eval (.tmp t)=z:=by simp [Act.eval,Array.getD_eq_getD_getElem?,h1]
  rw [this];exact h2⟩
theorem TmRel.guard {tm:T AV} {a:Act} {ops:Array Oper} {o:Oper} (ht:TmRel ρ tm a.tmps):Hu ρ tm a ops o:=fun _ _ t _ _ v hv=> ht t v hv
theorem TmRel.put {ρ':Env} {tm tm':T AV} {a:Act} {dst:Option Tmp} {v:Value} {x:AV} (ht:TmRel ρ' tm a.tmps) (hx:Cq ρ' x v) {nt:Nat} (hs:a.tmps.size=nt) (h1:∀t,dst=some t→t < nt∧tm'.get t=some x) (h2:∀t,dst≠some t→tm'.get t=tm.get t):
 TmRel ρ' tm' (a.put dst v).tmps:=by
 intro t y hy
 by_cases e:dst=some t
 · obtain ⟨h3,h4⟩:=h1 t e;rw [h4] at hy;cases hy;subst e;exact ⟨v,by simp [Act.put,hs,h3],hx⟩
 · rw [h2 t e] at hy;obtain ⟨z,h3,h4⟩:=ht t y hy;refine ⟨z,?_,h4⟩;cases dst with
   | none=> exact h3
   | some d=>
    have:d≠t:=fun e2=> e (by rw [e2])
    simp [Act.put,Array.getElem?_setIfInBounds_ne this,h3]
theorem Jy {a:Act} {dst:Option Tmp} {v:Value}:(a.put dst v).tmps.size=a.tmps.size:=by cases dst <;> simp [Act.put]
theorem Gg {a:Act} {dst:Option Tmp} {v:Value}:(a.put dst v).defers=a.defers:=by cases dst <;> rfl
theorem Mu {cf:Co} (hcf:Fe P E cf) {nt:Nat} {ops:Array Oper}:∀ {l:List Oper} {tm tm':T AV} {s s':S},Oc P E cf nt ops l tm s=some (tm',s')→Up s s'
 | [],tm,tm',s,s',h=> by simp [Oc] at h;obtain ⟨_,rfl⟩:=h;exact Up.refl _
 | o::l,tm,tm',s,s',h=> by
  unfold Oc at h
  split at h
  · rename_i tm1 s1 ho;exact (Ek hcf ho).1.trans (Mu hcf h)
  · cases h
theorem Qs (hE:KnOk P E) {cf:Co} (hcf:Fe P E cf) {nt:Nat} {ops:Array Oper} {Q:Exit→Act→World→Prop}:∀ {l:List Oper} {k:Nat} {tm tm':T AV} {s s':S} {ρ:Env}
 {B0:Nat} {w0:World} {G:Heap} {w:World} {a:Act},ops.toList.drop k=l→Oc P E cf nt ops l tm s=some (tm',s')→Rel E B0 w0 ρ G w→TmRel ρ tm a.tmps→a.tmps.size=nt→Agree s' s G→
 (∀ρ' G' w' a',TmRel ρ' tm' a'.tmps→a'.tmps.size=nt→a'.defers=a.defers→Lift E B0 w0 s s' ρ G w ρ' G' w'→Q .normal a' w')→wpOps P ops Q (List.range' k l.length) a w
 | [],k,tm,tm',s,s',ρ,B0,w0,G,w,a,_,h,hR,ht,hs,ha,hQ=> by
  simp [Oc] at h
  obtain ⟨rfl,rfl⟩:=h;exact hQ ρ G w a ht hs rfl (Lift.refl hR ha)
 | o::l,k,tm,tm',s,s',ρ,B0,w0,G,w,a,hk,h,hR,ht,hs,ha,hQ=> by
  unfold Oc at h
  split at h
  · rename_i tm1 s1 ho;have hup:=Mu hcf h;have hget:ops[k]? =some o:=by
     have:=congrArg (·[0]?) hk
     simp at this
     exact this
    have hk':ops.toList.drop (k+1)=l:=by
     rw [←List.drop_drop,hk];rfl
    rw [List.length_cons,List.range'_succ,wpOps_cons];unfold wpOp;simp only [hget];refine Pl hE hcf ho hR (ht.op hR) ht.guard (ha.first hup) ?_;intro v x ρ' G' w' hv hd hl;have h2:=(Ek hcf ho).2;refine Qs hE hcf hk' h hl.rel ((ht.mono hl.ext).put hv hs hd h2) (by rw [Jy];exact hs) (hl.agree2 (Ek hcf ho).1 ha) ?_;intro ρ2 G2 w2 a2 h3 h4 h5 h6;exact hQ ρ2 G2 w2 a2 h3 h4 (h5.trans Gg) (hl.trans h6 hup)
  · cases h
end
end Go.Ev
namespace Go.Ev
open Go.RowKit
section
variable {β:Type}
def vG (base:Nat→β) (val:Nat→Nat→β) (Wr:Nat→Nat→Bool) (D:Nat→Bool):Nat→Nat→β
 | 0,x=> base x
 | k+1,x=> if D k && Wr k x then val (k+1) x else vG base val Wr D k x
variable {base:Nat→β} {val:Nat→Nat→β} {Wr:Nat→Nat→Bool} {D D':Nat→Bool}
theorem Fi {x i:Nat}:∀ {m:Nat},i≤m→(∀k,i≤k→k < m→¬(D k=true∧Wr k x=true))→vG base val Wr D m x=vG base val Wr D i x
 | 0,h,_=> by
  have:i=0:=by omega
  subst this;rfl
 | m+1,h,hk=> by
  by_cases e:i=m+1
  · subst e;rfl
  · have hn:=hk m (by omega) (by omega);have:(D m && Wr m x)=false:=by
     cases h1:D m <;> cases h2:Wr m x <;> simp_all
    simp only [vG,this,Bool.false_eq_true,if_false];exact Fi (by omega) fun k h1 h2=> hk k h1 (by omega)
theorem Jt {x:Nat} (h0:val 0 x=base x):∀ {i:Nat},(∀k,k < i→Wr k x=true→D k=true)→(∀k,k < i→Wr k x=false→val (k+1) x=val k x)→vG base val Wr D i x=val i x
 | 0,_,_=> h0.symm
 | i+1,h1,h2=> by
  have ih:=Jt h0 (i:=i) (fun k hk=> h1 k (by omega)) (fun k hk=> h2 k (by omega));cases hw:Wr i x with
  | true=> simp [vG,hw,h1 i (by omega) hw]
  | false=> simp [vG,hw,ih,h2 i (by omega) hw]
theorem Mp {x i:Nat} (hD:∀k,k≠i→D' k=D k) (hw:Wr i x=false):∀ {m:Nat},vG base val Wr D' m x=vG base val Wr D m x
 | 0=> rfl
 | m+1=> by
  by_cases e:m=i
  · subst e;simp [vG,hw,Mp hD hw]
  · simp [vG,hD m e,Mp hD hw]
end
theorem Ke:∀ (l:List Oper) (acc:List Nat) (j:Nat) (o:Oper),l[j]? =some o→
 (∀ (i:Nat) (x:Nat),acc[i]? =some x→(Fp l acc)[i]? =some x)∧∃pre:List Nat,pre.length=acc.length+j∧(∀ (i:Nat) (x:Nat),pre[i]? =some x→(Fp l acc)[i]? =some x)∧(Fp l acc)[acc.length+j]? =some (Mw pre o)
 | [],acc,j,o,h=> by simp at h
 | p::l,acc,0,o,h=> by
  simp at h
  subst h;have key:∀ (l:List Oper) (acc:List Nat) (i x:Nat),acc[i]? =some x→(Fp l acc)[i]? =some x:=by
   intro l
   induction l with
   | nil=> intro acc i x hx;simpa [Fp] using hx
   | cons q l ih=>
    intro acc i x hx;rw [Fp];exact ih _ i x (by rw [List.getElem?_append_left (List.getElem?_eq_some_iff.1 hx).1];exact hx)
  refine ⟨key _ acc,acc,rfl,key _ acc,?_⟩;rw [Fp];exact key _ _ _ _ (by simp)
 | p::l,acc,j+1,o,h=> by
  simp at h
  obtain ⟨h1,pre,h2,h3,h4⟩:=Ke l (acc++ [Mw acc p]) j o h;rw [Fp];refine ⟨fun i x hx=> h1 i x (by rw [List.getElem?_append_left (List.getElem?_eq_some_iff.1 hx).1];exact hx),pre,by simp at h2;omega,h3,?_⟩;rw [List.length_append] at h4;simp only [List.length_singleton] at h4;rw [show acc.length+(j+1)=acc.length+1+j by omega];exact h4
theorem Oi (acc:List Nat) (i:Nat):∀ (es:List Edge) (s:Nat),(es.foldl (fun s e=> bif Region.binds .any e then s ||| (2 ^ e.on ||| acc.getD e.on 0) else s) s).testBit i=true→
 s.testBit i=true∨∃e∈es,Region.binds .any e=true∧(i=e.on∨(acc.getD e.on 0).testBit i=true)
 | [],s,h=> .inl h
 | e::es,s,h=> by
  rw [List.foldl_cons] at h;rcases Oi acc i es _ h with h1 | ⟨e',h1,h2⟩
  · cases hb:Region.binds .any e with
    | false=> simp [hb] at h1;exact .inl h1
    | true=>
     simp only [hb,cond_true,Nat.testBit_or,Bool.or_eq_true,Nat.testBit_two_pow,decide_eq_true_eq] at h1;rcases h1 with h1 | h1 | h1
     · exact .inl h1
     · exact .inr ⟨e,by simp,hb,.inl h1.symm⟩
     · exact .inr ⟨e,by simp,hb,.inr h1⟩
  · exact .inr ⟨e',by simp [h1],h2⟩
def Dr (ops:List Oper) (i j:Nat):Bool:=((Fp ops []).getD j 0).testBit i
theorem Li {ops:List Oper} {i j:Nat} {o:Oper} (ho:ops[j]? =some o) (hlt:∀e∈o.after.toList,Region.binds .any e=true→e.on < j) (h:Dr ops i j=true):
 ∃e∈o.after.toList,Region.binds .any e=true∧(i=e.on∨Dr ops i e.on=true):=by
 obtain ⟨_,pre,h1,h2,h3⟩:=Ke ops [] j o ho;simp only [List.length_nil,Nat.zero_add] at h1 h3;unfold Dr at h;rw [List.getD_eq_getElem?_getD,h3] at h;simp only [Option.getD_some] at h;unfold Mw at h;rcases Oi pre i _ 0 h with h4 | ⟨e,h4,h5,h6⟩
 · simp at h4
 · refine ⟨e,h4,h5,h6.imp id fun h7=> ?_⟩;have hl:=hlt e h4 h5;obtain ⟨x,hx⟩:∃x,pre[e.on]? =some x:=⟨_,List.getElem?_eq_getElem (by omega)⟩;have:=h2 _ _ hx;unfold Dr;rw [List.getD_eq_getElem?_getD,this];rw [List.getD_eq_getElem?_getD,hx] at h7;exact h7
theorem Mc {ops:List Oper} {i j:Nat} (hij:i < j) (hj:j < ops.length) (h:Dr ops i j=false):(i,j)∈Ck ops:=by
 unfold Ck;simp only [List.mem_flatMap,List.mem_range,List.mem_map,List.mem_filter];refine ⟨j,hj,i,⟨hij,?_⟩,rfl⟩;unfold Dr at h;rw [h];rfl
theorem Lf {bs:List Lg}:∀ {l:List (Nat × Nat)},Gu bs l=true→∀q∈l,Lg.conf (bs.getD q.1 .leaf) (bs.getD q.2 .leaf)=false
 | [],_,q,hq=> by cases hq
 | (i,j)::l,h,q,hq=> by
  unfold Gu at h;simp only [Bool.and_eq_true,Bool.not_eq_true'] at h;rcases List.mem_cons.1 hq with rfl | hq
  · exact h.1
  · exact Lf h.2 q hq
theorem Df:∀ (bs:List Lg) (lg:Lg) (id:Nat),((Gb lg bs).get id=some true ↔ (lg.get id=some true∨∃b∈bs,b.get id=some true))∧((Gb lg bs).get id=none ↔ (lg.get id=none∧∀b∈bs,b.get id=none))
 | [],lg,id=> by simp [Gb]
 | b::bs,lg,id=> by
  unfold Gb;obtain ⟨h1,h2⟩:=Df bs (Lg.app b lg) id;obtain ⟨h3,h4⟩:=Lg.get_app b lg id;rw [h1,h2,h3,h4];simp only [List.mem_cons,exists_eq_or_imp,forall_eq_or_imp]
  constructor
  · constructor
    · rintro ((h | h) | h)
      · exact .inr (.inl h)
      · exact .inl h
      · exact .inr (.inr h)
    · rintro (h | h | h)
      · exact .inl (.inr h)
      · exact .inl (.inl h)
      · exact .inr h
  · constructor
    · rintro ⟨⟨k1,k2⟩,k3⟩;exact ⟨k2,k1,k3⟩
    · rintro ⟨k1,k2,k3⟩;exact ⟨⟨k2,k1⟩,k3⟩
section
variable {P:Program} {E:Kn} {cf:Co} {nt:Nat} {ops:Array Oper}
theorem Im:∀ (l:List Oper) (tm:T AV) (h:T AObj) (n:Nat) (bs:List Lg) {tm':T AV} {s':S} {bs':List Lg},Ox P E cf nt ops l tm (.mk h n .leaf) bs=some (tm',s',bs')→
 ∃ (tms:Nat→T AV) (hs:Nat→T AObj) (ns:Nat→Nat) (lgs:Nat→Lg),tms 0=tm∧hs 0=h∧ns 0=n∧
  (∀k o,l[k]? =some o→opA P E cf nt ops o (tms k) (.mk (hs k) (ns k) .leaf)=some (tms (k+1),.mk (hs (k+1)) (ns (k+1)) (lgs k)))∧
  tms l.length=tm'∧s'=.mk (hs l.length) (ns l.length) .leaf∧bs'=bs++(List.range l.length).map lgs
 | [],tm,h,n,bs,tm',s',bs',e=> by
  simp [Ox] at e
  obtain ⟨rfl,rfl,rfl⟩:=e;exact ⟨fun _=> tm,fun _=> h,fun _=> n,fun _=> .leaf,rfl,rfl,rfl,fun k o hk=> by simp at hk,rfl,rfl,by simp⟩
 | o::l,tm,h,n,bs,tm',s',bs',e=> by
  unfold Ox at e;dsimp only at e
  split at e
  · rename_i tm1 h1 n1 lg1 ho;obtain ⟨tms,hs,ns,lgs,e1,e2,e3,e4,e5,e6,e7⟩:=Im l tm1 h1 n1 (bs++ [lg1]) e;refine ⟨fun k=> match k with | 0=> tm | k+1=> tms k,fun k=> match k with | 0=> h | k+1=> hs k,fun k=> match k with | 0=> n | k+1=> ns k,fun k=> match k with | 0=> lg1 | k+1=> lgs k,rfl,rfl,rfl,?_,e5,e6,?_⟩
    · intro k p hp;cases k with
      | zero=>
       simp at hp
       subst hp;show opA P E cf nt ops o tm (.mk h n .leaf)=some (tms 0,.mk (hs 0) (ns 0) lg1);rw [ho,e1,e2,e3]
      | succ k=> exact e4 k p (by simpa using hp)
    · rw [e7,List.length_cons,List.range_succ_eq_map]
      simp [List.append_assoc,Function.comp_def]
  · cases e
end
end Go.Ev
namespace Go.Ev
open Go.RowKit
section
variable {P:Program} {E:Kn} {cf:Co} {nt:Nat} {ops:Array Oper}
def Bl (listed:Array Bool) (k:Nat):Bool:=listed.getD k false
def Dp (ops:Array Oper) (k t:Nat):Bool:=match ops[k]? with | some o=> o.dst==some t | none=> false
def Fh (lgs:Nat→Lg) (k id:Nat):Bool:=(lgs k).get id==some true
theorem Ll {listed:Array Bool} {m i:Nat} (hs:listed.size=m) (hi:i < m) (hn:listed.getD i true=false):
 ((List.range m).filter fun k=> !Bl (listed.setIfInBounds i true) k).length+1=((List.range m).filter fun k=> !Bl listed k).length:=by
 have key:∀n,n≤m→((List.range n).filter fun k=> !Bl (listed.setIfInBounds i true) k).length+(if i < n then 1 else 0)=((List.range n).filter fun k=> !Bl listed k).length:=by
  intro n
  induction n with
  | zero=> intro _;simp
  | succ n ih=>
   intro hn';have ih:=ih (by omega);rw [List.range_succ,List.filter_append,List.filter_append,List.length_append,List.length_append];have hd:Bl (listed.setIfInBounds i true) n=if n=i then true else Bl listed n:=by
    unfold Bl
    by_cases e:n=i
    · subst e;simp [hs,hi]
    · simp only [e,if_false];exact getD_set_ne false (fun e2=> e e2.symm)
   by_cases e:n=i
   · subst e;have h0:Bl listed n=false:=by
      unfold Bl;have hlt:n < listed.size:=by omega
      simp only [Array.getD_eq_getD_getElem?,Array.getElem?_eq_getElem hlt,Option.getD_some] at hn⊢;exact hn
     simp only [List.filter_cons,List.filter_nil,hd,if_true,h0]
     simp
     simp at ih
     omega
   · simp only [List.filter_cons,List.filter_nil,hd,e,if_false]
     by_cases e2:i < n
     · rw [if_pos e2] at ih;rw [if_pos (show i < n+1 by omega)];omega
     · rw [if_neg e2] at ih;rw [if_neg (show¬i < n+1 by omega)];omega
 have:=key m (Nat.le_refl _);rw [if_pos hi] at this;exact this
structure Static (ops:Array Oper) (lgs:Nat→Lg):Prop where
 back:∀ (j:Nat) (o:Oper),ops.toList[j]? =some o→∀e∈o.after.toList,Region.binds .any e=true→e.on < j
 apart:∀i j,i < j→j < ops.size→Dr ops.toList i j=false→(ops.toList.getD i default).apart ops (ops.toList.getD j default)=true
 conf:∀i j,i < j→j < ops.size→Dr ops.toList i j=false→Lg.conf (lgs i) (lgs j)=false
theorem Lv {lgs:Nat→Lg} (h:Ky ops=true) (hb:Gu ((List.range ops.size).map lgs) (Ck ops.toList)=true):Static ops lgs:=by
 unfold Ky at h;simp only [Bool.and_eq_true,List.all_eq_true] at h;obtain ⟨h1,h2⟩:=h;refine ⟨fun j o ho e he hbd=> ?_,fun i j hij hj ha=> h2 (i,j) (Mc hij (by simpa using hj) ha),fun i j hij hj ha=> ?_⟩
 · have hm:(o,j)∈ops.toList.zipIdx:=List.mem_iff_getElem?.2 ⟨j,by simp [List.getElem?_zipIdx,ho]⟩;have:=h1 (o,j) hm e he;simp only [hbd,Bool.not_true,Bool.false_or] at this;exact Db this
 · have:=Lf hb (i,j) (Mc hij (by simpa using hj) ha);have g:∀k,k < ops.size→(((List.range ops.size).map lgs).getD k .leaf)=lgs k:=fun k hk=> by
    rw [List.getD_eq_getElem?_getD];simp [hk]
   rw [g i (by omega),g j hj] at this;exact this
section
variable {lgs:Nat→Lg}
def Qn (ops:Array Oper) (listed:Array Bool):Prop:=∀ (j:Nat) (o:Oper),ops.toList[j]? =some o→Bl listed j=true→∀e∈o.after.toList,Region.binds .any e=true→Bl listed e.on=true
theorem Hs (hS:Static ops lgs) {listed:Array Bool} (hc:Qn ops listed):∀ (j:Nat),j < ops.size→Bl listed j=true→∀i,Dr ops.toList i j=true→Bl listed i=true:=by
 intro j
 induction j using Nat.strongRecOn with
 | _ j ih=>
  intro hj hd i ha;have ho:ops.toList[j]? =some ops[j]:=by simp [hj]
  obtain ⟨e,he,hb,h⟩:=Li ho (hS.back j _ ho) ha;have hlt:=hS.back j _ ho e he hb;have hde:=hc j _ ho hd e he hb;rcases h with rfl | h
  · exact hde
  · exact ih e.on hlt (by omega) hde i h
theorem Ix (hS:Static ops lgs) {listed:Array Bool} (hc:Qn ops listed) {j:Nat} {o:Oper} (ho:ops.toList[j]? =some o) (hr:∀e∈o.after.toList,Region.binds .any e=true→Bl listed e.on=true) {i:Nat} (ha:Dr ops.toList i j=true):Bl listed i=true:=by
 obtain ⟨e,he,hb,h⟩:=Li ho (hS.back j _ ho) ha;have hlt:=hS.back j _ ho e he hb;have hde:=hr e he hb;have hjs:j < ops.size:=by have:=(List.getElem?_eq_some_iff.1 ho).1;simpa using this
 rcases h with rfl | h
 · exact hde
 · exact Hs hS hc e.on (by omega) hde i h
end
theorem Od {o:Oper} {t:Tmp} (h:Operand.tmp t∈o.op.operands):t∈o.looksAt ops:=by
 unfold Oper.looksAt;exact List.mem_append_left _ (List.mem_filterMap.2 ⟨.tmp t,by simpa using h,rfl⟩)
theorem Oe {o:Oper} {j:Nat} {want:Bool} {t:Tmp} (h:o.guard=some (j,want)) (hd:(ops[j]?).bind (·.dst)=some t):t∈o.looksAt ops:=by
 unfold Oper.looksAt;refine List.mem_append_right _ ?_
 simp [h,hd]
set_option maxHeartbeats 1000000 in
theorem Sg (hE:KnOk P E) (hcf:Fe P E cf) {tms:Nat→T AV} {hs:Nat→T AObj} {ns:Nat→Nat} {lgs:Nat→Lg}
 (hseq:∀ (k:Nat) (o:Oper),ops.toList[k]? =some o→opA P E cf nt ops o (tms k) (.mk (hs k) (ns k) .leaf)=some (tms (k+1),.mk (hs (k+1)) (ns (k+1)) (lgs k)))
 (hS:Static ops lgs) {B0:Nat} {w0:World} {G0:Heap} {ρ0:Env} (hbase:∀id k,k < ops.size→(lgs k).get id≠none→(hs 0).get id=G0 id) {a0:Act} {Q:Exit→Act→World→Prop}
 (hQ:∀ρ G w a,Rel E B0 w0 ρ G w→ρ0.le ρ→(∀id,G id=vG G0 (fun k=> (hs k).get) (Fh lgs) (fun _=> true) ops.size id)→TmRel ρ (tms ops.size) a.tmps→a.tmps.size=nt→a.defers=a0.defers→Q .normal a w):
 ∀ (fuel:Nat) (listed:Array Bool) (ρ:Env) (G:Heap) (w:World) (a:Act),listed.size=ops.size→((List.range ops.size).filter fun k=> !Bl listed k).length≤fuel→Qn ops listed→Rel E B0 w0 ρ G w→ρ0.le ρ→
  (∀id,G id=vG G0 (fun k=> (hs k).get) (Fh lgs) (Bl listed) ops.size id)→
  (∀t v,vG (tms 0).get (fun k=> (tms k).get) (Dp ops) (Bl listed) ops.size t=some v→∃x,a.tmps[t]? =some x∧Cq ρ v x)→a.tmps.size=nt→a.defers=a0.defers→
  wpAny P .any ops Q fuel listed a w:=by
 -- what one operation of the text's order leaves alone
 have hkeepH:∀k,k < ops.size→∀id,Fh lgs k id=false→(hs (k+1)).get id=(hs k).get id:=by
  intro k hk id hw;have ho:ops.toList[k]? =some ops[k]:=by simp [hk]
  have hu:=(Ek hcf (hseq k _ ho)).1;refine hu.same id ?_;intro e;unfold Fh at hw;simp only [S.lg] at e;rw [e] at hw;cases hw
 have hkeepT:∀k,k < ops.size→∀t,Dp ops k t=false→(tms (k+1)).get t=(tms k).get t:=by
  intro k hk t hw;have ho:ops.toList[k]? =some ops[k]:=by simp [hk]
  refine (Ek hcf (hseq k _ ho)).2 t ?_;intro e;unfold Dp at hw
  simp [hk,e] at hw
 -- behind all of them
 have hend:∀ (listed:Array Bool) (ρ:Env) (G:Heap) (w:World) (a:Act),(∀k,k < ops.size→Bl listed k=true)→Rel E B0 w0 ρ G w→ρ0.le ρ→(∀id,G id=vG G0 (fun k=> (hs k).get) (Fh lgs) (Bl listed) ops.size id)→
  (∀t v,vG (tms 0).get (fun k=> (tms k).get) (Dp ops) (Bl listed) ops.size t=some v→∃x,a.tmps[t]? =some x∧Cq ρ v x)→a.tmps.size=nt→a.defers=a0.defers→Q .normal a w:=by
  intro listed ρ G w a hall hR hle hG hT hsz hdf;have same:∀ {β:Type} (base:Nat→β) (val:Nat→Nat→β) (Wr:Nat→Nat→Bool) (n x:Nat),n≤ops.size→vG base val Wr (Bl listed) n x=vG base val Wr (fun _=> true) n x:=by
   intro β base val Wr n x
   induction n with
   | zero=> intro _;rfl
   | succ n ih=> intro hn;simp [vG,hall n (by omega),ih (by omega)]
  refine hQ ρ G w a hR hle (fun id=> by rw [hG,same _ _ _ _ _ (Nat.le_refl _)]) (fun t v hv=> hT t v ?_) hsz hdf;rw [same _ _ _ _ _ (Nat.le_refl _),Jt (base:=(tms 0).get) (val:=fun k=> (tms k).get) (Wr:=Dp ops) (D:=fun _=> true) (x:=t) rfl (fun _ _ _=> rfl) (fun k hk=> hkeepT k hk t)];exact hv
 -- an operation of which no edge says that it waits
 have hready:∀ (listed:Array Bool),listed.size=ops.size→Region.ready .any ops listed= []→∀k,k < ops.size→Bl listed k=true:=by
  intro listed hsz hr k
  induction k using Nat.strongRecOn with
  | _ k ih=>
   intro hk;cases hd:Bl listed k with
   | true=> rfl
   | false=>
    exfalso
    have hm:k∈Region.ready .any ops listed:=by
     rw [mem_ready];refine ⟨?_,ops[k],by simp [hk],fun e he hb=> ?_⟩
     · unfold Bl at hd;have hlt:k < listed.size:=by omega
       simp only [Array.getD_eq_getD_getElem?,Array.getElem?_eq_getElem hlt,Option.getD_some] at hd⊢;exact hd
     · have hlt:=hS.back k ops[k] (by simp [hk]) e (by simpa using he) hb;exact ih e.on hlt (by omega)
    rw [hr] at hm;cases hm
 intro fuel
 induction fuel with
 | zero=>
  intro listed ρ G w a hsz hun hc hR hle hG hT hts hdf;have hall:∀k,k < ops.size→Bl listed k=true:=by
   intro k hk;cases hd:Bl listed k with
   | true=> rfl
   | false=>
    have hm:k∈ (List.range ops.size).filter fun k=> !Bl listed k:=by simp [hk,hd]
    have:((List.range ops.size).filter fun k=> !Bl listed k)= []:=List.eq_nil_of_length_eq_zero (by omega);rw [this] at hm;cases hm
  refine ⟨?_,hend listed ρ G w a hall hR hle hG hT hts hdf⟩;cases hr:Region.ready .any ops listed with
  | nil=> rfl
  | cons i l=>
   have hi:i∈Region.ready .any ops listed:=by rw [hr];simp
   rw [mem_ready] at hi;obtain ⟨h1,o,h2,_⟩:=hi;have hlt:i < ops.size:=(Array.getElem?_eq_some_iff.1 h2).1;have:=hall i hlt;unfold Bl at this;have hlt2:i < listed.size:=by omega
   simp only [Array.getD_eq_getD_getElem?,Array.getElem?_eq_getElem hlt2,Option.getD_some] at this h1;rw [this] at h1;cases h1
 | succ fuel ih=>
  intro listed ρ G w a hsz hun hc hR hle hG hT hts hdf;refine ⟨fun hr=> hend listed ρ G w a (hready listed hsz hr) hR hle hG hT hts hdf,fun i hi=> ?_⟩;rw [mem_ready] at hi;obtain ⟨hni,o,ho,hpre⟩:=hi;have hlt:i < ops.size:=(Array.getElem?_eq_some_iff.1 ho).1;have hol:ops.toList[i]? =some o:=by simpa using ho
  have hDi:Bl listed i=false:=by
   unfold Bl;have hlt2:i < listed.size:=by omega
   simp only [Array.getD_eq_getD_getElem?,Array.getElem?_eq_getElem hlt2,Option.getD_some] at hni⊢;exact hni
  have hpre':∀e∈o.after.toList,Region.binds .any e=true→Bl listed e.on=true:=fun e he hb=> hpre e (by simpa using he) hb
  have hoi:=hseq i o hol;have hgetD:∀k,k < ops.size→∀p,ops[k]? =some p→ops.toList.getD k default=p:=fun k hk p hp=> by
   rw [List.getD_eq_getElem?_getD];simp [hp]
  -- operations behind it that have been done do not come near
  have hlate:∀k,i < k→k < ops.size→Bl listed k=true→Dr ops.toList i k=false:=by
   intro k hik hk hd;cases ha:Dr ops.toList i k with
   | false=> rfl
   | true=>
    have:=Hs hS hc k hk hd i ha;rw [hDi] at this;cases this
  have hlateH:∀k id,i < k→k < ops.size→(lgs i).get id≠none→Fh lgs k id=true→Bl listed k=false:=by
   intro k id hik hk hid hw;cases hd:Bl listed k with
   | false=> rfl
   | true=>
    exfalso
    obtain ⟨x,hx⟩:=Option.ne_none_iff_exists'.1 hid;unfold Fh at hw;have hw':(lgs k).get id=some true:=by simpa using hw
    obtain ⟨_,h2⟩:=Lg.conf_spec _ _ (hS.conf i k hik hk (hlate k hik hk hd)) id x true hx hw';cases h2
  have hearlyH:∀k id,k < i→(lgs i).get id≠none→Fh lgs k id=true→Bl listed k=true:=by
   intro k id hki hid hw;cases ha:Dr ops.toList k i with
   | true=> exact Ix hS hc hol hpre' ha
   | false=>
    exfalso
    obtain ⟨x,hx⟩:=Option.ne_none_iff_exists'.1 hid;unfold Fh at hw;have hw':(lgs k).get id=some true:=by simpa using hw
    obtain ⟨h2,_⟩:=Lg.conf_spec _ _ (hS.conf k i hki hlt ha) id true x hw' hx;cases h2
  -- the heap is the one that it saw
  have hGi:∀id,(lgs i).get id≠none→(hs i).get id=G id:=by
   intro id hid;rw [hG,Fi (i:=i) (by omega) fun k h1 h2=> by
    rintro ⟨h3,h4⟩
    by_cases e:k=i
    · subst e;rw [hDi] at h3;cases h3
    · rw [hlateH k id (by omega) h2 hid h4] at h3;cases h3]
   exact (Jt (base:=G0) (val:=fun k=> (hs k).get) (Wr:=Fh lgs) (x:=id) (hbase id i hlt hid) (fun k hk hw=> hearlyH k id hk hid hw) (fun k hk=> hkeepH k (by omega) id)).symm
  -- and so are the temporaries
  have hlateT:∀k t,i < k→k < ops.size→(t∈o.looksAt ops∨o.dst=some t)→Dp ops k t=true→Bl listed k=false:=by
   intro k t hik hk hlk hw;cases hd:Bl listed k with
   | false=> rfl
   | true=>
    exfalso
    have hap:=hS.apart i k hik hk (hlate k hik hk hd);have hk':ops[k]? =some ops[k]:=by simp [hk]
    rw [hgetD i hlt o ho,hgetD k hk _ hk'] at hap;unfold Dp at hw
    simp [hk] at hw
    obtain ⟨h1,h2,h3⟩:=Oper.apart_spec hap;rcases hlk with hlk | hlk
    · exact h3 t hw hlk
    · exact h2 t hlk hw
  have hearlyT:∀k t,k < i→t∈o.looksAt ops→Dp ops k t=true→Bl listed k=true:=by
   intro k t hki hlk hw;cases ha:Dr ops.toList k i with
   | true=> exact Ix hS hc hol hpre' ha
   | false=>
    exfalso
    have hk:k < ops.size:=by omega
    have hap:=hS.apart k i hki hlt ha;have hk':ops[k]? =some ops[k]:=by simp [hk]
    rw [hgetD k hk _ hk',hgetD i hlt o ho] at hap;unfold Dp at hw
    simp [hk] at hw
    obtain ⟨h1,h2,h3⟩:=Oper.apart_spec hap;exact h1 t hw hlk
  have hTi:∀t∈o.looksAt ops,∀v,(tms i).get t=some v→∃x,a.tmps[t]? =some x∧Cq ρ v x:=by
   intro t htl v hv;refine hT t v ?_;rw [Fi (i:=i) (by omega) fun k h1 h2=> by
    rintro ⟨h3,h4⟩
    by_cases e:k=i
    · subst e;rw [hDi] at h3;cases h3
    · rw [hlateT k t (by omega) h2 (.inl htl) h4] at h3;cases h3]
   rw [Jt (base:=(tms 0).get) (val:=fun k=> (tms k).get) (Wr:=Dp ops) (x:=t) rfl (fun k hk hw=> hearlyT k t hk htl hw) (fun k hk=> hkeepT k (by omega) t)];exact hv
  have hop:OpRel E ρ (tms i) a o:=by
   refine ⟨fun x hx u hu=> ?_,fun t ht v hv=> ?_⟩
   · cases x with
     | tmp t=>
      unfold evU at hu;dsimp only at hu
      split at hu
      · rename_i y hy;cases hu;obtain ⟨z,h1,h2⟩:=hTi t (Od hx) _ hy;have:a.eval (.tmp t)=z:=by simp [Act.eval,Array.getD_eq_getD_getElem?,h1]
        rw [this];exact h2
      · cases hu
     | const v=> exact Ep (tm:=.leaf) hR (fun t v hv=> by rw [T.get_leaf] at hv;cases hv) hu
     | func f=> exact Ep (tm:=.leaf) hR (fun t v hv=> by rw [T.get_leaf] at hv;cases hv) hu
     | global g=> exact Ep (tm:=.leaf) hR (fun t v hv=> by rw [T.get_leaf] at hv;cases hv) hu
   · obtain ⟨z,h1,h2⟩:=hTi t (Od ht) _ hv;have:a.eval (.tmp t)=z:=by simp [Act.eval,Array.getD_eq_getD_getElem?,h1]
     rw [this];exact h2
  have hgd:Hu ρ (tms i) a ops o:=fun j want t hg hd v hv=> hTi t (Oe hg hd) v hv
  unfold wpOp;simp only [ho];refine Pl hE hcf hoi hR hop hgd (fun id hid=> hGi id hid) ?_;intro v x ρ' G' w' hv hd hl;have hDn:∀k,Bl (listed.setIfInBounds i true) k=if k=i then true else Bl listed k:=by
   intro k;unfold Bl
   by_cases e:k=i
   · subst e;simp [hsz,hlt]
   · simp only [e,if_false];exact getD_set_ne false (fun e2=> e e2.symm)
  have hDne:∀k,k≠i→Bl (listed.setIfInBounds i true) k=Bl listed k:=fun k hk=> by rw [hDn,if_neg hk]
  refine ih (listed.setIfInBounds i true) ρ' G' w' (a.put o.dst v) (by simp [hsz]) ?_ ?_ hl.rel (Env.le_trans hle hl.ext) ?_ ?_ (by rw [Jy];exact hts) (by rw [Gg];exact hdf)
  · have:=Ll hsz hlt hni
    omega
  · intro j p hp hdj e he hb;rw [hDn] at hdj⊢
    by_cases ej:j=i
    · subst ej;rw [hol] at hp;cases hp
      split
      · rfl
      · exact hpre' e he hb
    · rw [if_neg ej] at hdj
      split
      · rfl
      · exact hc j p hp hdj e he hb
  · intro id;cases hw:Fh lgs i id with
    | true=>
     have hw':(lgs i).get id=some true:=by unfold Fh at hw;simpa using hw
     have hne:(lgs i).get id≠none:=by rw [hw'];simp
     have e1:(hs (i+1)).get id=G' id:=hl.agree id hne;rw [←e1,Fi (i:=i+1) (by omega) fun k h1 h2=> by
      rintro ⟨h3,h4⟩;rw [hDne k (by omega),hlateH k id (by omega) h2 hne h4] at h3;cases h3]
     simp [vG,hDn,hw]
    | false=>
     have hns:(lgs i).get id≠some true:=by unfold Fh at hw;simpa using hw
     have e1:G' id=G id:=hl.same id hns;rw [e1,hG];exact (Mp hDne hw).symm
  · intro t y hy
    by_cases e:o.dst=some t
    · obtain ⟨h3,h4⟩:=hd t e;have hdt:Dp ops i t=true:=by unfold Dp;simp [ho,e]
      rw [Fi (i:=i+1) (by omega) fun k h1 h2=> by
       rintro ⟨h5,h6⟩;rw [hDne k (by omega),hlateT k t (by omega) h2 (.inr e) h6] at h5;cases h5] at hy
      simp only [vG,hDn,hdt,if_true,Bool.and_self] at hy;rw [h4] at hy;cases hy;refine ⟨v,?_,hv⟩;rw [e]
      simp [Act.put,hts,h3]
    · have hdt:Dp ops i t=false:=by unfold Dp;simp [ho,e]
      rw [Mp hDne hdt] at hy;obtain ⟨z,h5,h6⟩:=hT t y hy;refine ⟨z,?_,Lz hl.ext h6⟩;cases hdst:o.dst with
      | none=> exact h5
      | some d=>
       have:d≠t:=fun e2=> e (by rw [hdst,e2])
       simp [Act.put,Array.getElem?_setIfInBounds_ne this,h5]
theorem Pi (hcf:Fe P E cf) {draw:Bool} {tm tm':T AV} {s s':S} (h:Hc P E cf nt ops draw tm s=some (tm',s')):Up s s':=by
 unfold Hc at h;cases draw with
 | false=> exact Mu hcf h
 | true=>
  obtain ⟨hp,n,lg⟩:=s;dsimp only at h
  split at h
  · cases h
  · rename_i tm1 h1 n1 lg1 bs hd;cases hb:(Ky ops && Gu bs (Ck ops.toList)) with
    | false=> rw [hb] at h;cases h
    | true=>
     rw [hb] at h;cases h;obtain ⟨tms,hs,ns,lgs,e1,e2,e3,e4,e5,e6,e7⟩:=Im _ _ _ _ _ hd;simp only [List.nil_append] at e7;subst e7;cases e6;refine ⟨fun id b hb'=> ?_,fun id hid=> ?_⟩
     · simp only [S.lg] at hb'⊢;obtain ⟨g1,g2⟩:=Df ((List.range ops.toList.length).map lgs) lg id;cases hx:(Gb lg ((List.range ops.toList.length).map lgs)).get id with
       | none=> rw [(g2.1 hx).1] at hb';cases hb'
       | some c=>
        refine ⟨c,rfl,fun e=> ?_⟩;subst e;have:=g1.2 (.inl hb');rw [hx] at this;cases this
        rfl
     · simp only [S.lg] at hid;obtain ⟨g1,g2⟩:=Df ((List.range ops.toList.length).map lgs) lg id;have hno:∀k,k < ops.toList.length→(lgs k).get id≠some true:=fun k hk e=> hid (g1.2 (.inr ⟨lgs k,List.mem_map.2 ⟨k,by simpa using hk,rfl⟩,e⟩))
       have:∀k,k≤ops.toList.length→(hs k).get id=hp.get id:=by
        intro k
        induction k with
        | zero=> intro _;rw [e2]
        | succ k ih=>
         intro hk;rw [←ih (by omega)];have ho:ops.toList[k]? =some ops.toList[k]:=List.getElem?_eq_getElem (by omega);exact (Ek hcf (e4 k _ ho)).1.same id (hno k (by omega))
       exact this _ (Nat.le_refl _)
theorem Pj (hm:P.follows .mixedOrders=true) (hE:KnOk P E) (hcf:Fe P E cf) {draw:Bool} {id:Nat} {tm tm':T AV} {s s':S} (h:Hc P E cf nt ops draw tm s=some (tm',s')) {ρ:Env}
 {B0:Nat} {w0:World} {G:Heap} {w:World} {a:Act} {Q:Exit→Act→World→Prop} (hR:Rel E B0 w0 ρ G w) (ht:TmRel ρ tm a.tmps) (hts:a.tmps.size=nt) (ha:Agree s' s G)
 (hQ:∀ρ' G' w' a',TmRel ρ' tm' a'.tmps→a'.tmps.size=nt→a'.defers=a.defers→Lift E B0 w0 s s' ρ G w ρ' G' w'→Q .normal a' w'):(Code.region id ops draw).wp P Q a w:=by
 unfold Hc at h;cases draw with
 | false=>
  refine wp_region ?_;have:=Qs (Q:=Q) hE hcf (l:=ops.toList) (k:=0) rfl h hR ht hts ha hQ;rw [List.range_eq_range']
  simpa using this
 | true=>
  obtain ⟨hp,n,lg⟩:=s;dsimp only at h
  split at h
  · cases h
  · rename_i tm1 h1 n1 lg1 bs hd;cases hb:(Ky ops && Gu bs (Ck ops.toList)) with
    | false=> rw [hb] at h;cases h
    | true=>
     rw [hb] at h;cases h;simp only [Bool.and_eq_true] at hb;obtain ⟨tms,hs,ns,lgs,e1,e2,e3,e4,e5,e6,e7⟩:=Im _ _ _ _ _ hd;simp only [List.nil_append] at e7;subst e7;cases e6;have hlen:ops.toList.length=ops.size:=by simp
     rw [hlen] at ha hQ e5 hb;have hS:Static ops lgs:=Lv hb.1 hb.2;refine wp_region_any hm ?_;refine Sg hE hcf e4 hS (B0:=B0) (w0:=w0) (G0:=G) (ρ0:=ρ) (a0:=a) ?_ ?_ ops.size (Array.replicate ops.size false) ρ G w.drew a (by simp) ?_ ?_ (hR.world (Below.drew (Below.refl _ _))) (Env.le_refl ρ) ?_ ?_ hts rfl
     · intro i k hk hne;rw [e2];refine ha i ?_;simp only [S.lg];intro e;obtain ⟨_,g2⟩:=Df ((List.range ops.size).map lgs) lg i;exact hne ((g2.1 e).2 (lgs k) (List.mem_map.2 ⟨k,by simpa using hk,rfl⟩))
     · intro ρ' G' w' a' hR' hle hG' ht' hts' hdf';rw [e5] at ht';refine hQ ρ' G' w' a' ht' hts' hdf' ⟨hR',hle,fun i hi=> ?_,fun i hi=> ?_⟩
       · rw [hG'];have hkeep:∀k,k < ops.size→Fh lgs k i=false→(hs (k+1)).get i=(hs k).get i:=by
          intro k hk hw;have ho:ops.toList[k]? =some ops[k]:=by simp [hk]
          refine (Ek hcf (e4 k _ ho)).1.same i ?_;intro e;unfold Fh at hw;simp only [S.lg] at e;rw [e] at hw;cases hw
         have hb0:(hs 0).get i=G i:=by rw [e2];exact ha i hi
         exact (Jt (base:=G) (val:=fun k=> (hs k).get) (Wr:=Fh lgs) (D:=fun _=> true) (x:=i) hb0 (fun _ _ _=> rfl) hkeep).symm
       · rw [hG'];simp only [S.lg] at hi;obtain ⟨g1,_⟩:=Df ((List.range ops.size).map lgs) lg i;rw [Fi (i:=0) (by omega) fun k h1 h2=> by
          rintro ⟨_,h4⟩;unfold Fh at h4;exact hi (g1.2 (.inr ⟨lgs k,List.mem_map.2 ⟨k,by simpa using h2,rfl⟩,by simpa using h4⟩))]
         rfl
     · have:((List.range ops.size).filter fun k=> !Bl (Array.replicate ops.size false) k).length≤ (List.range ops.size).length:=List.length_filter_le _ _
       simpa using this
     · intro j o ho hdj;unfold Bl at hdj
       simp [Array.getElem?_replicate] at hdj
       split at hdj <;> simp at hdj
     · intro i;rw [Fi (i:=0) (by omega) fun k h1 h2=> by
        rintro ⟨h3,_⟩;unfold Bl at h3
        simp [h2] at h3]
       rfl
     · intro t v hv;rw [Fi (i:=0) (by omega) fun k h1 h2=> by
        rintro ⟨h3,_⟩;unfold Bl at h3
        simp [h2] at h3] at hv
       simp only [vG] at hv;rw [e1] at hv;exact ht t v hv
end
end Go.Ev
namespace Go.Ev
open Go.RowKit
section
variable {P:Program} {E:Kn} {cf:Co} {nt:Nat}
theorem Pe {b:Frame} {a:Act} {k:List Item} {cs:List Frame} {w:World} {c:Code}:step P (lone (b.at a (.code (.scope c)::k)) cs w)=.next (lone (b.at a (.code c::.inScope c::k)) cs w):=
 step_lone_go (by simp [stepG,stepG.exec,Frame.at])
theorem Mq {b:Frame} {a:Act} {k:List Item} {cs:List Frame} {w:World} {c:Code}:step P (lone (b.at a (.inScope c::k)) cs w)=.next (lone (b.at a k) cs w):=
 step_lone_go (by simp [stepG,stepG.exec,Frame.at])
def Vm (s:S):ST→Prop
 | .go _ _ s'=> Up s s'
 | .ret _ s'=> Up s s'
 | .bad=> True
def Uo (P:Program) (E:Kn) (nt:Nat) (ds:List Deferred) (B0:Nat) (w0:World) (s:S) (ρ:Env) (G:Heap) (w:World) (b:Frame) (cs:List Frame) (m:Machine):ST→Prop
 | .go todo tm s'=> Agree s' s G→∃ρ' G' w' a',Steps P m (lone (b.at a' todo) cs w')∧TmRel ρ' tm a'.tmps∧a'.tmps.size=nt∧a'.defers=ds∧Lift E B0 w0 s s' ρ G w ρ' G' w'
 | .ret tm s'=> Agree s' s G→∃ρ' G' w' a' todo,Steps P m (lone {b.at a' todo with mode:=.returning} cs w')∧TmRel ρ' tm a'.tmps∧a'.tmps.size=nt∧a'.defers=ds∧Lift E B0 w0 s s' ρ G w ρ' G' w'
 | .bad=> True
theorem Ju (hcf:Fe P E cf) {todo:List Item} {tm:T AV} {s:S}:Vm s (Iv P E cf nt todo tm s):=by
 unfold Iv
 repeat' split
 all_goals first
  | exact Up.refl _
  | exact trivial
  | skip
 rename_i h;exact Pi hcf h
theorem Nt {ds:List Deferred} (hm:P.follows .mixedOrders=true) (hE:KnOk P E) (hcf:Fe P E cf) {todo:List Item} {tm:T AV} {s:S} {B0:Nat} {w0:World} {ρ:Env} {G:Heap} {w:World} {a:Act} {b:Frame} {cs:List Frame}
 (hR:Rel E B0 w0 ρ G w) (ht:TmRel ρ tm a.tmps) (hts:a.tmps.size=nt) (hd:a.defers=ds):Uo P E nt ds B0 w0 s ρ G w b cs (lone (b.at a todo) cs w) (Iv P E cf nt todo tm s):=by
 have one:∀ {todo'},step P (lone (b.at a todo) cs w)=.next (lone (b.at a todo') cs w)→Uo P E nt ds B0 w0 s ρ G w b cs (lone (b.at a todo) cs w) (.go todo' tm s):=
  fun h ha=> ⟨ρ,G,w,a,.one h,ht,hts,hd,Lift.refl hR ha⟩
 unfold Iv
 split
 · exact fun ha=> ⟨ρ,G,w,a, [],.one step_end,ht,hts,hd,Lift.refl hR ha⟩
 · rename_i it k
   split
   · rename_i c
     split
     · exact fun ha=> ⟨ρ,G,w,a,_,.one step_ret,ht,hts,hd,Lift.refl hR ha⟩
     · exact one step_skip
     · exact one step_label
     · exact one step_seq
     · rename_i x p q
       split
       · rename_i hx;have e:a.eval x=.bool true:=Ep hR ht hx;exact one (step_cond (t:=true) e)
       · rename_i hx;have e:a.eval x=.bool false:=Ep hR ht hx;exact one (step_cond (t:=false) e)
       · exact trivial
     · exact one step_block
     · exact one step_loop
     · exact one Pe
     · split
       · rename_i k' hk;exact one (step_exit hk)
       · exact trivial
     · split
       · rename_i k' hk;exact one (step_goto hk)
       · exact trivial
     · rename_i id ops draw
       split
       · rename_i tm' s' hr;intro ha;have hwp:=Pj (id:=id) (Q:=fun e a' w'=> e=.normal∧∃ρ' G',TmRel ρ' tm' a'.tmps∧a'.tmps.size=nt∧a'.defers=a.defers∧Lift E B0 w0 s s' ρ G w ρ' G' w') hm hE hcf hr hR ht hts ha
          (fun ρ' G' w' a' h1 h2 h3 h4=> ⟨rfl,ρ',G',h1,h2,h3,h4⟩)
         obtain ⟨e,a',w',⟨rfl,ρ',G',h1,h2,h3,h4⟩,harr⟩:=hwp b k cs;exact ⟨ρ',G',w',a',harr,h1,h2,h3.trans hd,h4⟩
       · exact trivial
     · exact trivial
   · exact one step_inBlock
   · exact one Mq
   · exact one step_inLoop
   · exact trivial
theorem Eh (hcf:Fe P E cf):∀ (k:Nat) (todo:List Item) (tm:T AV) (s:S),Vm s (Ia P E cf nt k (.go todo tm s))
 | 0,todo,tm,s=> by unfold Ia;exact Ju hcf
 | k+1,todo,tm,s=> by
  unfold Ia;have h1:=Eh hcf k todo tm s
  split
  · rename_i todo' tm' s' he;rw [he] at h1;have h2:=Eh hcf k todo' tm' s';cases hr:Ia P E cf nt k (.go todo' tm' s') with
    | go t2 m2 s2=> rw [hr] at h2;exact Up.trans h1 h2
    | ret m2 s2=> rw [hr] at h2;exact Up.trans h1 h2
    | bad=> exact trivial
  · exact h1
theorem Fu {ds:List Deferred} (hm:P.follows .mixedOrders=true) (hE:KnOk P E) (hcf:Fe P E cf) {B0:Nat} {w0:World} {b:Frame} {cs:List Frame}:∀ (k:Nat) {todo:List Item} {tm:T AV} {s:S} {ρ:Env} {G:Heap} {w:World} {a:Act},
 Rel E B0 w0 ρ G w→TmRel ρ tm a.tmps→a.tmps.size=nt→a.defers=ds→Uo P E nt ds B0 w0 s ρ G w b cs (lone (b.at a todo) cs w) (Ia P E cf nt k (.go todo tm s))
 | 0,todo,tm,s,ρ,G,w,a,hR,ht,hts,hd=> by unfold Ia;exact Nt hm hE hcf hR ht hts hd
 | k+1,todo,tm,s,ρ,G,w,a,hR,ht,hts,hd=> by
  unfold Ia;have h1:=Fu hm hE hcf (b:=b) (cs:=cs) k (s:=s) (todo:=todo) hR ht hts hd;have u1:=Eh (nt:=nt) hcf k todo tm s
  split
  · rename_i todo' tm' s' he;rw [he] at h1 u1;have u2:=Eh (nt:=nt) hcf k todo' tm' s';have u1':Up s s':=u1;have h1':Agree s' s G→∃ρ' G' w' a',Steps P (lone (b.at a todo) cs w) (lone (b.at a' todo') cs w')∧TmRel ρ' tm' a'.tmps∧a'.tmps.size=nt∧a'.defers=ds∧Lift E B0 w0 s s' ρ G w ρ' G' w':=h1;cases hr:Ia P E cf nt k (.go todo' tm' s') with
    | bad=> exact trivial
    | go t2 m2 s2=>
     rw [hr] at u2;have u2':Up s' s2:=u2;intro ha;obtain ⟨ρ1,G1,w1,a1,hs1,ht1,hts1,hd1,hl1⟩:=h1' (ha.first u2');have h2:=Fu hm hE hcf (b:=b) (cs:=cs) k (s:=s') (todo:=todo') hl1.rel ht1 hts1 hd1;rw [hr] at h2;obtain ⟨ρ2,G2,w2,a2,hs2,ht2,hts2,hd2,hl2⟩:=h2 (hl1.agree2 u1' ha);exact ⟨ρ2,G2,w2,a2,hs1.trans hs2,ht2,hts2,hd2,hl1.trans hl2 u2'⟩
    | ret m2 s2=>
     rw [hr] at u2;have u2':Up s' s2:=u2;intro ha;obtain ⟨ρ1,G1,w1,a1,hs1,ht1,hts1,hd1,hl1⟩:=h1' (ha.first u2');have h2:=Fu hm hE hcf (b:=b) (cs:=cs) k (s:=s') (todo:=todo') hl1.rel ht1 hts1 hd1;rw [hr] at h2;obtain ⟨ρ2,G2,w2,a2,td,hs2,ht2,hts2,hd2,hl2⟩:=h2 (hl1.agree2 u1' ha);exact ⟨ρ2,G2,w2,a2,td,hs1.trans hs2,ht2,hts2,hd2,hl1.trans hl2 u2'⟩
  · exact h1
theorem Os {t:TypeId} {x y:AU} {s s':S} (h:Dv P t x s=.v (.u y) s'):∃id,s'=Bx s id∧∀ {B0 w0 ρ G w},Rel E B0 w0 ρ G w→G id=Be s id→∀va,Ao ρ x va→
 ∃ad v,va=.pointer (some ad)∧(loadVar t ad).run P w=.ok v w∧Ao ρ y v:=by
 unfold Dv at h
 split at h
 · rename_i id off
   split at h
   · rename_i ty cells kd hob
     split at h
     · rename_i z hz;cases h;refine ⟨id,rfl,fun hR hG va hv=> ?_⟩;obtain ⟨b,n,hb,rfl⟩:=hv;rw [hob] at hG;obtain ⟨head,rest,fr,tyb,h1,h2,_⟩:=hR.row hG hb;obtain ⟨v,h3,h4⟩:=Jb hz h2 h1;exact ⟨_,v,rfl,h3,h4⟩
     · cases h
   · cases h
 · rename_i id k;unfold Ho at h
   split at h
   · rename_i cells hob
     split at h
     · rename_i z hz;cases h;refine ⟨id,rfl,fun hR hG va hv=> ?_⟩;obtain ⟨b,o,hb,rfl⟩:=hv;rw [hob] at hG;obtain ⟨b',n',h1,_,pre,head,rest,ty,fr,h2,h3,h4⟩:=hR.real id _ hG (by simp);rw [hb] at h1;cases h1;obtain ⟨v,h5,h6⟩:=Em hz h4 h2;rw [h3] at h5;exact ⟨_,v,rfl,h5,h6⟩
     · cases h
   · cases h
 · cases h
theorem Ha:∀ {l:List ResultVar} {tm:T AV} {s s':S} {xs:List AU},Ln P l tm s=some (xs,s')→Up s s'
 | [],tm,s,s',xs,h=> by simp [Ln] at h;obtain ⟨_,rfl⟩:=h;exact Up.refl _
 | r::l,tm,s,s',xs,h=> by
  unfold Ln at h
  split at h
  · split at h
    · split at h
      · rename_i hr;cases h;exact Ha hr
      · cases h
    · cases h
  · split at h
    · split at h
      · rename_i hx
        split at h
        · rename_i hr;cases h;exact (Mg _ _ hx).trans (Ha hr)
        · cases h
      · cases h
    · cases h
def Ib (tmps:Array Value):ResultVar→Sem Value
 | .tmp t=> pure (tmps.getD t undef)
 | .cell a t=> do loadVar t (←asAddr (tmps.getD a undef))
theorem Jl:∀ {l:List ResultVar} {tm:T AV} {s s':S} {xs:List AU} {B0:Nat} {w0:World} {ρ:Env} {G:Heap} {w:World} {tmps:Array Value},Ln P l tm s=some (xs,s')→Rel E B0 w0 ρ G w→TmRel ρ tm tmps→Agree s' s G→
 Lift E B0 w0 s s' ρ G w ρ G w∧∃vs,(l.mapM (Ib tmps)).run P w=.ok vs w∧All2 (Ao ρ) xs vs
 | [],tm,s,s',xs,B0,w0,ρ,G,w,tmps,h,hR,ht,ha=> by
  simp [Ln] at h
  obtain ⟨rfl,rfl⟩:=h;exact ⟨Lift.refl hR ha, [],by simp,trivial⟩
 | r::l,tm,s,s',xs,B0,w0,ρ,G,w,tmps,h,hR,ht,ha=> by
  unfold Ln at h
  split at h
  · rename_i t
    split at h
    · rename_i x hx
      split at h
      · rename_i ys s1 hr;cases h;obtain ⟨h1,vs,h2,h3⟩:=Jl hr hR ht ha;obtain ⟨z,h4,h5⟩:=ht t _ hx;refine ⟨h1,z::vs,?_,h5,h3⟩;have e:tmps.getD t undef=z:=by simp [Array.getD_eq_getD_getElem?,h4]
        simp [List.mapM_cons,Ib,e,h2]
      · cases h
    · cases h
  · rename_i ad t
    split at h
    · rename_i x hx
      split at h
      · rename_i y s1 hl
        split at h
        · rename_i ys s2 hr;cases h;obtain ⟨id,rfl,hlook⟩:=Os (E:=E) hl;have u1:=Fj s id;have u2:=Ha hr;have ha1:=ha.first u2;have hl1:=En hR ha1;obtain ⟨h1,vs,h2,h3⟩:=Jl hr hR ht (hl1.agree2 u1 ha);obtain ⟨z,h4,h5⟩:=ht ad _ hx;obtain ⟨a',v,e1,h6,h7⟩:=hlook hR (ha1 id (Gy s id)).symm z h5;refine ⟨hl1.trans h1 u2,v::vs,?_,h7,h3⟩;have e:tmps.getD ad undef=.pointer (some a'):=by simp [Array.getD_eq_getD_getElem?,h4,e1]
          simp [List.mapM_cons,Ib,e,asAddr,h6,h2]
        · cases h
      · cases h
    · cases h
theorem Is:∀ (l:List AU) (i:Nat) (tm:T AV) (t:Nat),(Ed l i tm).get t=if i≤t∧t < i+l.length then (l[t - i]?).map .u else tm.get t
 | [],i,tm,t=> by unfold Ed;rw [if_neg (by simp)]
 | a::l,i,tm,t=> by
  unfold Ed;rw [Is l (i+1),T.get_set];simp only [List.length_cons]
  by_cases h1:i+1≤t∧t < i+1+l.length
  · rw [if_pos h1,if_pos (by omega),show t - i=(t - (i+1))+1 by omega,List.getElem?_cons_succ]
  · rw [if_neg h1]
    by_cases h2:t=i
    · subst h2;simp
    · rw [if_neg h2,if_neg (by omega)]
theorem Mb {ρ:Env} {xs:List AU} {vs:List Value} (h:All2 (Ao ρ) xs vs):Cq ρ (Sx xs) (if hh:vs.toArray.size=1 then vs.toArray[0] else .tuple vs.toArray):=by
 match xs,vs,h with
 | [], [],_=> exact ⟨[],rfl,trivial⟩
 | [x], [v],h=> exact h.1
 | x::y::l,v::u::m,h=>
  rw [dif_neg (by simp)];exact ⟨_,rfl,h⟩
theorem Gf (fn:Func) (tmps:Array Value):results fn tmps=(fn.results.mapM (Ib tmps) >>=fun vs=> pure (if h:vs.size=1 then vs[0] else .tuple vs)):=by
 unfold results
 congr 1
theorem Tz (ρ:Env) (v:Value):Cq ρ (Vl v) v:=by
 unfold Vl
 split
 · rename_i vs;exact ⟨vs.toList,by simp,Ft _⟩
 · exact Bm ρ v
theorem Gc (hcf:Fe P E cf) {nt:Nat}:∀ (k:Nat) (todo:List Item) (tm:T AV) (s:S),Vm s (Cx P E cf nt k (.go todo tm s))
 | 0,todo,tm,s=> by unfold Cx;exact Up.refl _
 | k+1,todo,tm,s=> by
  unfold Cx;dsimp only;cases Nn todo with
  | true=> exact Up.refl _
  | false=>
   dsimp only;have h1:=Ju (nt:=nt) hcf (todo:=todo) (tm:=tm) (s:=s);cases he:Iv P E cf nt todo tm s with
   | go todo' tm' s'=>
    rw [he] at h1;have h2:=Gc (nt:=nt) hcf k todo' tm' s';cases hr:Cx P E cf nt k (.go todo' tm' s') with
    | go t2 m2 s2=> rw [hr] at h2;exact Up.trans h1 h2
    | ret m2 s2=> rw [hr] at h2;exact Up.trans h1 h2
    | bad=> exact trivial
   | ret tm' s'=>
    rw [he] at h1;cases k <;> exact h1
   | bad=> cases k <;> exact trivial
theorem Gd {ds:List Deferred} (hm:P.follows .mixedOrders=true) (hE:KnOk P E) (hcf:Fe P E cf) {nt B0:Nat} {w0:World} {b:Frame} {cs:List Frame}:∀ (k:Nat) {todo:List Item} {tm:T AV} {s:S} {ρ:Env} {G:Heap} {w:World} {a:Act},
 Rel E B0 w0 ρ G w→TmRel ρ tm a.tmps→a.tmps.size=nt→a.defers=ds→Uo P E nt ds B0 w0 s ρ G w b cs (lone (b.at a todo) cs w) (Cx P E cf nt k (.go todo tm s))
 | 0,todo,tm,s,ρ,G,w,a,hR,ht,hts,hd=> by
  unfold Cx;exact fun ha=> ⟨ρ,G,w,a,Steps.refl _ _,ht,hts,hd,Lift.refl hR ha⟩
 | k+1,todo,tm,s,ρ,G,w,a,hR,ht,hts,hd=> by
  unfold Cx;dsimp only;cases Nn todo with
  | true=> exact fun ha=> ⟨ρ,G,w,a,Steps.refl _ _,ht,hts,hd,Lift.refl hR ha⟩
  | false=>
   dsimp only;have h1:=Nt hm hE hcf (b:=b) (cs:=cs) (s:=s) (todo:=todo) hR ht hts hd;have u1:=Ju (nt:=nt) hcf (todo:=todo) (tm:=tm) (s:=s);cases he:Iv P E cf nt todo tm s with
   | bad=> cases k <;> exact trivial
   | ret tm' s'=>
    rw [he] at h1;cases k <;> exact h1
   | go todo' tm' s'=>
    rw [he] at h1 u1;have u1':Up s s':=u1;have u2:=Gc (nt:=nt) hcf k todo' tm' s';have h1':Agree s' s G→∃ρ' G' w' a',Steps P (lone (b.at a todo) cs w) (lone (b.at a' todo') cs w')∧TmRel ρ' tm' a'.tmps∧a'.tmps.size=nt∧a'.defers=ds∧Lift E B0 w0 s s' ρ G w ρ' G' w':=h1;cases hr:Cx P E cf nt k (.go todo' tm' s') with
    | bad=> exact trivial
    | go t2 m2 s2=>
     rw [hr] at u2;have u2':Up s' s2:=u2;intro ha;obtain ⟨ρ1,G1,w1,a1,hs1,ht1,hts1,hd1,hl1⟩:=h1' (ha.first u2');have h2:=Gd hm hE hcf (b:=b) (cs:=cs) k (s:=s') (todo:=todo') hl1.rel ht1 hts1 hd1;rw [hr] at h2;obtain ⟨ρ2,G2,w2,a2,hs2,ht2,hts2,hd2,hl2⟩:=h2 (hl1.agree2 u1' ha);exact ⟨ρ2,G2,w2,a2,hs1.trans hs2,ht2,hts2,hd2,hl1.trans hl2 u2'⟩
    | ret m2 s2=>
     rw [hr] at u2;have u2':Up s' s2:=u2;intro ha;obtain ⟨ρ1,G1,w1,a1,hs1,ht1,hts1,hd1,hl1⟩:=h1' (ha.first u2');have h2:=Gd hm hE hcf (b:=b) (cs:=cs) k (s:=s') (todo:=todo') hl1.rel ht1 hts1 hd1;rw [hr] at h2;obtain ⟨ρ2,G2,w2,a2,td,hs2,ht2,hts2,hd2,hl2⟩:=h2 (hl1.agree2 u1' ha);exact ⟨ρ2,G2,w2,a2,td,hs1.trans hs2,ht2,hts2,hd2,hl1.trans hl2 u2'⟩
theorem Ig {ρ:Env}:∀ {l:List (Nat × Nat)} {us:List Value},All2 (fun (q:Nat × Nat) v=> ∃b n,ρ q.1=some (b,n)∧v=Value.pointer (some ⟨b,q.2,none⟩)) l us→All2 (Ao ρ) (l.map fun x=> .o (.p x.1 x.2)) us
 | [], [],_=> trivial
 | _::_,_::_,h=> ⟨h.1,Ig h.2⟩
 | [],_::_,h=> h.elim
 | _::_, [],h=> h.elim
theorem All2.join {α β:Type} {R:α→β→Prop}:∀ {l l':List α} {m m':List β},All2 R l m→All2 R l' m'→All2 R (l++l') (m++m')
 | [],_, [],_,_,h'=> h'
 | _::_,_,_::_,_,h,h'=> ⟨h.1,All2.join h.2 h'⟩
 | [],_,_::_,_,h,_=> h.elim
 | _::_,_, [],_,h,_=> h.elim
theorem Sh (hcf:Fe P E cf) {ops:Array Oper} {tm tm':T AV} {s s':S} {g:FuncId} {gargs:List AU} (h:Kz P E cf nt ops tm s=some (tm',s',g,gargs)):Up s s':=by
 unfold Kz at h
 split at h
 · split at h
   · split at h
     · split at h
       · rename_i tm1 s1 ho
         split at h
         · cases h;exact (Ek hcf ho).1
         · cases h
       · cases h
     · cases h
   · cases h
 · cases h
theorem Si (hE:KnOk P E) (hcf:Fe P E cf) {ops:Array Oper} {id:Nat} {tm tm':T AV} {s s':S} {g:FuncId} {gargs:List AU} (h:Kz P E cf nt ops tm s=some (tm',s',g,gargs))
 {B0:Nat} {w0:World} {ρ:Env} {G:Heap} {w:World} {a:Act} {b:Frame} {cs:List Frame} {k:List Item} (hR:Rel E B0 w0 ρ G w) (ht:TmRel ρ tm a.tmps) (hts:a.tmps.size=nt) (hd:a.defers= []) (ha:Agree s' s G):
 ∃ρ' G' w' a' us vs,Steps P (lone (b.at a (.code (.region id ops false)::k)) cs w) (lone (b.at a' k) cs w')∧TmRel ρ' tm' a'.tmps∧a'.tmps.size=nt∧a'.defers= [⟨.fn (.func g) (List.toArray vs),List.toArray us⟩]∧All2 (Ao ρ') gargs (us++vs)∧Lift E B0 w0 s s' ρ G w ρ' G' w':=by
 unfold Kz at h
 split at h
 · rename_i o1 o2 hops
   split at h
   · rename_i c hop
     split at h
     · rename_i x hgd hdst hcal hargs
       split at h
       · rename_i tm1 s1 ho
         split at h
         · rename_i f first caps hx;cases h;have hg0:ops[0]? =some o1:=by
            have:ops.toList[0]? =some o1:=by rw [hops];rfl
            simpa using this
           have hg1:ops[1]? =some o2:=by
            have:ops.toList[1]? =some o2:=by rw [hops];rfl
            simpa using this
           have hsz:ops.size=2:=by
            have:ops.toList.length=2:=by rw [hops];rfl
            simpa using this
           have hwp:(Code.region id ops false).wp P (fun e a' w'=> e=.normal∧∃ρ' G' us vs,TmRel ρ' tm' a'.tmps∧a'.tmps.size=nt∧a'.defers= [⟨.fn (.func g) (List.toArray vs),List.toArray us⟩]∧All2 (Ao ρ') ((first.map fun x=> AU.o (.p x.1 x.2))++caps.map fun x=> AU.o (.p x.1 x.2)) (us++vs)∧Lift E B0 w0 s s' ρ G w ρ' G' w') a w:=by
            refine wp_region ?_;rw [hsz,show List.range 2= [0,1] from rfl,wpOps_cons];unfold wpOp;simp only [hg0];refine Pl hE hcf ho hR (ht.op hR) ht.guard ha ?_;intro v x1 ρ' G' w' hv hd1 hl;have h2:=(Ek hcf ho).2;have ht1:=(ht.mono hl.ext).put hv hts hd1 h2;rw [wpOps_cons];unfold wpOp;simp only [hg1];have hwant:Region.wanted o2 (yielded ops (a.put o1.dst v).tmps)=true:=by unfold Region.wanted;rw [hgd]
            rw [hwant];simp only [if_true];refine .inl ?_;have hev:Ao ρ' (.o (.f (.func g) first caps)) ((a.put o1.dst v).eval x):=Ep hl.rel ht1 hx;obtain ⟨us,vs,e,k1,k2⟩:=hev;unfold Oper.wp;have hrun:(execOp (a.put o1.dst v).eval o2).run P w'=.ok (.defer ⟨.fn (.func g) vs.toArray,us.toArray⟩) w':=by
             have hca:c.args=#[]:=by
              have:=congrArg List.toArray hargs
              simpa using this
             simp [execOp,hop,resolve,hcal,hca,Deferred.ofValue,e]
            rw [hrun,Oper.upon_defer];simp only [wpOps];rw [hdst];refine ⟨trivial,ρ',G',us,vs,ht1,by simpa [Act.put] using (Jy (a:=a) (dst:=o1.dst) (v:=v)).trans hts,?_,(Ig k1).join (Ig k2),hl⟩;show _::(a.put o1.dst v).defers=_;rw [Gg,hd]
           obtain ⟨e,a',w',⟨rfl,ρ',G',us,vs,h1,h2,h3,h4,h5⟩,harr⟩:=hwp b k cs;exact ⟨ρ',G',w',a',us,vs,harr,h1,h2,h3,h4,h5⟩
         · cases h
       · cases h
     · cases h
   · cases h
 · cases h
theorem Ow {ρ:Env} {args:List AU} {vs:List Value} {n:Nat} (hargs:All2 (Ao ρ) args vs):TmRel ρ (Ed args 0 .leaf) (vs.toArray++Array.replicate (n - vs.toArray.size) undef):=by
 intro t v hv;rw [Is] at hv
 split at hv
 · rename_i hlt;rw [Nat.sub_zero] at hv;cases hg:args[t]? with
   | none=> rw [hg] at hv;cases hv
   | some y=>
    rw [hg] at hv;cases hv;obtain ⟨z,h1,h2⟩:=All2.get hargs t y hg;refine ⟨z,?_,h2⟩;have hlt2:=(List.getElem?_eq_some_iff.1 h1).1;rw [Array.getElem?_append_left (by simpa using hlt2)]
    simpa using h1
 · rw [T.get_leaf] at hv;cases hv
theorem Sk (hcf:Fe P E cf) {K:Nat} {g:FuncId} {args:List AU} {s s':S} (h:La P E cf K g args s=some s'):Up s s':=by
 unfold La at h
 split at h
 · split at h
   · rename_i gn _
     split at h
     · rename_i c _;cases hb:(Nat.ble args.length gn.ntmps && gn.results.isEmpty) with
       | false=> rw [hb] at h;cases h
       | true=>
        rw [hb] at h;simp only [cond_true] at h
        split at h
        · rename_i tm1 s1 hrun;cases h;have:=Eh (nt:=gn.ntmps) hcf K [.code c] (Ed args 0 .leaf) s;rw [hrun] at this;exact this
        · cases h
     · cases h
   · cases h
 · cases h
theorem Sl (hm:P.follows .mixedOrders=true) (hE:KnOk P E) (hcf:Fe P E cf) {K:Nat} {g:FuncId} {args:List AU} {s s':S} (h:La P E cf K g args s=some s')
 {B0:Nat} {w0:World} {ρ:Env} {G:Heap} {w:World} {us vs:List Value} {fr:Frame} {cs:List Frame} (hR:Rel E B0 w0 ρ G w) (hargs:All2 (Ao ρ) args (us++vs)) (ha:Agree s' s G) (hmode:fr.mode=.returning) (hdf:fr.defers= [⟨.fn (.func g) (List.toArray vs),List.toArray us⟩]):
 ∃ρ' G' w',Steps P (lone fr cs w) (lone {fr with defers:= []} cs w')∧Lift E B0 w0 s s' ρ G w ρ' G' w':=by
 unfold La at h
 split at h
 · rename_i g' args' hcall;obtain ⟨_,_,hin⟩:=Hr hcall (us++vs)
   split at h
   · rename_i gn hf
     split at h
     · rename_i c hc;cases hb:(Nat.ble args.length gn.ntmps && gn.results.isEmpty) with
       | false=> rw [hb] at h;cases h
       | true=>
        rw [hb] at h;simp only [cond_true] at h;simp only [Bool.and_eq_true] at hb;have hlen:=Nat.le_of_ble_eq_true hb.1
        split at h
        · rename_i tm1 s1 hrun;cases h;have hstep:=step_defer (P:=P) (fr:=fr) (cs:=cs) (w:=w) (d:=⟨.fn (.func g) (List.toArray vs),List.toArray us⟩) (ds:= []) (f:=g) (args:=List.toArray (us++vs)) (by rw [hmode];simp) hdf rfl (by
           show (callFunc g (List.toArray us++List.toArray vs)).run P w=_;rw [List.append_toArray];exact hin w)
          let b:Frame:={ (default:Frame) with fn:=g,kind:=.deferred}
          have hvl:=hargs.length;have henter:Frame.enter P g (us++vs).toArray .deferred=b.at {tmps:=(us++vs).toArray++Array.replicate (gn.ntmps - (us++vs).toArray.size) undef,defers:= []} [.code c]:=by
           simp [Frame.enter,Frame.at,hf,hc,b]
          have hsz:((us++vs).toArray++Array.replicate (gn.ntmps - (us++vs).toArray.size) undef).size=gn.ntmps:=by
           have h1:(us++vs).length≤gn.ntmps:=by omega
           rw [Array.size_append,Array.size_replicate,List.size_toArray]
           omega
          have hr:=Fu hm hE hcf (B0:=B0) (w0:=w0) (b:=b) (cs:={fr with defers:= []}::cs) K (s:=s) (todo:= [.code c]) (a:={tmps:=(us++vs).toArray++Array.replicate (gn.ntmps - (us++vs).toArray.size) undef,defers:= []}) hR (Ow hargs) hsz rfl;rw [hrun] at hr;obtain ⟨ρ1,G1,w1,a1,todo,hs1,ht1,hts1,hd1,hl1⟩:=hr ha;have hres:gn.results=#[]:=by simpa [Array.isEmpty_iff] using hb.2
          have hgo:({b.at a1 todo with mode:=.returning}:Frame).going P w1 (.returned (.tuple #[])):=by
           refine ⟨rfl,hd1,gn,hf,?_⟩;show (results gn a1.tmps).run P w1=_;rw [Gf,hres]
           simp
          have hback:=step_going_returned (P:=P) (fr:={b.at a1 todo with mode:=.returning}) (c:={fr with defers:= []}) (cs:=cs) (w:=w1) rfl hgo;have hfr:({ ({fr with defers:= []}:Frame) with mode:=settle ({fr with defers:= []}:Frame).mode}:Frame)={fr with defers:= []}:=by
           have:settle ({fr with defers:= []}:Frame).mode=fr.mode:=by
            show settle fr.mode=fr.mode;rw [hmode];rfl
           rw [this]
          rw [hfr] at hback;refine ⟨ρ1,G1,w1,.head hstep ((henter ▸ hs1).trans (.one hback)),hl1⟩
        · cases h
     · cases h
   · cases h
 · cases h
theorem Mm (hm:P.follows .mixedOrders=true) (hE:KnOk P E) (hcf:Fe P E cf) {K:Nat} {f:FuncId} {fn:Func} {c:Code} {args:List AU} {s s':S} {x:AV} (hf:P.funcs[f]? =some fn) (hc:fn.body=some c) (hlen:args.length≤fn.ntmps)
 (h:Hw P E cf K fn (.go [.code c] (Ed args 0 .leaf) s)=some (x,s')):Up s s'∧
 ∀B0 w0 ρ G w vs,Rel E B0 w0 ρ G w→All2 (Ao ρ) args vs→Agree s' s G→Calls P f (List.toArray vs) w fun e w'=> ∃v ρ' G',e=.returned v∧Cq ρ' x v∧Lift E B0 w0 s s' ρ G w ρ' G' w':=by
 unfold Hw at h
 split at h
 · rename_i id ops k tm0 s0 hto
   split at h
   · rename_i tm1 s1 g gargs hdef
     split at h
     · rename_i tm2 s2 hrun
       split at h
       · rename_i s3 hclo
         split at h
         · rename_i l s4 hres;cases h;have u0:Up s s0:=by
            have:=Gc (nt:=fn.ntmps) hcf 16 [.code c] (Ed args 0 .leaf) s;rw [hto] at this;exact this
           have u1:=Sh hcf hdef;have u2:Up s1 s2:=by
            have:=Eh (nt:=fn.ntmps) hcf K k tm1 s1;rw [hrun] at this;exact this
           have u3:=Sk hcf hclo;have u4:=Ha hres;refine ⟨u0.trans (u1.trans (u2.trans (u3.trans u4))),fun B0 w0 ρ G w vs hR hargs ha cs=> ?_⟩
           let b:Frame:={ (default:Frame) with fn:=f,kind:=.normal}
           have hvl:=hargs.length;have henter:Frame.enter P f vs.toArray .normal=b.at {tmps:=vs.toArray++Array.replicate (fn.ntmps - vs.toArray.size) undef,defers:= []} [.code c]:=by
            simp [Frame.enter,Frame.at,hf,hc,b]
           have hsz:(vs.toArray++Array.replicate (fn.ntmps - vs.toArray.size) undef).size=fn.ntmps:=by simp;omega
           have r0:=Gd hm hE hcf (B0:=B0) (w0:=w0) (b:=b) (cs:=cs) 16 (s:=s) (todo:= [.code c]) (a:={tmps:=vs.toArray++Array.replicate (fn.ntmps - vs.toArray.size) undef,defers:= []}) hR (Ow hargs) hsz rfl;rw [hto] at r0;obtain ⟨ρ0,G0,w0',a0,hs0,ht0,hts0,hd0,hl0⟩:=r0 (ha.first (u1.trans (u2.trans (u3.trans u4))));have ha1:=hl0.agree2 u0 ha;obtain ⟨ρ1,G1,w1,a1,us1,vs1,hs1,ht1,hts1,hd1,hg1,hl1⟩:=Si hE hcf hdef (id:=id) (b:=b) (cs:=cs) (k:=k) hl0.rel ht0 hts0 hd0 (ha1.first (u2.trans (u3.trans u4)));have ha2:=hl1.agree2 u1 ha1;have r2:=Fu hm hE hcf (B0:=B0) (w0:=w0) (b:=b) (cs:=cs) K (s:=s1) (todo:=k) hl1.rel ht1 hts1 hd1;rw [hrun] at r2;obtain ⟨ρ2,G2,w2,a2,todo,hs2,ht2,hts2,hd2,hl2⟩:=r2 (ha2.first (u3.trans u4));have ha3:=hl2.agree2 u2 ha2;obtain ⟨ρ3,G3,w3,hs3,hl3⟩:=Sl hm hE hcf hclo (fr:={b.at a2 todo with mode:=.returning}) (cs:=cs) hl2.rel (Jx hl2.ext hg1) (ha3.first u4) rfl hd2;have ha4:=hl3.agree2 u3 ha3;obtain ⟨hl4,ws,h2,h3⟩:=Jl hres hl3.rel (ht2.mono hl3.ext) ha4;have hl:=hl0.trans (hl1.trans (hl2.trans (hl3.trans hl4 u4) (u3.trans u4)) (u2.trans (u3.trans u4))) (u1.trans (u2.trans (u3.trans u4)));refine ⟨.returned _,w3,{ ({b.at a2 todo with mode:=.returning}:Frame) with defers:= []},⟨_,_,_,rfl,Mb h3,hl⟩,?_,rfl,rfl,rfl,rfl,fn,hf,?_⟩
           · rw [henter];exact hs0.trans (hs1.trans (hs2.trans hs3))
           · show (results fn a2.tmps).run P w3=_;rw [Gf,Sem.run_bind];have e2:(fn.results.mapM (Ib a2.tmps)).run P w3=.ok ws.toArray w3:=by
              rw [Array.mapM_eq_mapM_toList]
              simp [h2]
             rw [e2]
             rfl
         · cases h
       · cases h
     · cases h
   · cases h
 · cases h
theorem Oz (hm:P.follows .mixedOrders=true) (hE:KnOk P E) (K:Nat):∀d,Fe P E (Lc P E K d)
 | 0=> fun f args s x s' h=> by simp [Lc] at h
 | d+1=> fun f args s x s' h=> by
  have ih:=Oz hm hE K d;unfold Lc at h
  split at h
  · rename_i v hk;cases h;unfold To at hk
    split at hk
    · cases hk
    · rename_i g hg
      split at hk
      · cases hk
      · rename_i vs0 hc;refine ⟨Up.refl _,fun B0 w0 ρ G w vs hR hargs ha=> ?_⟩;have e:=Cw hc hargs;subst e;refine Calls.mono (hE.kn f g vs v hg hk B0 w0 ρ G w hR) ?_;rintro e w' ⟨rfl,hb⟩;exact ⟨v,ρ,G,rfl,Tz ρ v,hR.world hb,Env.le_refl ρ,ha,fun _ _=> rfl⟩
  split at h
  · cases h
  · rename_i fn hf
    split at h
    · cases h
    · rename_i c hc;cases hb:(Nat.ble args.length fn.ntmps && Nat.ble fn.ntmps 100000) with
      | false=> rw [hb] at h;cases h
      | true=>
       rw [hb] at h;simp only [cond_true] at h;simp only [Bool.and_eq_true] at hb;have hlen:=Nat.le_of_ble_eq_true hb.1
       split at h
       · rename_i tm1 s1 hrun
         split at h
         · rename_i l s2 hres;cases h;have u1:Up s s1:=by
            have:=Eh (nt:=fn.ntmps) ih K [.code c] (Ed args 0 .leaf) s;rw [hrun] at this;exact this
           have u2:=Ha hres;refine ⟨u1.trans u2,fun B0 w0 ρ G w vs hR hargs ha=> ?_⟩;intro cs
           let b:Frame:={ (default:Frame) with fn:=f,kind:=.normal}
           have hvl:=hargs.length;have henter:Frame.enter P f vs.toArray .normal=b.at {tmps:=vs.toArray++Array.replicate (fn.ntmps - vs.toArray.size) undef,defers:= []} [.code c]:=by
            simp [Frame.enter,Frame.at,hf,hc,b]
           have ht:TmRel ρ (Ed args 0 .leaf) (vs.toArray++Array.replicate (fn.ntmps - vs.toArray.size) undef):=by
            intro t v hv;rw [Is] at hv
            split at hv
            · rename_i hlt;rw [Nat.sub_zero] at hv;cases hg:args[t]? with
              | none=> rw [hg] at hv;cases hv
              | some y=>
               rw [hg] at hv;cases hv;obtain ⟨z,h1,h2⟩:=All2.get hargs t y hg;refine ⟨z,?_,h2⟩;have hlt2:=(List.getElem?_eq_some_iff.1 h1).1;rw [Array.getElem?_append_left (by simpa using hlt2)]
               simpa using h1
            · rw [T.get_leaf] at hv;cases hv
           have hsz:(vs.toArray++Array.replicate (fn.ntmps - vs.toArray.size) undef).size=fn.ntmps:=by simp;omega
           have hr:=Fu hm hE ih (B0:=B0) (w0:=w0) (b:=b) (cs:=cs) K (s:=s) (todo:= [.code c]) (a:={tmps:=vs.toArray++Array.replicate (fn.ntmps - vs.toArray.size) undef,defers:= []}) hR ht hsz rfl;rw [hrun] at hr;obtain ⟨ρ1,G1,w1,a1,todo,hs1,ht1,hts1,hd1,hl1⟩:=hr (ha.first u2);obtain ⟨hl2,ws,h2,h3⟩:=Jl hres hl1.rel ht1 (hl1.agree2 u1 ha);refine ⟨.returned _,w1,{b.at a1 todo with mode:=.returning},⟨_,ρ1,G1,rfl,Mb h3,hl1.trans hl2 u2⟩,?_,rfl,rfl,hd1,rfl,fn,hf,?_⟩
           · rw [henter];exact hs1
           · show (results fn a1.tmps).run P w1=_;rw [Gf,Sem.run_bind];have e2:(fn.results.mapM (Ib a1.tmps)).run P w1=.ok ws.toArray w1:=by
              rw [Array.mapM_eq_mapM_toList]
              simp [h2]
             rw [e2]
             rfl
         · cases h
       · exact Mm hm hE ih hf hc hlen h
end
end Go.Ev
namespace Go.Ev
open Go.RowKit
def Ut (k k':IntKind):Bool:=decide (k=k')
def Nm:List UInt8→List UInt8→Bool
 | [], []=> true
 | a::l,b::m=> Nat.beq a.toNat b.toNat && Nm l m
 | _,_=> false
theorem Mk:∀ {l m:List UInt8},Nm l m=true→l=m
 | [], [],_=> rfl
 | a::l,b::m,h=> by
  simp only [Nm,Bool.and_eq_true] at h;have e:a=b:=UInt8.toNat_inj.1 (Nat.eq_of_beq_eq_true h.1);rw [e,Mk h.2]
 | [],_::_,h=> by cases h
 | _::_, [],h=> by cases h
def intB:Int→Int→Bool
 | .ofNat a,.ofNat b=> Nat.beq a b
 | .negSucc a,.negSucc b=> Nat.beq a b
 | _,_=> false
theorem Ui:∀ {a b:Int},intB a b=true→a=b
 | .ofNat a,.ofNat b,h=> by rw [Nat.eq_of_beq_eq_true h]
 | .negSucc a,.negSucc b,h=> by rw [Nat.eq_of_beq_eq_true h]
 | .ofNat _,.negSucc _,h=> by cases h
 | .negSucc _,.ofNat _,h=> by cases h
def Sp (x y:Value):Bool:=
 match x,y with
 | .bool a,.bool b=> a==b
 | .int k a,.int k' b=> Ut k k' && intB a b
 | .float k a,.float k' b=> decide (k=k') && Nat.beq a b
 | .complex k a b,.complex k' a' b'=> decide (k=k') && (Nat.beq a a' && Nat.beq b b')
 | .string a,.string b=> Nm a.data.toList b.data.toList
 | .pointer none,.pointer none=> true
 | .slice none 0 0,.slice none 0 0=> true
 | .map none,.map none=> true
 | .nilIface,.nilIface=> true
 | _,_=> false
theorem Mo {x y:Value} (h:Sp x y=true):x=y:=by
 unfold Sp at h
 split at h
 · rw [eq_of_beq h]
 · simp only [Bool.and_eq_true,Ut,decide_eq_true_eq] at h;rw [h.1,Ui h.2]
 · simp only [Bool.and_eq_true,decide_eq_true_eq] at h;rw [h.1,Nat.eq_of_beq_eq_true h.2]
 · simp only [Bool.and_eq_true,decide_eq_true_eq] at h;rw [h.1,Nat.eq_of_beq_eq_true h.2.1,Nat.eq_of_beq_eq_true h.2.2]
 · rename_i a b;have:=Mk h
   congr 1
   exact ByteArray.ext (Array.ext' this)
 all_goals first | rfl | cases h
def Nl:List Value→List Value→Bool
 | [], []=> true
 | a::l,b::m=> Sp a b && Nl l m
 | _,_=> false
theorem Mj:∀ {l m:List Value},Nl l m=true→l=m
 | [], [],_=> rfl
 | a::l,b::m,h=> by
  simp only [Nl,Bool.and_eq_true] at h;rw [Mo h.1,Mj h.2]
 | [],_::_,h=> by cases h
 | _::_, [],h=> by cases h
def Uw (x y:Value):Bool:=match x,y with | .agg a,.agg b=> Nl a.toList b.toList | x,y=> Sp x y
theorem Ua {x y:Value} (h:Uw x y=true):x=y:=by
 unfold Uw at h
 split at h
 · rename_i a b;exact congrArg Value.agg (Array.ext' (Mj h))
 · exact Mo h
def Ns:List Value→List Value→Bool
 | [], []=> true
 | a::l,b::m=> Uw a b && Ns l m
 | _,_=> false
theorem Nr:∀ {l m:List Value},Ns l m=true→l=m
 | [], [],_=> rfl
 | a::l,b::m,h=> by
  simp only [Ns,Bool.and_eq_true] at h;rw [Ua h.1,Nr h.2]
 | [],_::_,h=> by cases h
 | _::_, [],h=> by cases h
def acB (a:AC) (v:Value):Bool:=match a with | .c x=> Sp x v | _=> false
def Un:List AC→List Value→Bool
 | [], []=> true
 | a::l,v::m=> acB a v && Un l m
 | _,_=> false
def auB (u:AU) (v:Value):Bool:=
 match u with
 | .o a=> acB a v
 | .g l=> match v with
  | .agg cs=> Un l cs.toList
  | _=> false
def Um:List AU→List Value→Bool
 | [], []=> true
 | a::l,v::m=> auB a v && Um l m
 | _,_=> false
def avB (x:AV) (v:Value):Bool:=
 match x with
 | .u u=> auB u v
 | .t l=> match v with
  | .tuple vs=> Um l vs.toList
  | _=> false
theorem Ty {ρ:Env} {a:AC} {v x:Value} (h:acB a v=true) (hr:Hb ρ a x):x=v:=by
 unfold acB at h
 split at h
 · have e:x=_:=hr;rw [e];exact Mo h
 · cases h
theorem Rc {ρ:Env}:∀ {l:List AC} {vs xs:List Value},Un l vs=true→Bv ρ l xs→xs=vs
 | [], [], [],_,_=> rfl
 | a::l,v::vs,x::xs,h,hr=> by
  simp only [Un,Bool.and_eq_true] at h;rw [Ty h.1 hr.1,Rc h.2 hr.2]
 | [], [],_::_,_,hr=> hr.elim
 | [],_::_,_,h,_=> by cases h
 | _::_, [],_,h,_=> by cases h
 | _::_,_::_, [],_,hr=> hr.elim
theorem Tw {ρ:Env} {u:AU} {v x:Value} (h:auB u v=true) (hr:Ao ρ u x):x=v:=by
 unfold auB at h
 split at h
 · exact Ty h hr
 · split at h
   · rename_i l cs;obtain ⟨xs,rfl,hl⟩:=hr;rw [Rc h hl]
   · cases h
theorem Rb {ρ:Env}:∀ {l:List AU} {vs xs:List Value},Um l vs=true→All2 (Ao ρ) l xs→xs=vs
 | [], [], [],_,_=> rfl
 | a::l,v::vs,x::xs,h,hr=> by
  simp only [Um,Bool.and_eq_true] at h;rw [Tw h.1 hr.1,Rb h.2 hr.2]
 | [], [],_::_,_,hr=> hr.elim
 | [],_::_,_,h,_=> by cases h
 | _::_, [],_,h,_=> by cases h
 | _::_,_::_, [],_,hr=> hr.elim
theorem Vk {ρ:Env} {x:AV} {v y:Value} (h:avB x v=true) (hr:Cq ρ x y):y=v:=by
 unfold avB at h
 split at h
 · exact Tw h hr
 · split at h
   · rename_i l vs;obtain ⟨xs,rfl,hl⟩:=hr;rw [Rb h hl]
   · cases h
def Ux (r:Option (AV × S)) (v:Value):Bool:=match r with | some (x,_)=> avB x v | none=> false
noncomputable def Ip (H:T AObj) (a:AC):Bool:=
 match a with
 | .c _ | .un=> true
 | .ts id _ | .tp id _=> (H.get id).isSome
 | _=> false
noncomputable def Qq (H:T AObj) (ob:AObj):Bool:=
 match ob with
 | .row _ cells .ro=> cells.all (Ip H)
 | .tab cells=> cells.all (Ip H)
 | _=> false
def T.allB {α:Type} (p:α→Bool):T α→Bool
 | .leaf=> true
 | .node v l r=> (match v with | some x=> p x | none=> true) && (T.allB p l && T.allB p r)
theorem T.allB_get {α:Type} {p:α→Bool}:∀ {t:T α} {k:Nat} {x:α},T.allB p t=true→t.get k=some x→p x=true
 | .leaf,k,x,_,h=> by rw [T.get_leaf] at h;cases h
 | .node v l r,k,x,ha,h=> by
  simp only [T.allB,Bool.and_eq_true] at ha;rw [T.get_node] at h
  split at h
  · subst h;exact ha.1
  · split at h
    · exact T.allB_get ha.2.1 h
    · exact T.allB_get ha.2.2 h
structure Base (E:Kn) (H:T AObj):Prop where
 h0:E.h0=H.get
 gl:∀g,E.gl g=true→∃ob,H.get g=some ob
 ok:T.allB (Qq H) H=true
section
variable {P:Program} {E:Kn} {H:T AObj}
noncomputable def Env.only (ρ:Env) (H:T AObj):Env:=fun id=> match H.get id with | some _=> ρ id | none=> none
theorem Qi {ρ:Env} {a:AC} {x:Value} (h:Ip H a=true) (hr:Hb ρ a x):Hb (ρ.only H) a x:=by
 have key:∀id,(H.get id).isSome=true→(ρ.only H) id=ρ id:=fun id hi=> by
  unfold Env.only;cases hg:H.get id with
  | none=> rw [hg] at hi;cases hi
  | some _=> rfl
 cases a <;> simp only [Ip] at h <;> first | cases h;done | exact hr | skip
 · obtain ⟨b,o,c,hb,e⟩:=hr;exact ⟨b,o,c,(key _ h).trans hb,e⟩
 · obtain ⟨b,o,hb,e⟩:=hr;exact ⟨b,o,(key _ h).trans hb,e⟩
theorem Fs {ρ:Env}:∀ {l:List AC} {xs:List Value},l.all (Ip H)=true→Bv ρ l xs→Bv (ρ.only H) l xs
 | [], [],_,_=> trivial
 | a::l,x::xs,h,hr=> by
  simp only [List.all_cons,Bool.and_eq_true] at h;exact ⟨Qi h.1 hr.1,Fs h.2 hr.2⟩
 | [],_::_,_,hr=> hr.elim
 | _::_, [],_,hr=> hr.elim
theorem Rel.start (hB:Base E H) {B0:Nat} {w0:World} {ρ:Env} {G:Heap} {w:World} (h:Rel E B0 w0 ρ G w) {n:Nat} {lg:Lg}:
 Rel E w.heap.size w (ρ.only H) (Be (.mk H n lg)) w:=by
 have hold:∀id ob,H.get id=some ob→G id=some ob∧ob.old=true:=fun id ob hi=> h.base id ob (by rw [hB.h0];exact hi)
 refine ⟨Below.refl _ _,Nat.le_refl _,fun id ob hi hd=> ?_,fun i j oi oj b m m' _ hi _ ho=> ?_,fun id p hp=> ?_,fun g hg=> ?_,fun id ob hi=> ?_⟩
 · have hi:H.get id=some ob:=hi;obtain ⟨hG,ho⟩:=hold id ob hi;obtain ⟨b,k,h1,_,h3⟩:=h.real id ob hG hd;refine ⟨b,k,by unfold Env.only;rw [hi];exact h1,.inl ho,?_⟩;have hok:=T.allB_get hB.ok hi;unfold Qq at hok
   split at hok
   · obtain ⟨cur,fr,ty',g0,g1,g2,g3,g4,rest,head,g5,g6⟩:=h3;exact ⟨cur,fr,ty',g0,g1,g2,g3,g4,rest,head,g5,Fs hok g6⟩
   · obtain ⟨pre,head,rest,ty,fr,g1,g2,g3⟩:=h3;exact ⟨pre,head,rest,ty,fr,g1,g2,Fs hok g3⟩
   · cases hok
 · have hi:H.get i=some oi:=hi;rw [(hold i oi hi).2] at ho;cases ho
 · intro hn;have hn:H.get id=none:=hn;unfold Env.only at hp;rw [hn] at hp;cases hp
 · obtain ⟨ob,ho⟩:=hB.gl g hg;obtain ⟨m,hm⟩:=h.glob g hg;exact ⟨m,by unfold Env.only;rw [ho];exact hm⟩
 · rw [hB.h0] at hi;exact ⟨hi,(hold id ob hi).2⟩
abbrev KT:=List (FuncId × List Value × Value)
def Qv:KT→List Value→Option Value
 | [],_=> none
 | q::t,vs=> bif Ns vs q.2.1 then some q.2.2 else Qv t vs
def Vh (t:KT) (f:FuncId):Option (List Value→Option Value):=
 match t.filter fun q=> Nat.beq q.1 f with
 | []=> none
 | t=> some (Qv t)
def Kn.with (E:Kn) (t:KT):Kn:={E with kn:=Vh t}
theorem Rel.kn {t:KT} {B0:Nat} {w0:World} {ρ:Env} {G:Heap} {w:World} (h:Rel (E.with t) B0 w0 ρ G w):Rel E B0 w0 ρ G w:=⟨h.below,h.size,h.real,h.inj,h.dom,h.glob,h.base⟩
theorem Rel.kn' {t:KT} {B0:Nat} {w0:World} {ρ:Env} {G:Heap} {w:World} (h:Rel E B0 w0 ρ G w):Rel (E.with t) B0 w0 ρ G w:=⟨h.below,h.size,h.real,h.inj,h.dom,h.glob,h.base⟩
def Ee (P:Program) (E:Kn) (f:FuncId) (args:List Value) (v:Value):Prop:=
 ∀B0 w0 ρ G w,Rel E B0 w0 ρ G w→Calls P f args.toArray w fun e w'=> e=.returned v∧Below w.heap.size w w'
def KnowsAll (P:Program) (E:Kn):KT→Prop
 | []=> True
 | q::t=> Ee P E q.1 q.2.1 q.2.2∧KnowsAll P E t
theorem Ol:∀ {t:KT} {vs:List Value} {v:Value},Qv t vs=some v→∃q∈t,vs=q.2.1∧v=q.2.2
 | [],vs,v,h=> by cases h
 | q::t,vs,v,h=> by
  unfold Qv at h;cases hb:Ns vs q.2.1 with
  | true=> rw [hb] at h;cases h;exact ⟨q,by simp,Nr hb,rfl⟩
  | false=>
   rw [hb] at h;obtain ⟨r,h1,h2⟩:=Ol h;exact ⟨r,by simp [h1],h2⟩
theorem KnowsAll.mem:∀ {t:KT},KnowsAll P E t→∀q∈t,Ee P E q.1 q.2.1 q.2.2
 | q::t,h,r,hr=> by
  rcases List.mem_cons.1 hr with rfl | hr
  · exact h.1
  · exact KnowsAll.mem h.2 r hr
theorem KnOk.with {t:KT} (h:KnOk P E) (ht:KnowsAll P E t):KnOk P (E.with t):=by
 refine ⟨h.ext,h.fb,h.ff,h.same,h.mkNo,fun f g vs v hg hv B0 w0 ρ G w hR=> ?_⟩;have hg:Vh t f=some g:=hg;unfold Vh at hg
 split at hg
 · cases hg
 · cases hg;obtain ⟨q,hq,rfl,rfl⟩:=Ol hv;rw [List.mem_filter] at hq;have e:=Nat.eq_of_beq_eq_true hq.2;subst e;exact ht.mem q hq.1 B0 w0 ρ G w hR.kn
theorem Sn (ρ:Env) (l:List Value):All2 (Ao ρ) (l.map Gw) l:=Ft l
theorem My (hm:P.follows .mixedOrders=true) (hE:KnOk P E) (hB:Base E H) {K d n:Nat} {f:FuncId} {args:List Value} {v:Value} (h:Ux (Lc P E K d f (args.map Gw) (.mk H n .leaf)) v=true):Ee P E f args v:=by
 intro B0 w0 ρ G w hR;unfold Ux at h
 split at h
 · rename_i x s' hrun;refine Calls.mono ((Oz hm hE K d f _ _ _ s' hrun).2 w.heap.size w (ρ.only H) (Be (.mk H n .leaf)) w args (hR.start hB) (Sn _ args) fun _ _=> rfl) ?_;rintro e w' ⟨y,ρ',G',rfl,h1,h2⟩;exact ⟨by rw [Vk h h1],h2.rel.below⟩
 · cases h
end
end Go.Ev
namespace Go.Ev
open Go.RowKit
def Hl (g:DataW Unit→Option (List Value)) (c:Nat):List (DataW Unit)→Option (List Value)
 | []=> some []
 | d::l=> match g d with
  | some vs=> match Nat.beq vs.length c with
   | true=> match Hl g c l with
    | some r=> some (vs++r)
    | none=> none
   | false=> none
  | none=> none
def Kg (g:TypeId→DataW Unit→Option (List Value)) (cells:TypeId→Nat):List Field→List (DataW Unit)→Nat→Option (List Value)
 | [], [],_=> some []
 | f::fs,d::ds,off=> match Nat.beq f.offset off with
  | true=> match g f.type d with
   | some vs=> match Nat.beq vs.length (cells f.type) with
    | true=> match Kg g cells fs ds (off+vs.length) with
     | some r=> some (vs++r)
     | none=> none
    | false=> none
   | none=> none
  | false=> none
 | _,_,_=> none
def Qo (P:Program) (t:TypeId) (vs:Option (List Value)):Option (List Value):=
 match vs with
 | some vs=> match Nat.beq vs.length (P.cellsOf t) with
  | true=> some vs
  | false=> none
 | none=> none
def Fg (P:Program):Nat→TypeId→DataW Unit→Option (List Value)
 | 0,_,_=> none
 | n+1,t,d=> match P.underlying t with
  | none=> none
  | some desc=> match desc,d with
   | .bool,.lit (.bool b)=> some [.bool b]
   | .int _,.lit (.int k z)=> some [.int k z]
   | .float _,.lit (.float k b)=> some [.float k b]
   | .string,.lit (.string bs)=> some [.string ⟨bs.toArray⟩]
   | .struct fs,.agg ds=> Qo P t (Kg (Fg P n) P.cellsOf fs.toList ds 0)
   | .array m e,.agg ds=> match Nat.beq ds.length m with
    | true=> Qo P t (Hl (Fg P n e) (P.cellsOf e) ds)
    | false=> none
   | _,_=> none
theorem Js {P:Program} {t:TypeId} {o:Option (List Value)} {vs:List Value} (h:Qo P t o=some vs):o=some vs∧vs.length=P.cellsOf t:=by
 unfold Qo at h
 split at h
 · split at h
   · rename_i hb;cases h;exact ⟨rfl,Nat.eq_of_beq_eq_true hb⟩
   · cases h
 · cases h
section
variable {P:Program} {w:World} {base:Nat} {sp:Nat→Bool} {held:Bool}
abbrev tr (P:Program) (w:World) (base:Nat) (sp:Nat→Bool) (held:Bool):=DataW.trod (fun (_:TypeId × Value)=> ()) P w base sp held
theorem Ok {n m:Nat} {e:TypeId} (ih:∀ {d:DataW Unit} {vs:List Value},Fg P n e d=some vs→∀ {cs:List Value} {p:List MemPlace},tr P w base sp held m e cs=some (d,p)→cs=vs) {cs:List Value}:
 ∀ (xs:List (DataW Unit × List MemPlace)) (k:Nat) (vs:List Value),(∀i,i < xs.length→tr P w base sp held m e ((cs.drop ((k+i) * P.cellsOf e)).take (P.cellsOf e))=xs[i]?)→
  Hl (Fg P n e) (P.cellsOf e) (xs.map (·.1))=some vs→(cs.drop (k * P.cellsOf e)).take vs.length=vs
 | [],k,vs,_,h=> by simp [Hl] at h;subst h;simp
 | x::xs,k,vs,hx,h=> by
  unfold Hl at h;rw [List.map_cons] at h;dsimp only at h
  split at h
  · rename_i v1 h1
    split at h
    · rename_i hb;have hb:=Nat.eq_of_beq_eq_true hb
      split at h
      · rename_i r hr;cases h;have h0:=hx 0 (by simp);simp only [Nat.add_zero,List.getElem?_cons_zero] at h0;have e1:=ih h1 h0;have e2:=Ok ih xs (k+1) r (fun i hi=> by
         have:=hx (i+1) (by simp;omega);rw [show k+(i+1)=k+1+i by omega] at this
         simpa using this) hr
        rw [List.length_append,List.take_add,List.drop_drop,hb,e1];rw [show k * P.cellsOf e+P.cellsOf e=(k+1) * P.cellsOf e by rw [Nat.add_mul];omega,e2]
      · cases h
    · cases h
  · cases h
theorem Oj {n m:Nat} (ih:∀ {t:TypeId} {d:DataW Unit} {vs:List Value},Fg P n t d=some vs→∀ {cs:List Value} {p:List MemPlace},tr P w base sp held m t cs=some (d,p)→cs=vs) {cs:List Value}:
 ∀ (fs:List Field) (xs:List (DataW Unit × List MemPlace)) (off:Nat) (vs:List Value),(∀ (i:Nat) (f:Field),fs[i]? =some f→tr P w base sp held m f.type ((cs.drop f.offset).take (P.cellsOf f.type))=xs[i]?)→
  Kg (Fg P n) P.cellsOf fs (xs.map (·.1)) off=some vs→(cs.drop off).take vs.length=vs
 | [], [],off,vs,_,h=> by simp [Kg] at h;subst h;simp
 | [],_::_,off,vs,_,h=> by simp [Kg] at h
 | _::_, [],off,vs,_,h=> by simp [Kg] at h
 | f::fs,x::xs,off,vs,hx,h=> by
  rw [List.map_cons] at h;unfold Kg at h
  split at h
  · rename_i ho;have ho:=Nat.eq_of_beq_eq_true ho
    split at h
    · rename_i v1 h1
      split at h
      · rename_i hb;have hb:=Nat.eq_of_beq_eq_true hb
        split at h
        · rename_i r hr;cases h;have h0:=hx 0 f rfl;simp only [List.getElem?_cons_zero] at h0;have e1:=ih h1 h0;have e2:=Oj ih fs xs (off+v1.length) r (fun i g hg=> by
           have:=hx (i+1) g (by simpa using hg)
           simpa using this) hr
          rw [List.length_append,List.take_add,List.drop_drop,e2,hb,←ho,e1]
        · cases h
      · cases h
    · cases h
  · cases h
theorem Hk:∀ {n:Nat} {t:TypeId} {d:DataW Unit} {vs:List Value},Fg P n t d=some vs→∀ {fuel:Nat} {cs:List Value} {p:List MemPlace},tr P w base sp held fuel t cs=some (d,p)→cs=vs
 | 0,t,d,vs,h,_,_,_,_=> by simp [Fg] at h
 | n+1,t,d,vs,h,fuel,cs,p,htr=> by
  unfold Fg at h
  split at h
  · cases h
  · rename_i desc hu
    split at h
    · cases h;obtain ⟨b,rfl,e⟩:=DataW.trod_bool hu htr;cases e;rfl
    · cases h;obtain ⟨b,rfl,e,_⟩:=DataW.trod_int hu htr;cases e;rfl
    · cases h;cases fuel with
      | zero=> simp [tr,DataW.trod] at htr
      | succ m=>
       unfold tr DataW.trod at htr;rw [hu] at htr
       split at htr <;> simp_all
    · cases h;obtain ⟨s,rfl,e,_⟩:=DataW.trod_string hu htr;cases e
      congr 1
    · rename_i fs ds;obtain ⟨h1,h2⟩:=Js h;obtain ⟨xs,m,rfl,hx,hl,hxl,hall⟩:=DataW.trod_struct hu htr;cases hx;have:=Oj (cs:=cs) (fun hd _ _=> Hk hd) fs.toList xs 0 vs (fun i f hf=> hall i f (by simpa using hf)) h1;rw [List.drop_zero,h2,←hl,List.take_length] at this;exact this
    · rename_i k e ds
      split at h
      · rename_i hk;obtain ⟨h1,h2⟩:=Js h;obtain ⟨xs,m,rfl,hx,hl,hxl,hall⟩:=DataW.trod_array hu htr;cases hx;have:=Ok (cs:=cs) (fun hd _ _=> Hk hd) xs 0 vs (fun i hi=> by rw [Nat.zero_add];exact hall i (by omega)) h1;rw [Nat.zero_mul,List.drop_zero,h2,←hl,List.take_length] at this;exact this
      · cases h
    · cases h
theorem Pd {t:TypeId} {ms:Array (String × TypeId)} (hu:P.underlying t=some (.interface ms)) {fuel:Nat} {cs:List Value} {n:String} {d:DataW Unit} {p:List MemPlace} (htr:tr P w base sp held fuel t cs=some (.iface n d,p)):
 ∃v,cs= [v]∧v.oneCell'=true:=by
 cases fuel with
 | zero=> simp [tr,DataW.trod] at htr
 | succ m=>
  unfold tr DataW.trod at htr;rw [hu] at htr
  split at htr <;> first | (simp_all;done) | exact ⟨_,rfl,rfl⟩
end
end Go.Ev
namespace Go.Ev
open Go.RowKit
def Jo (P:Program) (base i g:Nat) (d:DataW Unit):List (Nat × AObj):=
 match (P.globals[g]?).map (·.type) with
 | none=> []
 | some t=> match d with
  | .slice ds []=> match P.underlying t with
   | some (.slice e)=> match Hl (Fg P 8 e) (P.cellsOf e) ds with
    | some (v::vs)=> [(g,.row t [.ts (base+i) ds.length] .ro),(base+i,.tab ((v::vs).map .c))]
    | _=> []
   | _=> []
  | .iface _ _=> match P.underlying t with
   | some (.interface _)=> [(g,.row t [.un] .ro)]
   | _=> []
  | d=> match Fg P 8 t d with
   | some vs=> [(g,.row t (vs.map .c) .ro)]
   | none=> []
def Cp (P:Program) (base:Nat):Nat→List Nat→List (String × DataW Unit)→List (Nat × AObj)
 | i,g::gs,x::l=> Jo P base i g x.2++Cp P base (i+1) gs l
 | _,_,_=> []
noncomputable def mkH:List (Nat × AObj)→T AObj→T AObj
 | [],t=> t
 | q::l,t=> mkH l (t.set q.1 q.2)
def Og (o:Option AObj):Bool:=match o with | some (.row ..)=> true | _=> false
theorem Qu:∀ {l:List (Nat × AObj)} {t:T AObj} {id:Nat} {ob:AObj},(mkH l t).get id=some ob→(id,ob)∈l∨t.get id=some ob
 | [],t,id,ob,h=> .inr h
 | q::l,t,id,ob,h=> by
  rcases Qu (l:=l) h with h1 | h1
  · exact .inl (by simp [h1])
  · rw [T.get_set] at h1
    split at h1
    · rename_i e;cases h1;subst e;exact .inl (by simp)
    · exact .inr h1
theorem Hi {P:Program} {base:Nat} {q:Nat × AObj}:∀ {i:Nat} {gs:List Nat} {l:List (String × DataW Unit)},q∈Cp P base i gs l→∃j g x,gs[j]? =some g∧l[j]? =some x∧q∈Jo P base (i+j) g x.2
 | i, [],l,h=> by simp [Cp] at h
 | i,_::_, [],h=> by simp [Cp] at h
 | i,g::gs,x::l,h=> by
  unfold Cp at h;rcases List.mem_append.1 h with h | h
  · exact ⟨0,g,x,rfl,rfl,h⟩
  · obtain ⟨j,g',x',h1,h2,h3⟩:=Hi h;exact ⟨j+1,g',x',by simpa using h1,by simpa using h2,by rw [show i+(j+1)=i+1+j by omega];exact h3⟩
section
variable {P:Program} {W:World}
theorem Je:∀ {l:List (String × DataW Unit)} {ps:List MemPlace},DataW.LaidVars P W l ps→∀n d,(n,d)∈l→
 ∃g t cs fuel p,P.globalNamed n=some g∧(P.globals[g]?).map (·.type)=some t∧W.var? P n=some cs∧DataW.trod (fun _=> ()) P W 0 (fun _=> true) false fuel t cs.toList=some (d,p)
 | [],_,_,_,_,hm=> by cases hm
 | (n',d')::r,ps,h,n,d,hm=> by
  obtain ⟨g,t,cs,fuel,p,q,h1,h2,h3,h4,h5,_⟩:=h;rcases List.mem_cons.1 hm with e | e
  · cases e;exact ⟨g,t,cs,fuel,p,h1,h2,h3,h4⟩
  · exact Je h5 n d e
theorem Uh {l:List (String × DataW Unit)} (hl:laidMet P l W) {gs:List Nat} (hg:l.map (fun x=> P.globalNamed x.1)=gs.map some) {j g:Nat} {x:String × DataW Unit} (h1:gs[j]? =some g) (h2:l[j]? =some x):
 ∃t cs ty fr fuel p,(P.globals[g]?).map (·.type)=some t∧W.heap[g]? =some (.cells cs ty fr)∧tr P W 0 (fun _=> true) false fuel t cs.toList=some (x.2,p):=by
 obtain ⟨ps,hv,_⟩:=hl;obtain ⟨g',t,cs,fuel,p,k1,k2,k3,k4⟩:=Je hv x.1 x.2 (List.mem_of_getElem? h2);have e:P.globalNamed x.1=some g:=by
  have:=congrArg (fun m=> m[j]?) hg
  simpa [h1,h2] using this
 rw [e] at k1;cases k1;simp only [World.var?,e,Option.bind_some] at k3
 split at k3
 · rename_i cs' ty fr hh;cases k3;exact ⟨t,cs,ty,fr,fuel,p,k2,hh,k4⟩
 · cases k3
noncomputable def Cg (W:World) (base:Nat) (gs:List Nat) (H:T AObj):Env:=fun id=>
 match H.get id with
 | none=> none
 | some (.tab _)=> match gs[id - base]? with
  | none=> none
  | some g=> match W.cell? ⟨g,0,none⟩ with
   | some (.slice (some a) _ _)=> some (a.block,a.off)
   | _=> none
 | some _=> match W.heap[id]? with
  | some (.cells cs _ _)=> some (id,cs.size)
  | _=> none
theorem Kf {W:World} {e:TypeId} {c m:Nat} {a:Addr} (hc:P.cellsOf e=c):∀ (xs:List (DataW Unit × List MemPlace)) (k:Nat) (vs:List Value),(∀i,i < xs.length→(W.cells? 0 (a.add ((k+i) * c)) c).bind (tr P W 0 (fun _=> true) false m e)=xs[i]?)→
 Hl (Fg P 8 e) c (xs.map (·.1))=some vs→∀j,j < vs.length→W.cell? (a.add (k * c+j))=vs[j]?
 | [],k,vs,_,h,j,hj=> by simp [Hl] at h;subst h;simp at hj
 | x::xs,k,vs,hx,h,j,hj=> by
  unfold Hl at h;rw [List.map_cons] at h;dsimp only at h
  split at h
  · rename_i v1 h1
    split at h
    · rename_i hb;have hb:=Nat.eq_of_beq_eq_true hb
      split at h
      · rename_i r hr;cases h;have h0:=hx 0 (by simp);simp only [Nat.add_zero,List.getElem?_cons_zero] at h0;obtain ⟨ce,hce,hte⟩:=Option.bind_eq_some_iff.1 h0;have e1:=Hk h1 hte;subst e1;obtain ⟨_,hl,hcell⟩:=World.cells?_some hce
        by_cases hlt:j < c
        · rw [List.getElem?_append_left (by omega),←hcell j hlt]
          congr 1
          simp [Addr.add]
          by_cases hk:k * c=0
          · simp [hk]
          · simp [hk]
            by_cases hj0:j=0
            · simp [hj0]
            · simp [hj0];omega
        · have e2:=Kf hc xs (k+1) r (fun i hi=> by
           have:=hx (i+1) (by simp;omega);rw [show k+(i+1)=k+1+i by omega] at this
           simpa using this) hr (j - c) (by simp at hj;omega)
          rw [List.getElem?_append_right (by omega),hl,←e2]
          congr 2
          rw [Nat.add_mul];omega
      · cases h
    · cases h
  · cases h
theorem Sm {a:Addr} {v:Value} (h:W.cell? a=some v):a=⟨a.block,a.off,none⟩∧∃c ty fr,W.heap[a.block]? =some (.cells c ty fr)∧c[a.off]? =some v:=by
 obtain ⟨b,o,sp⟩:=a;unfold World.cell? at h
 split at h
 · rename_i c ty fr hh;cases sp with
   | none=> exact ⟨rfl,c,ty,fr,hh,by simpa using h⟩
   | some x=> simp at h
 · cases h
inductive Told (P:Program) (base j g:Nat) (W:World):Nat→AObj→Prop where
 | row (t:TypeId) (vs:List Value) (c:Array Value) (ty:TypeId) (fr:Nat × Nat) (h:W.heap[g]? =some (.cells c ty fr)) (hc:c.toList=vs):Told P base j g W g (.row t (vs.map .c) .ro)
 | un (t:TypeId) (v:Value) (c:Array Value) (ty:TypeId) (fr:Nat × Nat) (h:W.heap[g]? =some (.cells c ty fr)) (hc:c.toList= [v]) (hv:v.oneCell'=true):Told P base j g W g (.row t [.un] .ro)
 | ts (t:TypeId) (b o len k:Nat) (c:Array Value) (ty:TypeId) (fr:Nat × Nat) (h:W.heap[g]? =some (.cells c ty fr)) (hc:c.toList= [.slice (some ⟨b,o,none⟩) len k]):Told P base j g W g (.row t [.ts (base+j) len] .ro)
 | tab (vs:List Value) (b o len k:Nat) (c:Array Value) (ty:TypeId) (fr:Nat × Nat) (h:W.heap[g]? =some (.cells c ty fr)) (hc:c.toList= [.slice (some ⟨b,o,none⟩) len k])
  (c2:Array Value) (ty2:TypeId) (fr2:Nat × Nat) (h2:W.heap[b]? =some (.cells c2 ty2 fr2)) (hv:∀i,i < vs.length→c2[o+i]? =vs[i]?) (h0:0 < vs.length):Told P base j g W (base+j) (.tab (vs.map .c))
theorem Uc {base j g:Nat} {d:DataW Unit} {t:TypeId} {cs:Array Value} {ty:TypeId} {fr:Nat × Nat} {fuel:Nat} {p:List MemPlace} (ht:(P.globals[g]?).map (·.type)=some t) (hh:W.heap[g]? =some (.cells cs ty fr))
 (htr:tr P W 0 (fun _=> true) false fuel t cs.toList=some (d,p)) {id:Nat} {ob:AObj} (h:(id,ob)∈Jo P base j g d):Told P base j g W id ob:=by
 unfold Jo at h;rw [ht] at h;dsimp only at h
 split at h
 · rename_i ds
   split at h
   · rename_i e hu
     split at h
     · rename_i v vs hf;rcases DataW.trod_slice hu htr with ⟨_,hx⟩ | ⟨a,len,cap,el,rs,m,rfl,hcs,hx,_,hlc,_,hel,helem,hsp,_⟩
       · cases hx
       · simp only [Prod.mk.injEq,DataW.slice.injEq] at hx;obtain ⟨⟨hx1,hx2⟩,_⟩:=hx;subst hx1;have hlen:el.length=len:=hel;have hcell:=Kf (P:=P) (W:=W) (a:=a) rfl el 0 (v::vs) (fun i hi=> by rw [Nat.zero_add];exact helem i (by omega)) hf;simp only [Nat.zero_mul,Nat.zero_add] at hcell;have h00:=hcell 0 (by simp);have ha0:a.add 0=a:=by simp [Addr.add]
         rw [ha0] at h00;obtain ⟨ea,c2,ty2,fr2,hh2,hc2⟩:=Sm h00;obtain ⟨b,o,sp⟩:=a;cases ea;have hv:∀i,i < (v::vs).length→c2[o+i]? =(v::vs)[i]?:=fun i hi=> by
          rw [←hcell i hi,Bh]
          simp [World.cell?,hh2]
         rcases List.mem_cons.1 h with e1 | e1
         · cases e1;rw [List.length_map,hlen];exact .ts t b o len cap cs ty fr hh hcs
         · rcases List.mem_cons.1 e1 with e1 | e1
           · cases e1;exact .tab (v::vs) b o len cap cs ty fr hh hcs c2 ty2 fr2 hh2 hv (by simp)
           · cases e1
     · cases h
   · cases h
 · split at h
   · rename_i ms hu;obtain ⟨v,hc,hv⟩:=Pd hu htr;rcases List.mem_cons.1 h with e1 | e1
     · cases e1;exact .un t v cs ty fr hh hc hv
     · cases e1
   · cases h
 · split at h
   · rename_i vs hf;rcases List.mem_cons.1 h with e1 | e1
     · cases e1;exact .row t vs cs ty fr hh (Hk hf htr)
     · cases e1
   · cases h
theorem Qp {l:List (String × DataW Unit)} (hl:laidMet P l W) {gs:List Nat} (hg:l.map (fun x=> P.globalNamed x.1)=gs.map some) {base:Nat} {H:T AObj} (hH:H=mkH (Cp P base 0 gs l) .leaf) {id:Nat} {ob:AObj} (h:H.get id=some ob):
 ∃j g,gs[j]? =some g∧Told P base j g W id ob:=by
 subst hH;rcases Qu h with h1 | h1
 · obtain ⟨j,g,x,k1,k2,k3⟩:=Hi h1;rw [Nat.zero_add] at k3;obtain ⟨t,cs,ty,fr,fuel,p,m1,m2,m3⟩:=Uh hl hg k1 k2;exact ⟨j,g,k1,Uc m1 m2 m3 k3⟩
 · rw [T.get_leaf] at h1;cases h1
theorem Gr (ρ:Env):∀l:List Value,Bv ρ (l.map .c) l
 | []=> trivial
 | v::l=> ⟨rfl,Gr ρ l⟩
theorem Lx {E:Kn} {H:T AObj} {l:List (String × DataW Unit)} {gs:List Nat} {base n:Nat} {lg:Lg} (hl:laidMet P l W) (hg:l.map (fun x=> P.globalNamed x.1)=gs.map some) (hlt:gs.all (fun g=> Nat.blt g base)=true)
 (hH:H=mkH (Cp P base 0 gs l) .leaf) (hB:Base E H) (hgl:∀g,E.gl g=true→Og (H.get g)=true):Rel E W.heap.size W (Cg W base gs H) (Be (.mk H n lg)) W:=by
 have lt:∀ (j g:Nat),gs[j]? =some g→g < base:=fun j g hj=> by
  rw [List.all_eq_true] at hlt;exact Nat.le_of_ble_eq_true (hlt g (List.mem_of_getElem? hj))
 -- a table's number stands for its place
 have tabAt:∀ (j g b o len k:Nat) (c:Array Value) (ty:TypeId) (fr:Nat × Nat) (cells:List AC),gs[j]? =some g→W.heap[g]? =some (.cells c ty fr)→c.toList= [.slice (some ⟨b,o,none⟩) len k]→H.get (base+j)=some (.tab cells)→
  Cg W base gs H (base+j)=some (b,o):=fun j g b o len k c ty fr cells h1 h2 h3 h4=> by
  unfold Cg;rw [h4];simp only [Nat.add_sub_cancel_left,h1];have h5:W.cell? ⟨g,0,none⟩=some (.slice (some ⟨b,o,none⟩) len k):=by
   have:c[0]? =some (Value.slice (some ⟨b,o,none⟩) len k):=by rw [←Array.getElem?_toList,h3];rfl
   simp [World.cell?,h2,this]
  rw [h5]
 have key:∀id ob,H.get id=some ob→ob.old=true∧∃b n,Cg W base gs H id=some (b,n)∧It (Cg W base gs H) n ob W.heap[b]?∧(Og (some ob)=true→b=id):=by
  intro id ob h;obtain ⟨j,g,hj,ht⟩:=Qp hl hg hH h;have rowEnv:∀ (t:TypeId) (cells:List AC) (c:Array Value) (ty:TypeId) (fr:Nat × Nat),H.get g=some (.row t cells .ro)→W.heap[g]? =some (.cells c ty fr)→Cg W base gs H g=some (g,c.size):=fun t cells c ty fr h1 h2=> by
   unfold Cg;rw [h1];simp [h2]
  have rowReal:∀ (t:TypeId) (cells:List AC) (c:Array Value) (ty:TypeId) (fr:Nat × Nat),W.heap[g]? =some (.cells c ty fr)→Bv (Cg W base gs H) cells c.toList→It (Cg W base gs H) c.size (.row t cells .ro) W.heap[g]?:=fun t cells c ty fr h1 h2=> by
   rw [h1];exact ⟨c.toList,fr,ty,by simp,(fun e=> absurd rfl e),(fun e=> absurd rfl e),by simp,(fun e=> by cases e), [],c.toList,by simp,h2⟩
  cases ht with
  | row t vs c ty fr h1 h2=> exact ⟨rfl,_,c.size,rowEnv _ _ _ _ _ h h1,rowReal _ _ _ _ _ h1 (by rw [h2];exact Gr _ _),fun _=> rfl⟩
  | un t v c ty fr h1 h2 h3=> exact ⟨rfl,_,c.size,rowEnv _ _ _ _ _ h h1,rowReal _ [.un] _ _ _ h1 (by rw [h2];exact ⟨h3,trivial⟩),fun _=> rfl⟩
  | ts t b o len k c ty fr h1 h2=>
   refine ⟨rfl,_,c.size,rowEnv _ _ _ _ _ h h1,rowReal _ _ _ _ _ h1 ?_,fun _=> rfl⟩;rw [h2];refine ⟨⟨b,o,k,?_,rfl⟩,trivial⟩;have hok:=T.allB_get hB.ok h;simp only [Qq,List.all_cons,List.all_nil,Bool.and_true,Ip] at hok;cases hx:H.get (base+j) with
   | none=> rw [hx] at hok;cases hok
   | some ob'=>
    obtain ⟨j',g',hj',ht'⟩:=Qp hl hg hH hx;have hlt':=lt j' g' hj';generalize hid:base+j=id' at ht';cases ht' with
    | row=> omega
    | un=> omega
    | ts=> omega
    | tab vs b' o' len' k' c' ty' fr' m1 m2=>
     have:j'=j:=by omega
     subst this;exact tabAt j' _ b o len k c ty fr _ hj h1 h2 hx
  | tab vs b o len k c ty fr h1 h2 c2 ty2 fr2 h3 h4 h5=>
   refine ⟨rfl,b,o,tabAt j _ b o len k c ty fr _ hj h1 h2 h,?_,fun e=> by cases e⟩;rw [h3];have hlen:o+vs.length≤c2.size:=by
    have:=h4 (vs.length - 1) (by omega);rw [List.getElem?_eq_getElem (by omega)] at this;have:=(Array.getElem?_eq_some_iff.1 this).1
    omega
   refine ⟨c2.toList.take o,vs,c2.toList.drop (o+vs.length),ty2,fr2,?_,by simp;omega,Gr _ _⟩
   congr 2
   apply Array.ext'
   simp only [List.toList_toArray]
   apply List.ext_getElem?
   intro i;rw [List.getElem?_append,List.length_take];have e1:min o c2.toList.length=o:=by simp;omega
   rw [e1]
   by_cases hi:i < o
   · rw [if_pos hi,List.getElem?_take,if_pos hi]
   · rw [if_neg hi,List.getElem?_append]
     by_cases hi2:i - o < vs.length
     · rw [if_pos hi2,←h4 _ hi2,show o+(i - o)=i by omega];simp
     · rw [if_neg hi2,List.getElem?_drop];congr 1;omega
 refine ⟨Below.refl _ _,Nat.le_refl _,fun id ob hi hd=> ?_,fun i j oi oj b m m' _ hi _ ho=> ?_,fun id p hp=> ?_,fun g hg'=> ?_,fun id ob hi=> ?_⟩
 · obtain ⟨h1,b,k,h2,h3,_⟩:=key id ob hi;exact ⟨b,k,h2,.inl h1,h3⟩
 · rw [(key i oi hi).1] at ho;cases ho
 · intro hn;have hn:H.get id=none:=hn;unfold Cg at hp;rw [hn] at hp;cases hp
 · have hr:=hgl g hg';cases hx:H.get g with
   | none=> rw [hx] at hr;cases hr
   | some ob=>
    obtain ⟨_,b,k,h2,_,h3⟩:=key g ob hx;rw [hx] at hr;have:=h3 hr;subst this;exact ⟨k,h2⟩
 · rw [hB.h0] at hi;exact ⟨hi,(key id ob hi).1⟩
end
end Go.Ev
namespace Go.Ev
open Go.RowKit
abbrev Uq:=List (FuncId × (Array Value→Sem Value))
def Qx (P:Program):Uq→FuncId→Option (List Value→Option Value)
 | [],_=> none
 | q::t,f=> match Nat.beq q.1 f with
  | true=> some fun vs=> Ay P (q.2 vs.toArray)
  | false=> Qx P t f
def Lk (P:Program) (f:FuncId) (e:Array Value→Sem Value):Prop:=∀args w,(callFunc f args).run P w=((e args).run P w).andThen fun v w'=> .ok (.value v) w'
def No (P:Program):Uq→Prop
 | []=> True
 | q::t=> Lk P q.1 q.2∧No P t
def AllF (p:FuncId→Prop):List FuncId→Prop
 | []=> True
 | f::l=> p f∧AllF p l
theorem AllF.of {p:FuncId→Prop}:∀ {l:List FuncId},AllF p l→∀f,l.any (Nat.beq f)=true→p f
 | [],_,f,h=> by cases h
 | a::l,h,f,hf=> by
  rw [List.any_cons,Bool.or_eq_true] at hf;rcases hf with e | e
  · have:=Nat.eq_of_beq_eq_true e;subst this;exact h.1
  · exact AllF.of h.2 f e
theorem Om {P:Program}:∀ {t:Uq},No P t→∀f g vs v,Qx P t f=some g→g vs=some v→∀w,(callFunc f vs.toArray).run P w=.ok (.value v) w
 | [],_,f,g,vs,v,h,_,w=> by cases h
 | q::t,ht,f,g,vs,v,h,hg,w=> by
  unfold Qx at h
  split at h
  · rename_i hb;cases h;have:=Nat.eq_of_beq_eq_true hb;subst this;rw [ht.1,Br hg]
    rfl
  · exact Om ht.2 f g vs v h hg w
structure Doors where
 ext:Uq
 fb:List FuncId
 ff:List FuncId
 same:List FuncId
 mkNo:List FuncId
 byte:TypeId
noncomputable def Doors.kn (D:Doors) (P:Program) (H:T AObj):Kn where
 ext:=Qx P D.ext
 fb:=fun f=> D.fb.any (Nat.beq f)
 ff:=fun f=> D.ff.any (Nat.beq f)
 same:=fun f=> D.same.any (Nat.beq f)
 mkNo:=fun f=> bif D.mkNo.any (Nat.beq f) then some D.byte else none
 kn:=fun _=> none
 h0:=H.get
 gl:=fun g=> Og (H.get g)
theorem Doors.ok {D:Doors} {P:Program} (H:T AObj) (h1:No P D.ext) (h2:AllF (fun f=> Lk P f Extern.MathFloatBits.float64bits) D.fb) (h3:AllF (fun f=> Lk P f Extern.MathFloatBits.float64frombits) D.ff)
 (h4:AllF (fun f=> Lk P f Extern.AbiNoEscape.same) D.same) {t:TypeId} (ht:P.underlying t=some (.slice D.byte)) (h5:AllF (fun f=> ∃ps,Lk P f (Extern.BytealgMakeNoZero.makeNoZero ps #[t])) D.mkNo):KnOk P (D.kn P H):=by
 refine ⟨Om h1,fun f hf b w=> ?_,fun f hf n w=> ?_,fun f hf v w=> ?_,fun f e hf n hn w=> ?_,fun f g vs v h=> by cases h⟩
 · rw [h2.of f hf];rfl
 · rw [h3.of f hf];rfl
 · rw [h4.of f hf];rfl
 · have hf:(bif D.mkNo.any (Nat.beq f) then some D.byte else none)=some e:=hf;cases ha:D.mkNo.any (Nat.beq f) with
   | false=> rw [ha] at hf;cases hf
   | true=>
    rw [ha] at hf;cases hf;obtain ⟨ps,hx⟩:=h5.of f ha;obtain ⟨cs,k1,k2,_⟩:=Lib.run_makeNoZero (P:=P) w ps t D.byte ht n (by omega);exact ⟨cs,cs.size,by rw [hx,k1];rfl,k2,rfl⟩
theorem Doors.base {D:Doors} {P:Program} {H:T AObj} (h:T.allB (Qq H) H=true):Base (D.kn P H) H:=by
 refine ⟨rfl,fun g hg=> ?_,h⟩;have hg:Og (H.get g)=true:=hg;cases hx:H.get g with
 | none=> rw [hx] at hg;cases hg
 | some ob=> exact ⟨ob,rfl⟩
theorem Base.with {E:Kn} {H:T AObj} (h:Base E H) (t:KT):Base (E.with t) H:=⟨h.h0,h.gl,h.ok⟩
theorem Cl {P:Program} {E:Kn} {H:T AObj} {t:KT} (hm:P.follows .mixedOrders=true) (hE:KnOk P E) (hB:Base E H) (ht:KnowsAll P E t) {K d n:Nat} {f:FuncId} {args:List Value} {v:Value}
 (h:Ux (Lc P (E.with t) K d f (args.map Gw) (.mk H n .leaf)) v=true):Ee P E f args v:=
 fun B0 w0 ρ G w hR=> My hm (hE.with ht) (hB.with t) h B0 w0 ρ G w hR.kn'
theorem Mx {P:Program} {E:Kn} {H:T AObj} {W:World} {l:List (String × DataW Unit)} {gs:List Nat} {base:Nat} (hl:laidMet P l W) (hg:l.map (fun x=> P.globalNamed x.1)=gs.map some) (hlt:gs.all (fun g=> Nat.blt g base)=true)
 (hH:H=mkH (Cp P base 0 gs l) .leaf) (hB:Base E H) (hgl:∀g,E.gl g=true→Og (H.get g)=true) {f:FuncId} {args:List Value} {v:Value} (h:Ee P E f args v):
 Calls P f args.toArray W fun e w'=> e=.returned v∧Below W.heap.size W w':=
 h W.heap.size W _ _ W (Lx (n:=0) (lg:=.leaf) hl hg hlt hH hB hgl)
theorem Fq {P:Program} {l:List (String × DataW Unit)} {w:World} (h:laidMetH P l w) (hn:(l.filter fun x=> x.2.handleName?.isSome).isEmpty=true):laidMet P l w:=by
 unfold laidMetH at h
 split at h
 · exact h
 · rename_i e;rw [e] at hn;cases hn
end Go.Ev
namespace Go.Ev
open Go.ChangeShapes Go.WideShapes Go.ChangeAt Go.RowKit Go.Joins
section
variable {H:Type} {enc:TypeId × Value→H} {P:Program} {W:World} {base:Nat} {sp:Nat→Bool} {held:Bool}
end
end Go.Ev
namespace Go.Ev
open Go.RowKit
section
variable {H:T AObj} {ρ:Env}
end
section
variable {P:Program} {E:Kn} {H0:T AObj} {cf:Co} {fn:Func}
end
end Go.Ev
namespace Go.Ev
open Go.RowKit
section
variable {P:Program} {E:Kn} {H0:T AObj} {cf:Co} {fn:Func}
end
end Go.Ev
namespace Go.Ev
open Go.RowKit
section
variable {ρ ρ1 ρ2:Env}
end
section
variable {P:Program} {E:Kn} {H0:T AObj}
end
end Go.Ev
