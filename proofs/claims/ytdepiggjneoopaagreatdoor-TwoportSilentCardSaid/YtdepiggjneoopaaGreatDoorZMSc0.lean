/- a part of the proof of the last text -/
import Derived.Test.YtdepiggjneoopaaGreatDoorZReal0
namespace Go.Proofs.YtdepiggjneoopaaGreatDoor
set_option linter.all false
set_option maxHeartbeats 4000000
set_option maxRecDepth 100000
section
open Go.RowKit
structure RenM (f:ByteArray→ByteArray) (P:ByteArray→Prop) (l m:List El):Prop where
 len:m.length=l.length
 el:∀ (k:Nat) (x y:El),l[k]? =some x→m[k]? =some y→y.kind=x.kind∧(x.kind≠4→x.kind≠5→y.val=x.val)∧y.a=f x.a∧y.b=f x.b∧y.c=f x.c∧y.d=f x.d
 mem:∀x∈l,P x.a∧P x.b∧P x.c∧P x.d
 inj:∀s t,P s→P t→((f s).toList==(f t).toList)=(s.toList==t.toList)
 gd:∀s,P s→gnd (f s)=gnd s
 u1:Uniq l
 u2:Uniq m
 c1:∀x∈l,zAv x=0
 c2:∀x∈m,zAv x=0
section
variable {f:ByteArray→ByteArray} {P:ByteArray→Prop} {l m:List El}
theorem has_ren (hi:∀s t,P s→P t→((f s).toList==(f t).toList)=(s.toList==t.toList)) {s:ByteArray} (hs:P s):∀ {acc:List ByteArray},(∀t∈acc,P t)→has (acc.map f) (f s)=has acc s
 | [],_=> rfl
 | t::r,h=> by
  have ih:=has_ren hi hs (acc:=r) fun u hu=> h u (by simp [hu])
  unfold has at ih⊢;rw [List.map_cons,List.any_cons,List.any_cons,hi t s (h t (by simp)) hs,ih]
theorem idx_ren (hi:∀s t,P s→P t→((f s).toList==(f t).toList)=(s.toList==t.toList)) {s:ByteArray} (hs:P s):∀ {acc:List ByteArray},(∀t∈acc,P t)→(acc.map f).findIdx (fun t=> t.toList==(f s).toList)=acc.findIdx (fun t=> t.toList==s.toList)
 | [],_=> rfl
 | t::r,h=> by
  rw [List.map_cons,List.findIdx_cons,List.findIdx_cons,hi t s (h t (by simp)) hs,idx_ren hi hs fun u hu=> h u (by simp [hu])]
theorem plI_ren (hi:∀s t,P s→P t→((f s).toList==(f t).toList)=(s.toList==t.toList)) {s:ByteArray} (hs:P s) {acc:List ByteArray} (h:∀t∈acc,P t):plI (acc.map f) (f s)=plI acc s:=by
 unfold plI;rw [has_ren hi hs h,idx_ren hi hs h]
theorem nd1_ren (hi:∀s t,P s→P t→((f s).toList==(f t).toList)=(s.toList==t.toList)) (hg:∀s,P s→gnd (f s)=gnd s) {s:ByteArray} (hs:P s) {acc:List ByteArray} (h:∀t∈acc,P t):
 nd1 (acc.map f) (f s)=(nd1 acc s).map f∧∀t∈nd1 acc s,P t:=by
 unfold nd1;rw [hg s hs,has_ren hi hs h]
 split
 · exact ⟨rfl,h⟩
 · refine ⟨by simp,fun t ht=> ?_⟩;rcases List.mem_append.1 ht with h1 | h1
   · exact h t h1
   · obtain rfl:=List.mem_singleton.1 h1;exact hs
theorem nd4_ren (hi:∀s t,P s→P t→((f s).toList==(f t).toList)=(s.toList==t.toList)) (hg:∀s,P s→gnd (f s)=gnd s) {x y:El} (hx:P x.a∧P x.b∧P x.c∧P x.d) (hy:y.a=f x.a∧y.b=f x.b∧y.c=f x.c∧y.d=f x.d)
 {acc:List ByteArray} (h:∀t∈acc,P t):nd4 (acc.map f) y=(nd4 acc x).map f∧∀t∈nd4 acc x,P t:=by
 unfold nd4 fr;simp only [List.foldl_cons,List.foldl_nil,hy];obtain ⟨a1,a2⟩:=nd1_ren hi hg hx.1 h;obtain ⟨b1,b2⟩:=nd1_ren hi hg hx.2.1 a2;obtain ⟨c1,c2⟩:=nd1_ren hi hg hx.2.2.1 b2;obtain ⟨d1,d2⟩:=nd1_ren hi hg hx.2.2.2 c2;exact ⟨by rw [a1,b1,c1,d1],d2⟩
theorem nds_push1 (l:List El) (x:El):nds (l++ [x])=nd4 (nds l) x:=by unfold nds;rw [List.foldl_append];rfl
theorem RenM.take (h:RenM f P l m):∀k,k≤l.length→nds (m.take k)=(nds (l.take k)).map f∧∀t∈nds (l.take k),P t
 | 0,_=> ⟨by simp [nds],by simp [nds]⟩
 | k+1,hk=> by
  obtain ⟨h1,h2⟩:=h.take k (by omega);have hx:l[k]? =some l[k]:=List.getElem?_eq_getElem (by omega);have hy:m[k]? =some (m[k]'(by rw [h.len];omega)):=List.getElem?_eq_getElem (by rw [h.len];omega);rw [List.take_succ_eq_append_getElem (show k < l.length by omega),List.take_succ_eq_append_getElem (show k < m.length by rw [h.len];omega),nds_push1,nds_push1,h1];obtain ⟨_,_,h3⟩:=h.el k _ _ hx hy;exact nd4_ren h.inj h.gd (h.mem _ (List.getElem_mem _)) h3 h2
theorem RenM.nodes (h:RenM f P l m):nds m=(nds l).map f∧∀t∈nds l,P t:=by
 have:=h.take l.length (Nat.le_refl _)
 rwa [List.take_of_length_le (by rw [h.len];exact Nat.le_refl _),List.take_of_length_le (Nat.le_refl _)] at this
theorem isBr_eq {x y:El} (h:y.kind=x.kind):isBr y=isBr x:=by unfold isBr;rw [h]
theorem RenM.brl (h:RenM f P l m):∀k,k≤l.length→(brs (m.take k)).length=(brs (l.take k)).length
 | 0,_=> by simp [brs]
 | k+1,hk=> by
  have hx:l[k]? =some l[k]:=List.getElem?_eq_getElem (by omega);have hy:m[k]? =some (m[k]'(by rw [h.len];omega)):=List.getElem?_eq_getElem (by rw [h.len];omega);rw [brs_take_succ hx,brs_take_succ hy,h.brl k (by omega),isBr_eq (h.el k _ _ hx hy).1]
theorem RenM.bn (h:RenM f P l m):(brs m).length=(brs l).length:=by
 have:=h.brl l.length (Nat.le_refl _)
 rwa [List.take_of_length_le (by rw [h.len];exact Nat.le_refl _),List.take_of_length_le (Nat.le_refl _)] at this
theorem RenM.nn (h:RenM f P l m):(nds m).length=(nds l).length:=by rw [h.nodes.1,List.length_map]
theorem RenM.sz (h:RenM f P l m):szL m=szL l:=by unfold szL;rw [h.nn,h.bn]
theorem RenM.hasN (h:RenM f P l m) {s:ByteArray} (hs:P s):has (nds m) (f s)=has (nds l) s:=by rw [h.nodes.1];exact has_ren h.inj hs h.nodes.2
theorem RenM.plN (h:RenM f P l m) {s:ByteArray} (hs:P s):plI (nds m) (f s)=plI (nds l) s:=by rw [h.nodes.1];exact plI_ren h.inj hs h.nodes.2
theorem RenM.row (h:RenM f P l m) {s:ByteArray} (hs:P s):rowI m (f s)=rowI l s:=by unfold rowI;rw [h.hasN hs,h.plN hs]
theorem RenM.br (h:RenM f P l m) {k:Nat} {x y:El} (hx:l[k]? =some x) (hy:m[k]? =some y) (hb:isBr x=true):plI (brs m) y.name=plI (brs l) x.name:=by
 have hk:=(List.getElem?_eq_some_iff.1 hx).1;rw [(br_index h.u1 hx hb).2,(br_index h.u2 hy (by rw [isBr_eq (h.el k _ _ hx hy).1];exact hb)).2,h.brl k (by omega)]
theorem RenM.brI (h:RenM f P l m) {k:Nat} {x y:El} (hx:l[k]? =some x) (hy:m[k]? =some y) (hb:isBr x=true):brI m y.name=brI l x.name:=by
 unfold Go.Proofs.YtdepiggjneoopaaGreatDoor.brI;rw [h.nn,h.br hx hy hb]
theorem adm_same {x y:El} (om:Nat) (hk:y.kind=x.kind) (hv:x.kind≠4→x.kind≠5→y.val=x.val) (hx:zAv x=0) (hy:zAv y=0):admS y om=admS x om:=by
 unfold admS mayE admB isAd;rw [hk,hx,hy]
 by_cases h4:x.kind=4
 · rw [h4]
   by_cases ha:angE om=0
   · rw [if_pos ha];rfl
   · rw [if_neg ha,if_neg ha,if_neg ha]
 · by_cases h5:x.kind=5
   · rw [h5]
     by_cases ha:angE om=0
     · rw [if_pos ha];rfl
     · rw [if_neg ha,if_neg ha,if_neg ha]
   · rw [hv h4 h5]
theorem RenM.st (h:RenM f P l m) {k:Nat} {x y:El} (hx:l[k]? =some x) (hy:m[k]? =some y) (z:Cx):stOf m y z=stOf l x z:=by
 obtain ⟨e1,e2,e4,e5,e6,e7⟩:=h.el k x y hx hy;obtain ⟨p1,p2,p3,p4⟩:=h.mem x (List.mem_of_getElem? hx);unfold stOf isAd;rw [e1,e4,e5,e6,e7,h.row p1,h.row p2,h.row p3,h.row p4];have e2':x.kind=6∨x.kind=7→y.val=x.val:=fun hk=> e2 (by omega) (by omega)
 by_cases h6:x.kind=6
 · rw [e2' (.inl h6),if_pos h6,if_pos h6]
 · rw [if_neg h6,if_neg h6]
   by_cases h5:x.kind=5
   · rw [h.brI hx hy (by unfold isBr;rw [h5];rfl),if_pos h5,if_pos h5]
   · rw [if_neg h5,if_neg h5]
     by_cases h7:x.kind=7
     · rw [h.brI hx hy (by unfold isBr;rw [h7];rfl),e2' (.inr h7)]
     · rw [if_neg h7,if_neg h7]
theorem RenM.step (h:RenM f P l m) {k:Nat} {x y:El} (hx:l[k]? =some x) (hy:m[k]? =some y) (om:Nat) (q:Nat→Cx):zBd m om q y=zBd l om q x:=by
 obtain ⟨e1,e2,_⟩:=h.el k x y hx hy;have ha:=adm_same om e1 e2 (h.c1 x (List.mem_of_getElem? hx)) (h.c2 y (List.mem_of_getElem? hy));unfold zBd;rw [ha,h.st hx hy,h.sz];unfold isAd;rw [e1]
theorem RenM.get (h:RenM f P l m) (k:Nat):(l[k]? =none∧m[k]? =none)∨∃x y,l[k]? =some x∧m[k]? =some y:=by
 by_cases hk:k < l.length
 · exact .inr ⟨_,_,List.getElem?_eq_getElem hk,List.getElem?_eq_getElem (by rw [h.len];exact hk)⟩
 · exact .inl ⟨List.getElem?_eq_none (by omega),List.getElem?_eq_none (by rw [h.len];omega)⟩
theorem RenM.mat (h:RenM f P l m) (om:Nat):∀k,matK m om k=matK l om k
 | 0=> rfl
 | k+1=> by
  have ih:=h.mat om k;rcases h.get k with ⟨h1,h2⟩ | ⟨x,y,h1,h2⟩
  · unfold matK;rw [h1,h2];exact ih
  · rw [zCi h1,zCi h2,ih,h.step h1 h2]
theorem RenM.matR (h:RenM f P l m) (om:Nat):∀ (j k:Nat) (q:Nat→Cx),k+j=l.length→matR m om k (m.drop k) q=matR l om k (l.drop k) q
 | 0,k,q,hk=> by
  rw [List.drop_eq_nil_of_le (by rw [h.len];omega),List.drop_eq_nil_of_le (by omega)];rfl
 | j+1,k,q,hk=> by
  have hl:k < l.length:=by omega
  have hm:k < m.length:=by rw [h.len];exact hl
  rw [List.drop_eq_getElem_cons hl,List.drop_eq_getElem_cons hm];unfold Go.Proofs.YtdepiggjneoopaaGreatDoor.matR;rw [h.step (List.getElem?_eq_getElem hl) (List.getElem?_eq_getElem hm)]
  split
  · exact h.matR om j (k+1) _ (by omega)
  · rfl
theorem RenM.matS (h:RenM f P l m) (b:Bool) (om:Nat):matS b m om=matS b l om:=by
 have h1:=h.matR om l.length 0 (fun _=> cZero) (by omega);rw [List.drop_zero,List.drop_zero] at h1;unfold Go.Proofs.YtdepiggjneoopaaGreatDoor.matS;rw [h1,h.sz]
theorem RenM.put (h:RenM f P l m) {s:ByteArray} (hs:P s) (r:Nat→Cx) (g:Cx→Cx):putS m r (f s) g=putS l r s g:=by
 unfold putS;rw [h.hasN hs,h.plN hs]
theorem RenM.gx (h:RenM f P l m) {s:ByteArray} (hs:P s):gIx m (f s)=gIx l s:=by
 unfold gIx;rw [h.hasN hs,h.plN hs]
theorem RenM.up (h:RenM f P l m):∀k,upK m k=upK l k
 | 0=> by unfold upK;rw [h.nn]
 | k+1=> by
  have ih:=h.up k;unfold upK;rcases h.get k with ⟨h1,h2⟩ | ⟨x,y,h1,h2⟩
  · rw [h1,h2];exact ih
  · obtain ⟨e1,_,e4,e5,_⟩:=h.el k x y h1 h2;obtain ⟨p1,p2,_⟩:=h.mem x (List.mem_of_getElem? h1);rw [h1,h2];show (if joinsE y=true then joinU (upK m k) (gIx m y.a) (gIx m y.b) else upK m k)=if joinsE x=true then joinU (upK l k) (gIx l x.a) (gIx l x.b) else upK l k;rw [ih,e4,e5,h.gx p1,h.gx p2];unfold joinsE;rw [e1]
theorem RenM.grd (h:RenM f P l m) (b:Bool):grdS b m=grdS b l:=by
 unfold grdS grdU;rw [h.nn,h.len,h.up]
theorem RenM.withS (h:RenM f P l m) (b:Bool) (om:Nat) (r:List Cx):zCu b m om r=zCu b l om r:=by
 unfold zCu;rw [h.sz,h.grd,h.matS,h.len,h.mat]
end
end
section
open Go.RowKit
def vX (l:List El) (x:Nat→Cx) (s:ByteArray):Cx:=if has (nds l) s=true then x (plI (nds l) s).toNat else (fc 0,fc 0)
def aX (l:List El) (x:Nat→Cx) (e:El):Cx:=csub (vX l x e.a) (vX l x e.b)
def drvK (l:List El) (e:El):Nat→Cx:=(putS l (putS l (fun _=> (fc 0,fc 0)) e.a fun z=> cadd z (fone,fc 0)).1 e.b fun z=> csub z (fone,fc 0)).1
def colT (l:List El) (om:Nat) (e:El):Option (Nat→Cx) × (Int × Int):=zCu false l om ((List.range (szL l)).map (drvK l e))
def colA (l:List El) (om:Nat) (d e g:El):Option (Cx × Cx) × (Int × Int):=
 match colT l om d with
 | (none,f)=> (none,f)
 | (some x,_)=> if cfin (aX l x e)=true∧cfin (aX l x g)=true then (some (aX l x e,aX l x g),(0,0)) else (none,(6,-1))
def twS (b:Bool) (l:List El) (p q:ByteArray) (om:Nat):List Cx × (Int × Int):=
 if askS b om≠0 then ([],plain (askS b om))
 else match zBs l p,zBs l q with
  | some e,some g=> if e.kind≠8∨g.kind≠8∨p.toList=q.toList then ([],(2,-1))
   else match colA l om e e g with
    | (none,f)=> ([],f)
    | (some u,_)=> match colA l om g e g with
     | (none,f)=> ([],f)
     | (some v,_)=> ([u.1,v.1,u.2,v.2],(0,0))
  | _,_=> ([],(10,-1))
theorem drv_z (l:List El) (e:El):Rl (drvK l e):=putS_z (putS_z (fun _=> fz0) fun z hz=> cadd_z hz fz0) fun z hz=> csub_z hz fz0
theorem aX_z {l:List El} {x:Nat→Cx} {e:El} (hx:∀i,i < szL l→fz (x i).2=true):fz (aX l x e).2=true:=by
 have h:∀s,fz (vX l x s).2=true:=fun s=> by
  unfold vX
  split
  · rename_i h;refine hx _ ?_;have h1:=rowI_lt l s;have h2:=rowI_ge l s;unfold rowI at h1 h2;rw [if_pos h] at h1 h2;have h3:0≤plI (nds l) s:=by unfold plI;rw [if_pos h];omega
    unfold szL
    omega
  · exact fz0
 exact csub_z (h _) (h _)
theorem colA_z {l:List El} {om:Nat} {d e g:El} {u:Cx × Cx} {f:Int × Int} (hl:∀x∈l,ReK x) (h:colA l om d e g=(some u,f)):fz u.1.2=true∧fz u.2.2=true:=by
 unfold colA at h
 split at h
 · cases h
 · rename_i x f2 hx
   split at h
   · obtain rfl:=(Prod.mk.inj h).1 |> Option.some.inj;have hz:=with_z hl (fun z hz=> by obtain ⟨i,_,rfl⟩:=List.mem_map.1 hz;exact drv_z l d i) hx;exact ⟨aX_z hz,aX_z hz⟩
   · cases h
theorem tw_real {b:Bool} {l:List El} {p q:ByteArray} {om:Nat} (hl:∀x∈l,ReK x):∀z∈ (twS b l p q om).1,fz z.2=true:=by
 unfold twS
 split
 · intro z hz;cases hz
 · split
   · split
     · intro z hz;cases hz
     · split
       · intro z hz;cases hz
       · rename_i u f1 hu
         split
         · intro z hz;cases hz
         · rename_i v f2 hv;obtain ⟨h1,h2⟩:=colA_z hl hu;obtain ⟨h3,h4⟩:=colA_z hl hv;intro z hz;simp only [List.mem_cons,List.not_mem_nil,or_false] at hz;rcases hz with rfl | rfl | rfl | rfl <;> assumption
   · intro z hz;cases hz
section
variable {P:ByteArray→Prop} {l m:List El}
theorem find_both:∀ {l m:List El} {s:ByteArray},m.length=l.length→(∀ (k:Nat) (x y:El),(l:List El)[k]? =some x→m[k]? =some y→y.name=x.name)→
 (zBs l s=none∧zBs m s=none)∨∃ (k:Nat) (x y:El),l[k]? =some x∧m[k]? =some y∧zBs l s=some x∧zBs m s=some y
 | [], [],_,_,_=> .inl ⟨rfl,rfl⟩
 | [],_::_,_,h,_=> by simp at h
 | _::_, [],_,h,_=> by simp at h
 | x::l,y::m,s,h,hn=> by
  have h0:y.name=x.name:=hn 0 x y rfl rfl;unfold zBs;rw [List.find?_cons,List.find?_cons,h0];cases hx:(x.name.toList==s.toList) with
  | true=> exact .inr ⟨0,x,y,rfl,rfl,rfl,rfl⟩
  | false=>
   rcases find_both (l:=l) (m:=m) (s:=s) (by simpa using h) (fun k a b ha hb=> hn (k+1) a b (show (x::l)[k+1]? =some a by simpa using ha) (show (y::m)[k+1]? =some b by simpa using hb)) with h1 | ⟨k,a,b,h1,h2,h3,h4⟩
   · exact .inl h1
   · exact .inr ⟨k+1,a,b,by simpa using h1,by simpa using h2,h3,h4⟩
theorem RenM.vX (h:RenM id P l m) {s:ByteArray} (hs:P s) (x:Nat→Cx):vX m x s=vX l x s:=by
 have h1:=h.hasN hs;have h2:=h.plN hs;dsimp only [id] at h1 h2;unfold Go.Proofs.YtdepiggjneoopaaGreatDoor.vX;rw [h1,h2]
theorem RenM.aX (h:RenM id P l m) {k:Nat} {e g:El} (he:l[k]? =some e) (hg:m[k]? =some g) (x:Nat→Cx):aX m x g=aX l x e:=by
 obtain ⟨_,_,e4,e5,_⟩:=h.el k e g he hg;obtain ⟨p1,p2,_⟩:=h.mem e (List.mem_of_getElem? he);unfold Go.Proofs.YtdepiggjneoopaaGreatDoor.aX;rw [e4,e5];dsimp only [id];rw [h.vX p1,h.vX p2]
theorem RenM.drv (h:RenM id P l m) {k:Nat} {e g:El} (he:l[k]? =some e) (hg:m[k]? =some g):drvK m g=drvK l e:=by
 obtain ⟨_,_,e4,e5,_⟩:=h.el k e g he hg;obtain ⟨p1,p2,_⟩:=h.mem e (List.mem_of_getElem? he);have q1:∀r f,putS m r e.a f=putS l r e.a f:=fun r f=> h.put p1 r f
 have q2:∀r f,putS m r e.b f=putS l r e.b f:=fun r f=> h.put p2 r f
 unfold drvK;rw [e4,e5];dsimp only [id];rw [q1,q2]
theorem RenM.colA (h:RenM id P l m) {k i j:Nat} {d e g d' e' g':El} (om:Nat) (hd:l[k]? =some d) (hd':m[k]? =some d') (he:l[i]? =some e) (he':m[i]? =some e') (hg:l[j]? =some g) (hg':m[j]? =some g'):
 colA m om d' e' g'=colA l om d e g:=by
 have h1:colT m om d'=colT l om d:=by
  unfold colT;rw [h.sz,h.drv hd hd',h.withS]
 unfold Go.Proofs.YtdepiggjneoopaaGreatDoor.colA;rw [h1];cases colT l om d with
 | mk o f=>
  cases o with
  | none=> rfl
  | some x=>
   dsimp only;rw [h.aX he he',h.aX hg hg']
theorem RenM.two (h:RenM id P l m) (hn:∀ (k:Nat) (x y:El),l[k]? =some x→m[k]? =some y→y.name=x.name) (b:Bool) (p q:ByteArray) (om:Nat):twS b m p q om=twS b l p q om:=by
 unfold twS;rcases find_both (s:=p) h.len hn with ⟨h1,h2⟩ | ⟨k,e,e',h1,h2,h3,h4⟩
 · rw [h1,h2]
 · rcases find_both (s:=q) h.len hn with ⟨g1,g2⟩ | ⟨j,g,g',g1,g2,g3,g4⟩
   · rw [h3,h4,g1,g2]
   · rw [h3,h4,g3,g4];dsimp only;rw [(h.el k e e' h1 h2).1,(h.el j g g' g1 g2).1,h.colA om h1 h2 h1 h2 g1 g2,h.colA om g1 g2 h1 h2 g1 g2]
end
theorem colA_ways (l:List El) (om:Nat):(∃f,f≠ (0,0)∧∀d e g,colA l om d e g=(none,f))∨∀d e g,(∃u,colA l om d e g=(some u,(0,0)))∨colA l om d e g=(none,(6,-1)):=by
 have dV:∀d,((List.range (szL l)).map (drvK l d)).all cfin=true:=fun d=> by
  rw [List.all_eq_true];intro z hz;obtain ⟨i,_,rfl⟩:=List.mem_map.1 hz;unfold drvK;have c0:cfin (fc 0,fc 0)=true:=by decide+kernel
  have c1:cfin (cadd (fc 0,fc 0) (fone,fc 0))=true:=by decide+kernel
  have c2:cfin (csub (fc 0,fc 0) (fone,fc 0))=true:=by decide+kernel
  have c3:cfin (csub (cadd (fc 0,fc 0) (fone,fc 0)) (fone,fc 0))=true:=by decide+kernel
  have k1:∀i,(putS l (fun _=> (fc 0,fc 0)) d.a fun z=> cadd z (fone,fc 0)).1 i=(fc 0,fc 0)∨(putS l (fun _=> (fc 0,fc 0)) d.a fun z=> cadd z (fone,fc 0)).1 i=cadd (fc 0,fc 0) (fone,fc 0):=fun i=> by
   unfold putS
   split
   · dsimp only
     by_cases e:i=(plI (nds l) d.a).toNat
     · subst e;rw [zAm];exact .inr rfl
     · rw [zAp _ _ e];exact .inl rfl
   · exact .inl rfl
  generalize (putS l (fun _=> (fc 0,fc 0)) d.a fun z=> cadd z (fone,fc 0)).1=r at *;unfold putS
  split
  · dsimp only
    by_cases e:i=(plI (nds l) d.b).toNat
    · subst e;rw [zAm];rcases k1 (plI (nds l) d.b).toNat with k | k <;> rw [k]
      · exact c2
      · exact c3
    · rw [zAp _ _ e];rcases k1 i with k | k <;> rw [k]
      · exact c0
      · exact c1
  · dsimp only;rcases k1 i with k | k <;> rw [k]
    · exact c0
    · exact c1
 by_cases ha:askS false om=0
 · by_cases h1:grdS false l=(0,0)
   · by_cases h2:(matS false l om).2=(0,0)
     · rcases lowM_ways (szL l) (matK l om l.length) with ⟨f,hf,hf0⟩ | hf
       · refine .inl ⟨f,hf0,fun d e g=> ?_⟩;unfold colA colT zCu;rw [if_neg (fun h=> h ha),if_neg (by simp),if_neg (by rw [dV];simp),if_neg (fun h=> h h1),if_neg (fun h=> h h2),hf]
       · refine .inr fun d e g=> ?_
         have hc:colT l om d=if (zDh (szL l) (esK (szL l) (matK l om l.length) (szL l)) fun i=> ((List.range (szL l)).map (drvK l d)).getD i (0,0)).2=true then (some (zDh (szL l) (esK (szL l) (matK l om l.length) (szL l)) fun i=> ((List.range (szL l)).map (drvK l d)).getD i (0,0)).1,(0,0)) else (none,(6,-1)):=by
          unfold colT zCu;rw [if_neg (fun h=> h ha),if_neg (by simp),if_neg (by rw [dV];simp),if_neg (fun h=> h h1),if_neg (fun h=> h h2),hf]
         unfold colA;rw [hc]
         by_cases hs:(zDh (szL l) (esK (szL l) (matK l om l.length) (szL l)) fun i=> ((List.range (szL l)).map (drvK l d)).getD i (0,0)).2=true
         · rw [if_pos hs];dsimp only
           split
           · exact .inl ⟨_,rfl⟩
           · exact .inr rfl
         · rw [if_neg hs];exact .inr rfl
     · refine .inl ⟨_,h2,fun d e g=> ?_⟩;unfold colA colT zCu;rw [if_neg (fun h=> h ha),if_neg (by simp),if_neg (by rw [dV];simp),if_neg (fun h=> h h1),if_pos h2]
   · refine .inl ⟨_,h1,fun d e g=> ?_⟩;unfold colA colT zCu;rw [if_neg (fun h=> h ha),if_neg (by simp),if_neg (by rw [dV];simp),if_pos h1]
 · refine .inl ⟨plain (askS false om),fun h=> ?_,fun d e g=> ?_⟩
   · unfold plain at h;rw [if_neg ha] at h;exact ha (Prod.mk.inj h).1
   · unfold colA colT zCu;rw [if_pos ha]
theorem colA_turn (l:List El) (om:Nat) (d e g:El):colA l om d g e=((colA l om d e g).1.map fun u=> (u.2,u.1),(colA l om d e g).2):=by
 unfold colA;cases colT l om d with
 | mk o f=>
  cases o with
  | none=> rfl
  | some x=>
   dsimp only
   by_cases h:cfin (aX l x e)=true∧cfin (aX l x g)=true
   · rw [if_pos h,if_pos h.symm];rfl
   · rw [if_neg h,if_neg (fun h2=> h h2.symm)];rfl
theorem tw_turn (b:Bool) (l:List El) (p q:ByteArray) (om:Nat):((twS b l q p om).2.1=(twS b l p q om).2.1)∧((twS b l p q om).2=(0,0)→∃a c d e,(twS b l p q om).1= [a,c,d,e]∧(twS b l q p om).1= [e,d,c,a]):=by
 unfold twS
 by_cases ha:askS b om≠0
 · rw [if_pos ha,if_pos ha];refine ⟨rfl,fun h=> ?_⟩
   exfalso
   unfold plain at h;dsimp only at h;rw [if_neg ha] at h;exact ha (Prod.mk.inj h).1
 · rw [if_neg ha,if_neg ha];cases hp:zBs l p with
   | none=>
    cases hq:zBs l q with
    | none=> exact ⟨rfl,fun h=> by cases (Prod.mk.inj h).1⟩
    | some g=> exact ⟨rfl,fun h=> by cases (Prod.mk.inj h).1⟩
   | some e=>
    cases hq:zBs l q with
    | none=> exact ⟨rfl,fun h=> by cases (Prod.mk.inj h).1⟩
    | some g=>
     dsimp only
     by_cases hk:e.kind≠8∨g.kind≠8∨p.toList=q.toList
     · have iA:g.kind≠8∨e.kind≠8∨q.toList=p.toList:=by
        rcases hk with h | h | h
        · exact .inr (.inl h)
        · exact .inl h
        · exact .inr (.inr h.symm)
       rw [if_pos hk,if_pos iA];exact ⟨rfl,fun h=> by cases (Prod.mk.inj h).1⟩
     · have iA:¬(g.kind≠8∨e.kind≠8∨q.toList=p.toList):=fun h=> hk (by
        rcases h with h | h | h
        · exact .inr (.inl h)
        · exact .inl h
        · exact .inr (.inr h.symm))
       rw [if_neg hk,if_neg iA,colA_turn l om g e g,colA_turn l om e e g];rcases colA_ways l om with ⟨f,hf0,hf⟩ | hw
       · rw [hf,hf];exact ⟨rfl,fun h=> absurd h hf0⟩
       · rcases hw e e g with ⟨u,hu⟩ | hu <;> rcases hw g e g with ⟨v,hv⟩ | hv <;> rw [hu,hv]
         · exact ⟨rfl,fun _=> ⟨_,_,_,_,rfl,rfl⟩⟩
         · exact ⟨rfl,fun h=> by cases (Prod.mk.inj h).1⟩
         · exact ⟨rfl,fun h=> by cases (Prod.mk.inj h).1⟩
         · exact ⟨rfl,fun h=> by cases (Prod.mk.inj h).1⟩
end
section
open Go.RowKit
def drvS (b:Bool) (l:List El) (s:ByteArray):List Cx × (Int × Int):=
 if b=true then ([],(1,-1)) else match zBs l s with
  | some e=> if e.kind=8 then ((List.range (szL l)).map (drvK l e),(0,0)) else ([],(10,-1))
  | none=> ([],(10,-1))
theorem drv_no {l:List El} {s:ByteArray} {b:Bool} (hb:b=false) (h:zBs l s=none):drvS b l s=([],(10,-1)):=by unfold drvS;rw [if_neg (by rw [hb];simp),h]
theorem drv_else {l:List El} {s:ByteArray} {b:Bool} {e:El} (hb:b=false) (h:zBs l s=some e) (hk:e.kind≠8):drvS b l s=([],(10,-1)):=by unfold drvS;rw [if_neg (by rw [hb];simp),h];dsimp only;rw [if_neg hk]
theorem drv_port {l:List El} {s:ByteArray} {b:Bool} {e:El} (hb:b=false) (h:zBs l s=some e) (hk:e.kind=8):drvS b l s=((List.range (szL l)).map (drvK l e),(0,0)):=by unfold drvS;rw [if_neg (by rw [hb];simp),h];dsimp only;rw [if_pos hk]
theorem zFk (p:Value) (l:List El) (s:ByteArray) (w:World) (hp:NN w p l) (hl:l.length≤100000) (aY:∀x∈l,x.Ok) (hs:s.size≤maxLen) (hsz:szL l≤64):
 Calls Tryz.prog 38 #[p,.string s] w (RetRg (drvS (zBp p) l s) w):=by
 have cN:=(Below.refl w.heap.size w).alloc (Nat.le_refl _) (.cells #[.int .i64 0,.int .i64 0] 38);have HP:=hid (hp.below cN (Nat.le_refl _));have bC:=hid cN;have HZ:=hid (heap_alloc_new w (.cells #[.int .i64 0,.int .i64 0] 38));have gC:=hid (show (w.alloc (.cells #[.int .i64 0,.int .i64 0] 38)).heap.size=w.heap.size+1 by simp);have cK:=hid hl;have cH:=hid aY;have lD:=hid hs;have lN:=hid hsz;have qR:((nds l).length:Int)+((brs l).length:Int)=((szL l:Nat):Int):=by unfold szL;omega
 have jK:=hid qR;clear hp cN aY hsz qR hs;cases hn:zBp p
 · have HN:=hid hn;clear hn;go_enter Tryz.func38,Tryz.ntmps38;go_upto_region 1 with fail;generalize w.alloc (.cells #[.int .i64 0,.int .i64 0] 38)=w0 at *;go_upto_region 3 with (go_at_call 64;refine (snone_any p l _ HP.out cK.out cH.out).mono ?_;rintro e w1 ⟨rfl,hb⟩;rw [HN.out];have aL:=hid (zAd bC.out hb);have rO:=hid (zAi hb HZ.out);have gE:=hid (HP.out.below hb (Nat.le_refl _));have dS:=hid (show w.heap.size+1≤w1.heap.size by have:=hb.size;have:=gC.out;omega);clear hb HP bC HZ gC);cases hf:zBs l s
   · have HF:=hid hf;have HW:=hid (drv_no (b:=false) rfl hf);clear hf;go_upto_region 5 with (go_at_call 37;refine (zEm p l s _ gE.out lD.out cK.out).mono ?_;rintro e w3 ⟨rfl,hb⟩;have mL:=hid (gE.out.below' hb);have mF:=hid (zAi hb rO.out);have mQ:=hid (Nat.le_trans dS.out (hb).size);have jU:=hid (zAd aL.out hb);rw [HF.out];dsimp only [Option.getD_some,Option.getD_none,Option.isSome_some,Option.isSome_none];clear hb);clear gE rO dS aL;have rY:=hid (mL.out.below' ((Below.refl w3.heap.size w3).alloc (Nat.le_refl _) (.cells #[.int .u8 zEl.kind,.string zEl.name,.string zEl.a,.string zEl.b,.string zEl.c,.string zEl.d,.float .f64 zEl.val,.int .i64 zEl.ph] 35)));have iM:=hid (zAi ((Below.refl w3.heap.size w3).alloc (Nat.le_refl _) (.cells #[.int .u8 zEl.kind,.string zEl.name,.string zEl.a,.string zEl.b,.string zEl.c,.string zEl.d,.float .f64 zEl.val,.int .i64 zEl.ph] 35)) mF.out);have vN:=hid (Nat.le_trans mQ.out (((Below.refl w3.heap.size w3).alloc (Nat.le_refl _) (.cells #[.int .u8 zEl.kind,.string zEl.name,.string zEl.a,.string zEl.b,.string zEl.c,.string zEl.d,.float .f64 zEl.val,.int .i64 zEl.ph] 35))).size);have lH:=hid (zAd jU.out ((Below.refl w3.heap.size w3).alloc (Nat.le_refl _) (.cells #[.int .u8 zEl.kind,.string zEl.name,.string zEl.a,.string zEl.b,.string zEl.c,.string zEl.d,.float .f64 zEl.val,.int .i64 zEl.ph] 35)));have HE:=hid (heap_alloc_new w3 (.cells #[.int .u8 zEl.kind,.string zEl.name,.string zEl.a,.string zEl.b,.string zEl.c,.string zEl.d,.float .f64 zEl.val,.int .i64 zEl.ph] 35));clear mL mF mQ jU;generalize w3.alloc (.cells #[.int .u8 zEl.kind,.string zEl.name,.string zEl.a,.string zEl.b,.string zEl.c,.string zEl.d,.float .f64 zEl.val,.int .i64 zEl.ph] 35)=w4 at *
     obtain ⟨ge,lJ⟩:∃ge,w3.heap.size=ge:=⟨_,rfl⟩;rw [lJ] at HE⊢;clear lJ;have z0:=(zAb iM.out).1 0 _ rfl;have z1:=(zAb iM.out).1 1 _ rfl;have f0:=(zAb iM.out).2 0;have f1:=(zAb iM.out).2 1;go_wp2
     (try simp only [Exit.inBlock,Exit.then])
     (try rw [Exit.noGoto_ret])
     refine bodyPost_ret (v:=.tuple #[.slice none 0 0,.agg #[.int .i64 10,.int .i64 (-1)]]) ?_ rfl (RetRg.bad (HW.out) ?_)
     · rw [zAq rfl];go_simp
     · repeat (first | with_reducible exact lH.out | with_reducible refine Below.setCell ?_ (by dsimp only;omega) _)
   rename_i x;have HF:=hid hf
   by_cases hk:x.kind=8
   rotate_left
   · have HW:=hid (drv_else (b:=false) rfl hf hk);have wK:(x.kind !=8)=true:=by simpa using hk
     clear hf hk;go_upto_region 4 with (go_at_call 37;refine (zEm p l s _ gE.out lD.out cK.out).mono ?_;rintro e w3 ⟨rfl,hb⟩;have mL:=hid (gE.out.below' hb);have mF:=hid (zAi hb rO.out);have mQ:=hid (Nat.le_trans dS.out (hb).size);have jU:=hid (zAd aL.out hb);rw [HF.out];dsimp only [Option.getD_some,Option.getD_none,Option.isSome_some,Option.isSome_none];clear hb);clear gE rO dS aL;have rY:=hid (mL.out.below' ((Below.refl w3.heap.size w3).alloc (Nat.le_refl _) (.cells #[.int .u8 x.kind,.string x.name,.string x.a,.string x.b,.string x.c,.string x.d,.float .f64 x.val,.int .i64 x.ph] 35)));have iM:=hid (zAi ((Below.refl w3.heap.size w3).alloc (Nat.le_refl _) (.cells #[.int .u8 x.kind,.string x.name,.string x.a,.string x.b,.string x.c,.string x.d,.float .f64 x.val,.int .i64 x.ph] 35)) mF.out);have vN:=hid (Nat.le_trans mQ.out (((Below.refl w3.heap.size w3).alloc (Nat.le_refl _) (.cells #[.int .u8 x.kind,.string x.name,.string x.a,.string x.b,.string x.c,.string x.d,.float .f64 x.val,.int .i64 x.ph] 35))).size);have lH:=hid (zAd jU.out ((Below.refl w3.heap.size w3).alloc (Nat.le_refl _) (.cells #[.int .u8 x.kind,.string x.name,.string x.a,.string x.b,.string x.c,.string x.d,.float .f64 x.val,.int .i64 x.ph] 35)));have HE:=hid (heap_alloc_new w3 (.cells #[.int .u8 x.kind,.string x.name,.string x.a,.string x.b,.string x.c,.string x.d,.float .f64 x.val,.int .i64 x.ph] 35));clear mL mF mQ jU;generalize w3.alloc (.cells #[.int .u8 x.kind,.string x.name,.string x.a,.string x.b,.string x.c,.string x.d,.float .f64 x.val,.int .i64 x.ph] 35)=w4 at *;obtain ⟨ge,lJ⟩:∃ge,w3.heap.size=ge:=⟨_,rfl⟩;rw [lJ] at HE⊢;clear lJ;have aB:=zAc HE.out;have e0:=aB.1 0 _ rfl;clear aB;have z0:=(zAb iM.out).1 0 _ rfl
     have z1:=(zAb iM.out).1 1 _ rfl;have f0:=(zAb iM.out).2 0;have f1:=(zAb iM.out).2 1;go_wp2
     (try simp only [Exit.inBlock,Exit.then])
     (try rw [Exit.noGoto_ret])
     refine bodyPost_ret (v:=.tuple #[.slice none 0 0,.agg #[.int .i64 10,.int .i64 (-1)]]) ?_ rfl (RetRg.bad (HW.out) ?_)
     · rw [zAq rfl];go_simp
     · repeat (first | with_reducible exact lH.out | with_reducible refine Below.setCell ?_ (by dsimp only;omega) _)
   have HW:=hid (drv_port (b:=false) rfl hf hk);have wT:=hid (cH.out x (List.mem_of_find?_eq_some (show l.find? _=some x from hf)));have wK:(x.kind !=8)=false:=by simpa using hk
   clear hf hk;go_upto_region 4 with (go_at_call 37;refine (zEm p l s _ gE.out lD.out cK.out).mono ?_;rintro e w3 ⟨rfl,hb⟩;have mL:=hid (gE.out.below' hb);have mF:=hid (zAi hb rO.out);have mQ:=hid (Nat.le_trans dS.out (hb).size);have jU:=hid (zAd aL.out hb);rw [HF.out];dsimp only [Option.getD_some,Option.getD_none,Option.isSome_some,Option.isSome_none];clear hb);clear gE rO dS aL;have rY:=hid (mL.out.below' ((Below.refl w3.heap.size w3).alloc (Nat.le_refl _) (.cells #[.int .u8 x.kind,.string x.name,.string x.a,.string x.b,.string x.c,.string x.d,.float .f64 x.val,.int .i64 x.ph] 35)));have iM:=hid (zAi ((Below.refl w3.heap.size w3).alloc (Nat.le_refl _) (.cells #[.int .u8 x.kind,.string x.name,.string x.a,.string x.b,.string x.c,.string x.d,.float .f64 x.val,.int .i64 x.ph] 35)) mF.out);have vN:=hid (Nat.le_trans mQ.out (((Below.refl w3.heap.size w3).alloc (Nat.le_refl _) (.cells #[.int .u8 x.kind,.string x.name,.string x.a,.string x.b,.string x.c,.string x.d,.float .f64 x.val,.int .i64 x.ph] 35))).size);have lH:=hid (zAd jU.out ((Below.refl w3.heap.size w3).alloc (Nat.le_refl _) (.cells #[.int .u8 x.kind,.string x.name,.string x.a,.string x.b,.string x.c,.string x.d,.float .f64 x.val,.int .i64 x.ph] 35)));have HE:=hid (heap_alloc_new w3 (.cells #[.int .u8 x.kind,.string x.name,.string x.a,.string x.b,.string x.c,.string x.d,.float .f64 x.val,.int .i64 x.ph] 35));clear mL mF mQ jU;generalize w3.alloc (.cells #[.int .u8 x.kind,.string x.name,.string x.a,.string x.b,.string x.c,.string x.d,.float .f64 x.val,.int .i64 x.ph] 35)=w4 at *;obtain ⟨ge,lJ⟩:∃ge,w3.heap.size=ge:=⟨_,rfl⟩;rw [lJ] at HE⊢;clear lJ;have aB:=zAc HE.out;have e0:=aB.1 0 _ rfl;clear aB;obtain ⟨n,fU⟩:∃n,szL l=n:=⟨_,rfl⟩
   have lP:=hid fU;have oZ:n≤64:=by rw [←fU];exact lN.out
   have HN64:=hid oZ;have qV:=fun w'=> mk_many n w' (by omega)
   rw [fU] at jK HW;have HNDN:=hid (show (nds l).length≤n by rw [←fU];unfold szL;omega);clear fU oZ;go_upto_region 6 with fail;clear e0 wK;go_upto_region 7 with (go_at_call 34;refine (zEf p l _ rY.out cK.out).mono ?_;rintro e w5 ⟨rfl,hb⟩;have HP13:=hid (rY.out.below' hb);have HZ13:=hid (zAi hb iM.out);have HG13:=hid (Nat.le_trans vN.out (hb).size);have HE13:=hid (zAi hb HE.out);have sV:=hid (zAd lH.out hb);rw [jK.out];clear hb);clear rY iM vN HE lH;have HV:=hid (show VecR (w5.alloc (.cells (zrow n) 48)) w5.heap.size n (fun _=> (fc 0,fc 0)) from vec_new (heap_alloc_new w5 (.cells (zrow n) 48)));have nT:=hid (show NN w5 p l from HP13.out);have xU:=hid (show w.heap.size+1≤w5.heap.size from HG13.out);have HEB:=hid (show ge < w5.heap.size from (Array.getElem?_eq_some_iff.1 HE13.out).1);have HP14:=hid (HP13.out.below' ((Below.refl w5.heap.size w5).alloc (Nat.le_refl _) (.cells (zrow n) 48)));have HZ14:=hid (zAi ((Below.refl w5.heap.size w5).alloc (Nat.le_refl _) (.cells (zrow n) 48)) HZ13.out);have HG14:=hid (Nat.le_trans HG13.out (((Below.refl w5.heap.size w5).alloc (Nat.le_refl _) (.cells (zrow n) 48))).size);have HE14:=hid (zAi ((Below.refl w5.heap.size w5).alloc (Nat.le_refl _) (.cells (zrow n) 48)) HE13.out);have pU:=hid (zAd sV.out ((Below.refl w5.heap.size w5).alloc (Nat.le_refl _) (.cells (zrow n) 48)));have uY:=hid ((Below.refl w5.heap.size w5).alloc (Nat.le_refl _) (.cells (zrow n) 48));clear HP13 HZ13 HG13 HE13 sV;generalize w5.alloc (.cells (zrow n) 48)=w6 at *;clear qV;generalize kP:w5.heap.size=b at *;have dO:=hid kP;have qG:=hid (show w.heap.size≤b by have:=xU.out;omega);have vY:=hid (show w.heap.size≠b by have:=xU.out;omega);have HEN:=hid (show ge≠b by have:=HEB.out;omega);have HW6:=hid (show b < w6.heap.size by obtain ⟨M,hM⟩:=HV.out;exact (Array.getElem?_eq_some_iff.1 hM.row).1)
   clear kP;have aB:=zAc HE14.out;have e2:=aB.1 2 _ rfl;clear aB;go_upto_region 8 with (go_at_call 65;refine (putadd_any p l b n _ x.a 4607182418800017408 0 _ HP14.out HV.out wT.out.a HNDN.out (by have:=HN64.out;omega)).mono ?_;rintro e w8 ⟨rfl,hv,aF⟩;have HV8:=hid hv;have eE:=hid (pU.out.grown aF pU.out.size (fun r e=> by cases e;exact qG.out));have HZ8:=hid (zAj aF vY.out HZ14.out);have HE8:=hid (zAj aF HEN.out HE14.out);have HP8:=hid (nT.out.below ((uY.out.grown aF (by have:=HW6.out;omega) (fun r e=> by cases e;exact Nat.le_refl _)):Below b w5 w8) (by have:=dO.out;omega));clear hv aF HV pU HZ14 HE14 HP14 e2);obtain ⟨S1,hS1⟩:∃S1,(putS l (fun _=> (fc 0,fc 0)) x.a fun z=> cadd z (fc 4607182418800017408,fc 0))=S1:=⟨_,rfl⟩;have HS1':=hid hS1;rw [hS1] at HV8
   (try rw [hS1])
   clear hS1;obtain ⟨r1,q1⟩:=S1;dsimp only at HV8⊢;have e3:=(zAb HE8.out).1 3 _ rfl;go_upto_region 9 with (go_at_call 65;refine (putsub_any p l b n r1 x.b 4607182418800017408 0 _ HP8.out HV8.out wT.out.b HNDN.out (by have:=HN64.out;omega)).mono ?_;rintro e w9 ⟨rfl,hv,aF⟩;have HV9:=hid hv;have HB9:=hid (eE.out.grown aF eE.out.size (fun r e=> by cases e;exact qG.out));have HZ9:=hid (zAj aF vY.out HZ8.out);clear hv aF HV8 eE HZ8 HE8 HP8 e3);have z0:=(zAb HZ9.out).1 0 _ rfl;have z1:=(zAb HZ9.out).1 1 _ rfl;have f0:=(zAb HZ9.out).2 0;have f1:=(zAb HZ9.out).2 1;go_wp2
   (try simp only [Exit.inBlock,Exit.then])
   (try rw [Exit.noGoto_ret])
   refine bodyPost_ret (v:=.tuple #[.slice (some ⟨b,0,none⟩) n n,.agg #[.int .i64 0,.int .i64 0]]) ?_ rfl ?_
   · rw [zAq rfl];go_simp
   · have hq:drvK l x=(putS l r1 x.b fun z=> csub z (fc 4607182418800017408,fc 0)).1:=by
      unfold drvK;rw [show fone=fc 4607182418800017408 from rfl,HS1'.out]
     rw [HW.out,hq];obtain ⟨xs,h1,h2,h3⟩:=vec_own (B:=w.heap.size+1) HV9.out (by have:=xU.out;have:=dO.out;omega) (by have:=HN64.out;omega);refine ⟨.slice (some ⟨b,0,none⟩) n n,xs,rfl,h2,?_,?_⟩
     · refine zEx (B':=w.heap.size+1) ?_ (by omega);rw [h1];rw [h1] at h3
       repeat (first | with_reducible exact h3 | with_reducible refine ownsRow_setCell_below ?_ (by dsimp only;omega) _)
     · repeat (first | with_reducible exact HB9.out | with_reducible refine Below.setCell ?_ (by dsimp only;omega) _)
 · have HN:=hid hn;clear hn;go_enter Tryz.func38,Tryz.ntmps38;go_upto_region 1 with fail;generalize w.alloc (.cells #[.int .i64 0,.int .i64 0] 38)=w0 at *;go_upto_region 2 with (go_at_call 64;refine (snone_any p l _ HP.out cK.out cH.out).mono ?_;rintro e w1 ⟨rfl,hb⟩;rw [HN.out];have aL:=hid (zAd bC.out hb);have rO:=hid (zAi hb HZ.out);clear hb HP bC HZ gC);have z0:=(zAb rO.out).1 0 _ rfl;have z1:=(zAb rO.out).1 1 _ rfl;have f0:=(zAb rO.out).2 0;have f1:=(zAb rO.out).2 1;go_wp2
   (try simp only [Exit.inBlock,Exit.then])
   (try rw [Exit.noGoto_ret])
   refine bodyPost_ret (v:=.tuple #[.slice none 0 0,.agg #[.int .i64 1,.int .i64 (-1)]]) ?_ rfl (RetRg.bad (by first | (unfold drvS;rw [HN.out];rfl) | (unfold drvS;rfl)) ?_)
   · rw [zAq rfl];go_simp
   · repeat (first | with_reducible exact aL.out | with_reducible refine Below.setCell ?_ (by dsimp only;omega) _)
end
section
open Go.RowKit
def zDd (x:El):Bool:=x.kind==4 || x.kind==5
def setV (x:El) (v:Nat):El:={x with val:=v}
def chg (f:Nat→Nat) (x:El):El:=if zDd x=true then setV x (f (fc x.val)) else x
def mixS (f:Nat→Nat) (l:List El) (k:Nat):List El:=(l.take k).map (chg f)++l.drop k
theorem mixS_len (f:Nat→Nat) (l:List El) (k:Nat):(mixS f l k).length=l.length:=by
 unfold mixS;rw [List.length_append,List.length_map,List.length_take,List.length_drop];omega
theorem mixS_zero (f:Nat→Nat) (l:List El):mixS f l 0=l:=by simp [mixS]
theorem mixS_all (f:Nat→Nat) (l:List El):mixS f l l.length=l.map (chg f):=by simp [mixS]
theorem mixS_at {f:Nat→Nat} {l:List El} {k:Nat} {x:El} (h:l[k]? =some x):(mixS f l k)[k]? =some x:=by
 have hk:=(List.getElem?_eq_some_iff.1 h).1;unfold mixS;rw [List.getElem?_append_right (by rw [List.length_map,List.length_take];omega),List.length_map,List.length_take,List.getElem?_drop,show k+(k - min k l.length)=k by omega];exact h
theorem mixS_next {f:Nat→Nat} {l:List El} {k:Nat} {x:El} (h:l[k]? =some x):mixS f l (k+1)=(mixS f l k).set k (chg f x):=by
 obtain ⟨hk,hx⟩:=List.getElem?_eq_some_iff.1 h;unfold mixS;rw [List.take_succ_eq_append_getElem hk,List.map_append,List.set_append_right _ _ (by rw [List.length_map,List.length_take];omega),List.length_map,List.length_take,show k - min k l.length=0 by omega,List.drop_eq_getElem_cons hk,hx]
 simp
theorem mixS_same {f:Nat→Nat} {l:List El} {k:Nat} {x:El} (h:l[k]? =some x) (hs:zDd x=false):mixS f l (k+1)=mixS f l k:=by
 rw [mixS_next h];have h2:=mixS_at (f:=f) h;have hc:chg f x=x:=by unfold chg;rw [if_neg (by rw [hs];simp)]
 rw [hc]
 apply List.ext_getElem?
 intro i;rw [List.getElem?_set]
 by_cases hi:k=i
 · subst hi;rw [if_pos rfl,if_pos (List.getElem?_eq_some_iff.1 h2).1,h2]
 · rw [if_neg hi]
theorem setV_cells (x:El) (v:Nat):ea (setV x v)=(ea x).set 6 (.float .f64 v):=rfl
theorem flat_setV {l:List El} {k:Nat} {x:El} (h:l[k]? =some x) (v:Nat):(l.set k (setV x v)).flatMap ea=(l.flatMap ea).set (k * 8+6) (.float .f64 v):=by
 induction l generalizing k with
 | nil=> simp at h
 | cons y l ih=>
  cases k with
  | zero=>
   obtain rfl:y=x:=by simpa using h
   rw [List.set_cons_zero,List.flatMap_cons,List.flatMap_cons,setV_cells,Nat.zero_mul,Nat.zero_add,List.set_append_left _ _ (by simp [ea])]
  | succ k=>
   have h2:l[k]? =some x:=by simpa using h
   rw [List.set_cons_succ,List.flatMap_cons,ih h2,List.flatMap_cons,List.set_append_right _ _ (by simp [ea];omega)]
   congr 2
   simp [ea];omega
theorem own_put8 {w:World} {B e n g j:Nat} {v u:Value} {xs:List Value} (h:w.ownsRow B e 8 v n xs) (hv:v.ownBlock=some g) (hj:j < n * 8):(w.setCell ⟨g,j,none⟩ u).ownsRow B e 8 v n (xs.set j u):=by
 obtain ⟨hl,h⟩:=h;refine ⟨by rw [List.length_set];exact hl,?_⟩;rcases h with ⟨rfl,rfl⟩ | ⟨g',cap,cur,rfl,hg,hb,hn,hc,hs,ht⟩
 · cases hv
 · cases hv;refine .inr ⟨_,cap,cur.setIfInBounds j u,rfl,hg,blk_set hb u,hn,hc,by rw [Array.size_setIfInBounds];exact hs,?_⟩;rw [Array.toList_setIfInBounds,←ht,List.take_set]
theorem own_atF {P:Program} {t e:TypeId} {i:TypeInfo} (ht:P.underlying t=some (.slice e)) (hi:P.info? e=some i) (hs:i.size=8)
 {w:World} {B n c g:Nat} {l:List El} (h:w.ownsRow B e 8 (.slice (some ⟨g,0,none⟩) n c) n (l.flatMap ea)) (hl:l.length=n) {k:Nat} {x:El} (hx:l[k]? =some x):
 (∀w',(Instr.indexAt t (.slice (some ⟨g,0,none⟩) n c) (.int .i64 k)).run P w'=.ok (.pointer (some ⟨g,k * 8,none⟩)) w')∧(∀j u,(ea x)[j]? =some u→w.cell? ⟨g,k * 8+j,none⟩=some u)∧∀j,w.frozen? ⟨g,j,none⟩=false:=by
 obtain ⟨g',o,y,h1,_,h3,h4⟩:=IsSl.atF ht hi hs ea_len (IsSl.of_own h) hl (k:=k) (by have:=(List.getElem?_eq_some_iff.1 hx).1;omega);obtain rfl:y=x:=Option.some.inj (h3.symm.trans hx);have hk:=(List.getElem?_eq_some_iff.1 hx).1;have he:P.elem t=e:=by simp [Program.elem,ht]
 refine ⟨fun w'=> ?_,fun j u hu=> ?_,fun j=> ?_⟩
 · rw [run_indexAt_slice w' t _ n c .i64 k (by rw [he];exact ht),if_pos ⟨by omega,by omega⟩,he]
   simp [sizeOf,typeInfo,hi,hs,Result.andThen,Addr.add]
   try (intro h;exact h.symm)
 · have h5:=(IsSl.of_own h).2;rcases h5 with ⟨h6,_⟩ | ⟨g2,off,c',hv,hc,hg,aA⟩
   · cases h6
   · cases hv;have hj:j < 8:=by rw [←ea_len y];exact (List.getElem?_eq_some_iff.1 hu).1
     have pY:k < n:=by omega
     have:=aA (k * 8+j) (by omega);rw [Nat.zero_add] at this;rw [this,flat_get ea_len l k j hj,hx];exact hu
 · rcases h.2 with ⟨h6,_⟩ | ⟨g2,cap,cur,hv,hg,hb,_⟩
   · cases h6
   · cases hv
     simp [World.frozen?,hb]
def srcsS (f:Nat→Nat) (l:List El):Bool:=l.all fun x=> !zDd x || ffin (f (fc x.val))
theorem setV_nds (f:Nat→Nat) (l:List El) (acc:List ByteArray):(l.map (chg f)).foldl nd4 acc=l.foldl nd4 acc:=by
 induction l generalizing acc with
 | nil=> rfl
 | cons x l ih=>
  rw [List.map_cons,List.foldl_cons,List.foldl_cons,ih]
  congr 1
  unfold chg nd4
  split <;> rfl
theorem chg_nds (f:Nat→Nat) (l:List El):nds (l.map (chg f))=nds l:=setV_nds f l []
theorem chg_same (f:Nat→Nat) (x:El):(chg f x).kind=x.kind∧(chg f x).name=x.name∧(chg f x).a=x.a∧(chg f x).b=x.b∧(chg f x).c=x.c∧(chg f x).d=x.d∧(chg f x).ph=x.ph:=by
 unfold chg setV;split <;> exact ⟨rfl,rfl,rfl,rfl,rfl,rfl,rfl⟩
theorem chg_brs (f:Nat→Nat) (l:List El):brs (l.map (chg f))=brs l:=by
 unfold brs
 induction l with
 | nil=> rfl
 | cons x l ih=>
  have hk:isBr (chg f x)=isBr x:=by unfold isBr;rw [(chg_same f x).1]
  rw [List.map_cons,List.filter_cons,List.filter_cons,hk]
  split
  · rw [List.map_cons,List.map_cons,ih,(chg_same f x).2.1]
  · exact ih
theorem chg_named (f:Nat→Nat) (l:List El) (s:ByteArray):zEn (l.map (chg f)) s=zEn l s:=by
 unfold zEn;rw [List.any_map]
 congr 1
 funext x
 show ((chg f x).name.toList==s.toList)=_;rw [(chg_same f x).2.1]
theorem fop_lt (op:BinOp) (x y:Nat):fop op x y < 18446744073709551616:=by
 have key:∀o:Option Ieee.Datum,(∀d,o=some d→d.isNaN=false)→(o.map Ieee.double.write).getD qnan < 18446744073709551616:=by
  intro o ho;cases o with
  | none=> decide
  | some d=>
   have hi:Ieee.double.infRung=9218868437227405312:=by decide
   have hw:∀ (s:Bool) (r:Nat),r≤Ieee.double.infRung→Ieee.double.word s r < 18446744073709551616:=by
    intro s r hr;rw [hi] at hr;cases s <;> simp [Ieee.Format.word,Ieee.Format.signWeight,Ieee.double] <;> omega
   cases d with
   | nan=> have:=ho _ rfl;cases this
   | infinity s=> exact hw s _ (Nat.le_refl _)
   | number s m e=>
    obtain ⟨r,hr,he⟩:=nearest_le s m e;show Ieee.double.nearest s m e < _;rw [he];exact hw s r hr
 unfold fop floatBits;cases op <;> first | exact key _ (fun _=> sum_not_nan) | exact key _ (fun _=> product_not_nan) | exact key _ (fun _=> quotient_not_nan) | (show qnan < _;decide)
theorem fsize_word {x:Nat} (h:ffin x=true):kindF x≤2:=by
 have h2:=ffin_fin h;unfold FV.fin at h2;have h3:=of_decide_eq_true h2;unfold kindF zFp zBc;have e1:(2:Nat) ^ 63=9223372036854775808:=by decide
 have e2:2047 * (2:Nat) ^ 52=9218868437227405312:=by decide
 rw [e1,e2] at h3
 split
 · decide
 · split
   · decide
   · split
     · decide
     · omega
theorem chg_check {f:Nat→Nat} {x:El} (h:zAv x=0) (hs:zDd x=false∨ffin (f (fc x.val))=true):zAv (chg f x)=0:=by
 by_cases uH:zDd x=true
 · have hf:ffin (f (fc x.val))=true:=by rcases hs with h1 | h1;rw [uH] at h1;cases h1;exact h1
   have hk:kAb x.kind=false:=by
    unfold zDd at uH;simp only [Bool.or_eq_true,beq_iff_eq] at uH;rcases uH with h1 | h1 <;> rw [h1] <;> rfl
   have e:chg f x=setV x (f (fc x.val)):=by unfold chg;rw [if_pos uH]
   have en:zCc (chg f x)=zCc x:=by rw [e];rfl
   have ea:zCv (chg f x)=zCv x:=by rw [e];rfl
   unfold zAv at h⊢;rw [(chg_same f x).1,en,ea,hk];rw [hk] at h;have hv:(chg f x).val=f (fc x.val):=by rw [e];rfl
   rw [hv]
   split at h
   · rename_i h1;rw [if_pos h1]
     split at h
     · cases h
     · rename_i h2;rw [if_neg h2]
       split at h
       · cases h
       · rename_i h3;rw [if_neg h3,if_neg (by have:=fsize_word hf;omega)]
         rfl
   · cases h
 · have e:chg f x=x:=by unfold chg;rw [if_neg uH]
   rw [e];exact h
theorem first_none {l:List El}:∀ {r:List El} {k:Nat},zBt l k r=none→∀ (j:Nat) (e:El),r[j]? =some e→bad1 l (k+j) e=0
 | [],_,_,_,_,h=> by simp at h
 | x::r,k,h,0,e,he=> by
  obtain rfl:x=e:=by simpa using he
  unfold zBt at h
  split at h
  · rename_i h0;exact h0
  · cases h
 | x::r,k,h,j+1,e,he=> by
  unfold zBt at h
  split at h
  · have:=first_none h j e (by simpa using he)
    rwa [show k+1+j=k+(j+1) by omega] at this
  · cases h
theorem ofL_parts {l:List El} (h:(ofL l).1=true):¬256 < l.length∧(∀ (j:Nat) (e:El),l[j]? =some e→bad1 l j e=0)∧¬(32 < (nds l).length∨64 < (nds l).length+(brs l).length):=by
 unfold ofL at h
 split at h
 · cases h
 · rename_i h1
   split at h
   · cases h
   · rename_i h2
     split at h
     · cases h
     · rename_i h3;exact ⟨h1,fun j e he=> by have:=first_none h2 j e he;rwa [Nat.zero_add] at this,h3⟩
theorem ofL_chg {f:Nat→Nat} {l:List El} (h:(ofL l).1=true) (hs:srcsS f l=true):(ofL (l.map (chg f))).1=true:=by
 obtain ⟨h1,h2,h3⟩:=ofL_parts h;rw [ofL_good (by rw [List.length_map];exact h1) (fun j e he=> ?_),chg_nds,chg_brs,if_neg h3];rw [List.getElem?_map] at he;obtain ⟨x,hx,rfl⟩:=Option.map_eq_some_iff.1 he;have hb:=h2 j x hx;unfold bad1 at hb⊢;rw [←List.map_take,(chg_same f x).2.1,chg_named];have jX:zAv x=0:=by split at hb <;> assumption
 have hsx:zDd x=false∨ffin (f (fc x.val))=true:=by
  have:=List.all_eq_true.1 hs x (List.mem_of_getElem? hx)
  simpa using this
 rw [chg_check jX hsx,if_pos rfl];rw [jX,if_pos rfl] at hb;exact hb
theorem chg_ok {f:Nat→Nat} {x:El} (h:x.Ok) (hf:f (fc x.val) < 18446744073709551616):(chg f x).Ok:=by
 unfold chg
 split
 · exact ⟨h.name,h.a,h.b,h.c,h.d,hf⟩
 · exact h
theorem srcs_take {f:Nat→Nat} {l:List El} {k:Nat} {x:El} (h:l[k]? =some x) (hk:srcsS f (l.take k)=true) (hx:zDd x=false∨ffin (f (fc x.val))=true):srcsS f (l.take (k+1))=true:=by
 obtain ⟨iA,e⟩:=List.getElem?_eq_some_iff.1 h;unfold srcsS at *;rw [List.take_succ_eq_append_getElem iA,List.all_append,hk,e]
 simpa using hx
theorem srcs_no {f:Nat→Nat} {l:List El} {k:Nat} {x:El} (h:l[k]? =some x) (hs:zDd x=true) (hx:ffin (f (fc x.val))=false):srcsS f l=false:=by
 unfold srcsS;rw [List.all_eq_false];exact ⟨x,List.mem_of_getElem? h,by simp [hs,hx]⟩
theorem srcv_ways (k:Int):(k=4∧(k !=4)=false∧(k==4)=true)∨(k=5∧(k !=4)=true∧(k==4)=false∧(k !=5)=false∧(k==5)=true)∨((k !=4)=true∧(k==4)=false∧(k !=5)=true∧(k==5)=false):=by
 by_cases h1:k=4
 · subst h1;exact .inl ⟨rfl,rfl,rfl⟩
 · by_cases h2:k=5
   · subst h2;exact .inr (.inl ⟨rfl,rfl,rfl,rfl,rfl⟩)
   · exact .inr (.inr ⟨by simpa using h1,by simpa using h1,by simpa using h2,by simpa using h2⟩)
end
end Go.Proofs.YtdepiggjneoopaaGreatDoor
