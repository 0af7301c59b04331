/- a part of the proof of the last text -/
import Derived.Test.YtaegmlhfecfgkaaGreatDoorZMSOpen
namespace Go.Proofs.YtaegmlhfecfgkaaGreatDoor
set_option linter.all false
set_option maxHeartbeats 4000000
set_option maxRecDepth 100000
open Go.RowKit
structure RenM (f:ByteArray→ByteArray) (P:ByteArray→Prop) (l m:List El):Prop where
 len:m.length=l.length
 el:∀ (k:Nat) (x y:El),l[k]? =some x→m[k]? =some y→y.kind=x.kind∧(x.kind≠4→x.kind≠5→y.val=x.val)∧y.a=f x.a∧y.b=f x.b∧y.c=f x.c∧y.d=f x.d
 mem:∀x∈l,P x.a∧P x.b∧P x.c∧P x.d
 inj:∀s t,P s→P t→((f s).toList==(f t).toList)=(s.toList==t.toList)
 gd:∀s,P s→gnd (f s)=gnd s
 u1:Uniq l
 u2:Uniq m
 c1:∀x∈l,checkE x=0
 c2:∀x∈m,checkE x=0
structure RenAll (f:ByteArray→ByteArray) (P:ByteArray→Prop) (l m:List El):Prop extends RenM f P l m where
 ev:∀ (k:Nat) (x y:El),l[k]? =some x→m[k]? =some y→y.val=x.val∧y.ph=x.ph
section
variable {f:ByteArray→ByteArray} {P:ByteArray→Prop} {l m:List El}
theorem has_ren (hi:∀s t,P s→P t→((f s).toList==(f t).toList)=(s.toList==t.toList)) {s:ByteArray} (hs:P s):∀ {acc:List ByteArray},(∀t∈acc,P t)→has (acc.map f) (f s)=has acc s
 | [],_=> rfl
 | t::r,h=> by
  have ih:=has_ren hi hs (acc:=r) fun u hu=> h u (by simp [hu])
  unfold has at ih⊢;rw [List.map_cons,List.any_cons,List.any_cons,hi t s (h t (by simp)) hs,ih]
theorem idx_ren (hi:∀s t,P s→P t→((f s).toList==(f t).toList)=(s.toList==t.toList)) {s:ByteArray} (hs:P s):∀ {acc:List ByteArray},(∀t∈acc,P t)→(acc.map f).findIdx (fun t=> t.toList==(f s).toList)=acc.findIdx (fun t=> t.toList==s.toList)
 | [],_=> rfl
 | t::r,h=> by
  rw [List.map_cons,List.findIdx_cons,List.findIdx_cons,hi t s (h t (by simp)) hs,idx_ren hi hs fun u hu=> h u (by simp [hu])]
theorem plI_ren (hi:∀s t,P s→P t→((f s).toList==(f t).toList)=(s.toList==t.toList)) {s:ByteArray} (hs:P s) {acc:List ByteArray} (h:∀t∈acc,P t):plI (acc.map f) (f s)=plI acc s:=by
 unfold plI;rw [has_ren hi hs h,idx_ren hi hs h]
theorem nd1_ren (hi:∀s t,P s→P t→((f s).toList==(f t).toList)=(s.toList==t.toList)) (hg:∀s,P s→gnd (f s)=gnd s) {s:ByteArray} (hs:P s) {acc:List ByteArray} (h:∀t∈acc,P t):
 nd1 (acc.map f) (f s)=(nd1 acc s).map f∧∀t∈nd1 acc s,P t:=by
 unfold nd1;rw [hg s hs,has_ren hi hs h]
 split
 · exact ⟨rfl,h⟩
 · refine ⟨by simp,fun t ht=> ?_⟩;rcases List.mem_append.1 ht with h1 | h1
   · exact h t h1
   · obtain rfl:=List.mem_singleton.1 h1;exact hs
theorem nd4_ren (hi:∀s t,P s→P t→((f s).toList==(f t).toList)=(s.toList==t.toList)) (hg:∀s,P s→gnd (f s)=gnd s) {x y:El} (hx:P x.a∧P x.b∧P x.c∧P x.d) (hy:y.a=f x.a∧y.b=f x.b∧y.c=f x.c∧y.d=f x.d)
 {acc:List ByteArray} (h:∀t∈acc,P t):nd4 (acc.map f) y=(nd4 acc x).map f∧∀t∈nd4 acc x,P t:=by
 unfold nd4 fr;simp only [List.foldl_cons,List.foldl_nil,hy];obtain ⟨a1,a2⟩:=nd1_ren hi hg hx.1 h;obtain ⟨b1,b2⟩:=nd1_ren hi hg hx.2.1 a2;obtain ⟨c1,c2⟩:=nd1_ren hi hg hx.2.2.1 b2;obtain ⟨d1,d2⟩:=nd1_ren hi hg hx.2.2.2 c2;exact ⟨by rw [a1,b1,c1,d1],d2⟩
theorem nds_push1 (l:List El) (x:El):nds (l++ [x])=nd4 (nds l) x:=by unfold nds;rw [List.foldl_append];rfl
theorem RenM.take (h:RenM f P l m):∀k,k≤l.length→nds (m.take k)=(nds (l.take k)).map f∧∀t∈nds (l.take k),P t
 | 0,_=> ⟨by simp [nds],by simp [nds]⟩
 | k+1,hk=> by
  obtain ⟨h1,h2⟩:=h.take k (by omega);have hx:l[k]? =some l[k]:=List.getElem?_eq_getElem (by omega);have hy:m[k]? =some (m[k]'(by rw [h.len];omega)):=List.getElem?_eq_getElem (by rw [h.len];omega);rw [List.take_succ_eq_append_getElem (show k < l.length by omega),List.take_succ_eq_append_getElem (show k < m.length by rw [h.len];omega),nds_push1,nds_push1,h1];obtain ⟨_,_,h3⟩:=h.el k _ _ hx hy;exact nd4_ren h.inj h.gd (h.mem _ (List.getElem_mem _)) h3 h2
theorem RenM.nodes (h:RenM f P l m):nds m=(nds l).map f∧∀t∈nds l,P t:=by
 have:=h.take l.length (Nat.le_refl _)
 rwa [List.take_of_length_le (by rw [h.len];exact Nat.le_refl _),List.take_of_length_le (Nat.le_refl _)] at this
theorem isBr_eq {x y:El} (h:y.kind=x.kind):isBr y=isBr x:=by unfold isBr;rw [h]
theorem RenM.brl (h:RenM f P l m):∀k,k≤l.length→(brs (m.take k)).length=(brs (l.take k)).length
 | 0,_=> by simp [brs]
 | k+1,hk=> by
  have hx:l[k]? =some l[k]:=List.getElem?_eq_getElem (by omega);have hy:m[k]? =some (m[k]'(by rw [h.len];omega)):=List.getElem?_eq_getElem (by rw [h.len];omega);rw [brs_take_succ hx,brs_take_succ hy,h.brl k (by omega),isBr_eq (h.el k _ _ hx hy).1]
theorem RenM.bn (h:RenM f P l m):(brs m).length=(brs l).length:=by
 have:=h.brl l.length (Nat.le_refl _)
 rwa [List.take_of_length_le (by rw [h.len];exact Nat.le_refl _),List.take_of_length_le (Nat.le_refl _)] at this
theorem RenM.nn (h:RenM f P l m):(nds m).length=(nds l).length:=by rw [h.nodes.1,List.length_map]
theorem RenM.sz (h:RenM f P l m):szL m=szL l:=by unfold szL;rw [h.nn,h.bn]
theorem RenM.hasN (h:RenM f P l m) {s:ByteArray} (hs:P s):has (nds m) (f s)=has (nds l) s:=by rw [h.nodes.1];exact has_ren h.inj hs h.nodes.2
theorem RenM.plN (h:RenM f P l m) {s:ByteArray} (hs:P s):plI (nds m) (f s)=plI (nds l) s:=by rw [h.nodes.1];exact plI_ren h.inj hs h.nodes.2
theorem RenM.row (h:RenM f P l m) {s:ByteArray} (hs:P s):rowI m (f s)=rowI l s:=by unfold rowI;rw [h.hasN hs,h.plN hs]
theorem RenM.br (h:RenM f P l m) {k:Nat} {x y:El} (hx:l[k]? =some x) (hy:m[k]? =some y) (hb:isBr x=true):plI (brs m) y.name=plI (brs l) x.name:=by
 have hk:=(List.getElem?_eq_some_iff.1 hx).1;rw [(br_index h.u1 hx hb).2,(br_index h.u2 hy (by rw [isBr_eq (h.el k _ _ hx hy).1];exact hb)).2,h.brl k (by omega)]
theorem RenM.brI (h:RenM f P l m) {k:Nat} {x y:El} (hx:l[k]? =some x) (hy:m[k]? =some y) (hb:isBr x=true):brI m y.name=brI l x.name:=by
 unfold Go.Proofs.YtaegmlhfecfgkaaGreatDoor.brI;rw [h.nn,h.br hx hy hb]
theorem adm_same {x y:El} (om:Nat) (hk:y.kind=x.kind) (hv:x.kind≠4→x.kind≠5→y.val=x.val) (hx:checkE x=0) (hy:checkE y=0):admS y om=admS x om:=by
 unfold admS mayE admB isAd;rw [hk,hx,hy]
 by_cases h4:x.kind=4
 · rw [h4]
   by_cases ha:angE om=0
   · rw [if_pos ha];rfl
   · rw [if_neg ha,if_neg ha,if_neg ha]
 · by_cases h5:x.kind=5
   · rw [h5]
     by_cases ha:angE om=0
     · rw [if_pos ha];rfl
     · rw [if_neg ha,if_neg ha,if_neg ha]
   · rw [hv h4 h5]
theorem src_same {x y:El} (hk:y.kind=x.kind) (hv:y.val=x.val) (hp:y.ph=x.ph) (hx:checkE x=0) (hy:checkE y=0):srcS y=srcS x:=by
 unfold srcS;rw [hk,hv,hp,hx,hy]
theorem RenM.st (h:RenM f P l m) {k:Nat} {x y:El} (hx:l[k]? =some x) (hy:m[k]? =some y) (z:Cx):stOf m y z=stOf l x z:=by
 obtain ⟨e1,e2,e4,e5,e6,e7⟩:=h.el k x y hx hy;obtain ⟨p1,p2,p3,p4⟩:=h.mem x (List.mem_of_getElem? hx);unfold stOf isAd;rw [e1,e4,e5,e6,e7,h.row p1,h.row p2,h.row p3,h.row p4];have e2':x.kind=6∨x.kind=7→y.val=x.val:=fun hk=> e2 (by omega) (by omega)
 by_cases h6:x.kind=6
 · rw [e2' (.inl h6),if_pos h6,if_pos h6]
 · rw [if_neg h6,if_neg h6]
   by_cases h5:x.kind=5
   · rw [h.brI hx hy (by unfold isBr;rw [h5];rfl),if_pos h5,if_pos h5]
   · rw [if_neg h5,if_neg h5]
     by_cases h7:x.kind=7
     · rw [h.brI hx hy (by unfold isBr;rw [h7];rfl),e2' (.inr h7)]
     · rw [if_neg h7,if_neg h7]
theorem RenM.step (h:RenM f P l m) {k:Nat} {x y:El} (hx:l[k]? =some x) (hy:m[k]? =some y) (om:Nat) (q:Nat→Cx):stStep m om q y=stStep l om q x:=by
 obtain ⟨e1,e2,_⟩:=h.el k x y hx hy;have ha:=adm_same om e1 e2 (h.c1 x (List.mem_of_getElem? hx)) (h.c2 y (List.mem_of_getElem? hy));unfold stStep;rw [ha,h.st hx hy,h.sz];unfold isAd;rw [e1]
theorem RenM.get (h:RenM f P l m) (k:Nat):(l[k]? =none∧m[k]? =none)∨∃x y,l[k]? =some x∧m[k]? =some y:=by
 by_cases hk:k < l.length
 · exact .inr ⟨_,_,List.getElem?_eq_getElem hk,List.getElem?_eq_getElem (by rw [h.len];exact hk)⟩
 · exact .inl ⟨List.getElem?_eq_none (by omega),List.getElem?_eq_none (by rw [h.len];omega)⟩
theorem RenM.mat (h:RenM f P l m) (om:Nat):∀k,matK m om k=matK l om k
 | 0=> rfl
 | k+1=> by
  have ih:=h.mat om k;rcases h.get k with ⟨h1,h2⟩ | ⟨x,y,h1,h2⟩
  · unfold matK;rw [h1,h2];exact ih
  · rw [matK_succ h1,matK_succ h2,ih,h.step h1 h2]
theorem RenM.matR (h:RenM f P l m) (om:Nat):∀ (j k:Nat) (q:Nat→Cx),k+j=l.length→matR m om k (m.drop k) q=matR l om k (l.drop k) q
 | 0,k,q,hk=> by
  rw [List.drop_eq_nil_of_le (by rw [h.len];omega),List.drop_eq_nil_of_le (by omega)];rfl
 | j+1,k,q,hk=> by
  have hl:k < l.length:=by omega
  have hm:k < m.length:=by rw [h.len];exact hl
  rw [List.drop_eq_getElem_cons hl,List.drop_eq_getElem_cons hm];unfold Go.Proofs.YtaegmlhfecfgkaaGreatDoor.matR;rw [h.step (List.getElem?_eq_getElem hl) (List.getElem?_eq_getElem hm)]
  split
  · exact h.matR om j (k+1) _ (by omega)
  · rfl
theorem RenM.matS (h:RenM f P l m) (b:Bool) (om:Nat):matS b m om=matS b l om:=by
 have h1:=h.matR om l.length 0 (fun _=> cZero) (by omega);rw [List.drop_zero,List.drop_zero] at h1;unfold Go.Proofs.YtaegmlhfecfgkaaGreatDoor.matS;rw [h1,h.sz]
theorem RenM.put (h:RenM f P l m) {s:ByteArray} (hs:P s) (r:Nat→Cx) (g:Cx→Cx):putS m r (f s) g=putS l r s g:=by
 unfold putS;rw [h.hasN hs,h.plN hs]
theorem RenAll.rgt1 (h:RenAll f P l m) {k:Nat} {x y:El} (hx:l[k]? =some x) (hy:m[k]? =some y) (r:Nat→Cx):rgtS m r y=rgtS l r x:=by
 obtain ⟨e1,_,e4,e5,_⟩:=h.el k x y hx hy;obtain ⟨e2,e3⟩:=h.ev k x y hx hy;obtain ⟨p1,p2,_⟩:=h.mem x (List.mem_of_getElem? hx);have hs:=src_same e1 e2 e3 (h.c1 x (List.mem_of_getElem? hx)) (h.c2 y (List.mem_of_getElem? hy));unfold rgtS;rw [hs,e1,e4,e5,h.put p1,h.put p2]
 by_cases h5:x.kind=5
 · unfold brAt;rw [h.nn,h.br hx hy (by unfold isBr;rw [h5];rfl)]
 · rw [if_neg h5,if_neg h5]
theorem RenAll.rgtK (h:RenAll f P l m):∀k,rgtK m k=rgtK l k
 | 0=> rfl
 | k+1=> by
  have ih:=h.rgtK k;rcases h.get k with ⟨h1,h2⟩ | ⟨x,y,h1,h2⟩
  · unfold Go.Proofs.YtaegmlhfecfgkaaGreatDoor.rgtK;rw [h1,h2];exact ih
  · rw [rgtK_succ h1,rgtK_succ h2,ih,h.rgt1 h1 h2]
theorem RenAll.rgt (h:RenAll f P l m) (b:Bool):rgtE b m=rgtE b l:=by
 have hb:rgtBad m=rgtBad l:=by
  unfold rgtBad;rw [h.len]
  congr 1
  funext k
  rw [h.rgtK k];rcases h.get k with ⟨h1,h2⟩ | ⟨x,y,h1,h2⟩
  · rw [h1,h2]
  · rw [h1,h2];show (!(rgtS m (Go.Proofs.YtaegmlhfecfgkaaGreatDoor.rgtK l k) y).2)=!(rgtS l (Go.Proofs.YtaegmlhfecfgkaaGreatDoor.rgtK l k) x).2;rw [h.rgt1 h1 h2]
 unfold rgtE;rw [hb,h.nn,h.bn,h.len,h.rgtK]
theorem RenM.gx (h:RenM f P l m) {s:ByteArray} (hs:P s):gIx m (f s)=gIx l s:=by
 unfold gIx;rw [h.hasN hs,h.plN hs]
theorem RenM.up (h:RenM f P l m):∀k,upK m k=upK l k
 | 0=> by unfold upK;rw [h.nn]
 | k+1=> by
  have ih:=h.up k;unfold upK;rcases h.get k with ⟨h1,h2⟩ | ⟨x,y,h1,h2⟩
  · rw [h1,h2];exact ih
  · obtain ⟨e1,_,e4,e5,_⟩:=h.el k x y h1 h2;obtain ⟨p1,p2,_⟩:=h.mem x (List.mem_of_getElem? h1);rw [h1,h2];show (if joinsE y=true then joinU (upK m k) (gIx m y.a) (gIx m y.b) else upK m k)=if joinsE x=true then joinU (upK l k) (gIx l x.a) (gIx l x.b) else upK l k;rw [ih,e4,e5,h.gx p1,h.gx p2];unfold joinsE;rw [e1]
theorem RenM.grd (h:RenM f P l m) (b:Bool):grdS b m=grdS b l:=by
 unfold grdS grdU;rw [h.nn,h.len,h.up]
theorem RenM.withS (h:RenM f P l m) (b:Bool) (om:Nat) (r:List Cx):withS b m om r=withS b l om r:=by
 unfold Go.Proofs.YtaegmlhfecfgkaaGreatDoor.withS;rw [h.sz,h.grd,h.matS,h.len,h.mat]
theorem RenAll.solS (h:RenAll f P l m) (b:Bool) (om:Nat):solS b m om=solS b l om:=by
 unfold Go.Proofs.YtaegmlhfecfgkaaGreatDoor.solS;rw [h.grd,h.matS,h.rgt,h.withS]
end
end Go.Proofs.YtaegmlhfecfgkaaGreatDoor
