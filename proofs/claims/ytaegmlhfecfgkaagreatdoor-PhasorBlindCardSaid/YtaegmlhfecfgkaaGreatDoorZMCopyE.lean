/- a part of the proof of the last text -/
import Derived.Test.YtaegmlhfecfgkaaGreatDoorZMAdm2
namespace Go.Proofs.YtaegmlhfecfgkaaGreatDoor
set_option linter.all false
set_option maxHeartbeats 4000000
set_option maxRecDepth 100000
section
open Go.RowKit
structure St where
 sub:Bool
 i:Int
 j:Int
 y:Cx
abbrev StS:=(Nat→Cx) × Bool
def stZ (n:Nat) (m:Nat→Cx) (t:St):Cx:=if t.sub then csub (m (t.i * n+t.j).toNat) t.y else cadd (m (t.i * n+t.j).toNat) t.y
def st1 (n:Nat) (s:StS) (t:St):StS:=if t.i < 0∨t.j < 0 then s else (upd s.1 (t.i * n+t.j).toNat (stZ n s.1 t),s.2 || !cfin (stZ n s.1 t))
theorem st1_no {n:Nat} {s:StS} {t:St} (h:t.i < 0∨t.j < 0):st1 n s t=s:=by unfold st1;rw [if_pos h]
theorem st1_yes {n:Nat} {s:StS} {t:St} (h:¬(t.i < 0∨t.j < 0)):st1 n s t=(upd s.1 (t.i * n+t.j).toNat (stZ n s.1 t),s.2 || !cfin (stZ n s.1 t)):=by unfold st1;rw [if_neg h]
theorem heap_laterS {w w':World} {g:Nat} {o:Obj} (hb:Below w.heap.size w w') (h:w.heap[g]? =some o):w'.heap[g]? =some o:=(hb.block g (Array.getElem?_eq_some_iff.1 h).1).trans h
theorem blk_setS {w:World} {g o:Nat} {cs:Array Value} {t:TypeId} {f:Nat × Nat} (h:w.heap[g]? =some (.cells cs t f)) (v:Value):(w.setCell ⟨g,o,none⟩ v).heap[g]? =some (.cells (cs.setIfInBounds o v) t f):=by
 unfold World.setCell
 simp [Array.getElem?_modify,h]
theorem grown_setS (w:World) (g o:Nat) (v:Value):w.grownBy (w.setCell ⟨g,o,none⟩ v) (some g):=
 ⟨rfl,rfl,rfl,by simp,fun k _ hk=> Below.heap_setCell w ⟨g,o,none⟩ v k (fun e=> hk (by rw [e]))⟩
end
section
open Go.RowKit
def rowI (l:List El) (s:ByteArray):Int:=if has (nds l) s=true then plI (nds l) s else -1
def brI (l:List El) (s:ByteArray):Int:=(nds l).length+plI (brs l) s
def szL (l:List El):Nat:=(nds l).length+(brs l).length
def cOne:Cx:=(fone,fc 0)
def stPair (i j:Int) (y:Cx):List St:= [⟨false,i,i,y⟩,⟨false,j,j,y⟩,⟨true,i,j,y⟩,⟨true,j,i,y⟩]
def stTrans (i j k q:Int) (g:Cx):List St:= [⟨false,i,k,g⟩,⟨true,i,q,g⟩,⟨true,j,k,g⟩,⟨false,j,q,g⟩]
def stBr (i j m:Int):List St:= [⟨false,i,m,cOne⟩,⟨false,m,i,cOne⟩,⟨true,j,m,cOne⟩,⟨true,m,j,cOne⟩]
def stAmp (m k q:Int) (g:Cx):List St:= [⟨true,m,k,g⟩,⟨false,m,q,g⟩]
def stOf (l:List El) (x:El) (y:Cx):List St:=
 if isAd x=true then stPair (rowI l x.a) (rowI l x.b) y
 else if x.kind=6 then stTrans (rowI l x.a) (rowI l x.b) (rowI l x.c) (rowI l x.d) (fc x.val,fc 0)
 else if x.kind=5 then stBr (rowI l x.a) (rowI l x.b) (brI l x.name)
 else if x.kind=7 then stBr (rowI l x.a) (rowI l x.b) (brI l x.name)++stAmp (brI l x.name) (rowI l x.c) (rowI l x.d) (fc x.val,fc 0)
 else []
def stStep (l:List El) (om:Nat) (m:Nat→Cx) (x:El):(Nat→Cx) × Int:=
 if isAd x=true∧(admS x om).2≠0 then (m,(admS x om).2)
 else (((stOf l x (admS x om).1).foldl (st1 (szL l)) (m,false)).1,if ((stOf l x (admS x om).1).foldl (st1 (szL l)) (m,false)).2=true then 6 else 0)
def matR (l:List El) (om:Nat):Nat→List El→(Nat→Cx)→(Nat→Cx) × Int × Int
 | _, [],m=> (m,0,0)
 | k,x::r,m=> if (stStep l om m x).2=0 then matR l om (k+1) r (stStep l om m x).1 else (m,(stStep l om m x).2,k)
def cZero:Cx:=(fc 0,fc 0)
def matS (b:Bool) (l:List El) (om:Nat):(Nat × List Cx) × (Int × Int):=
 if b=true then ((0, []),(1,-1)) else if angE om≠0 then ((0, []),(angE om,-1))
 else if (matR l om 0 l fun _=> cZero).2.1=0 then ((szL l,(List.range (szL l * szL l)).map (matR l om 0 l fun _=> cZero).1),(0,0))
 else ((0, []),(matR l om 0 l fun _=> cZero).2)
theorem mat_none {l:List El} {om:Nat}:matS true l om=((0, []),(1,-1)):=by unfold matS;rw [if_pos rfl]
theorem mat_ang {l:List El} {om:Nat} (h:angE om≠0):matS false l om=((0, []),(angE om,-1)):=by unfold matS;rw [if_neg (by simp),if_pos h]
def matK (l:List El) (om:Nat):Nat→(Nat→Cx)
 | 0=> fun _=> cZero
 | k+1=> match l[k]? with | some x=> (stStep l om (matK l om k) x).1 | none=> matK l om k
theorem matK_succ {l:List El} {om k:Nat} {x:El} (h:l[k]? =some x):matK l om (k+1)=(stStep l om (matK l om k) x).1:=by simp only [matK,h]
theorem matR_at {l:List El} {om:Nat}:∀ (j k:Nat),k+j=l.length→(∀ (i:Nat) (x:El),i < k→l[i]? =some x→(stStep l om (matK l om i) x).2=0)→matR l om 0 l (fun _=> cZero)=matR l om k (l.drop k) (matK l om k):=by
 intro j;have key:∀k,k≤l.length→(∀ (i:Nat) (x:El),i < k→l[i]? =some x→(stStep l om (matK l om i) x).2=0)→matR l om 0 l (fun _=> cZero)=matR l om k (l.drop k) (matK l om k):=by
  intro k
  induction k with
  | zero=> intro _ _;rfl
  | succ k ih=>
   intro hk h;have hx:l[k]? =some l[k]:=List.getElem?_eq_getElem (by omega);rw [ih (by omega) (fun i x hi hx=> h i x (by omega) hx),List.drop_eq_getElem_cons (by omega)]
   conv=> lhs;unfold matR
   rw [if_pos (h k _ (by omega) hx),matK_succ hx]
 intro k hk h;exact key k (by omega) h
theorem mat_stop {l:List El} {om k:Nat} {x:El} (ha:angE om=0) (hx:l[k]? =some x) (h:∀ (i:Nat) (x:El),i < k→l[i]? =some x→(stStep l om (matK l om i) x).2=0) (hb:(stStep l om (matK l om k) x).2≠0):
 matS false l om=((0, []),((stStep l om (matK l om k) x).2,(k:Int))):=by
 have hk:=(List.getElem?_eq_some_iff.1 hx).1;have e:=(List.getElem?_eq_some_iff.1 hx).2;have h1:=matR_at (l:=l) (om:=om) (l.length - k) k (by omega) h;rw [List.drop_eq_getElem_cons hk,e] at h1;have h2:matR l om k (x::l.drop (k+1)) (matK l om k)=(matK l om k,(stStep l om (matK l om k) x).2,(k:Int)):=by
  conv=> lhs;unfold matR
  rw [if_neg hb]
 rw [h2] at h1;unfold matS;rw [if_neg (by simp),if_neg (by simpa using ha),h1,if_neg hb]
theorem mat_done {l:List El} {om:Nat} (ha:angE om=0) (h:∀ (i:Nat) (x:El),l[i]? =some x→(stStep l om (matK l om i) x).2=0):
 matS false l om=((szL l,(List.range (szL l * szL l)).map (matK l om l.length)),(0,0)):=by
 have h1:=matR_at (l:=l) (om:=om) 0 l.length (by omega) (fun i x _ hx=> h i x hx);rw [List.drop_length] at h1;unfold matS;rw [if_neg (by simp),if_neg (by simpa using ha),h1];unfold matR;rw [if_pos rfl]
theorem rowI_lt (l:List El) (s:ByteArray):rowI l s < (nds l).length:=by
 unfold rowI
 split
 · rename_i h;unfold plI;rw [if_pos h];have:(nds l).findIdx (fun t=> t.toList==s.toList) < (nds l).length:=by
    rw [List.findIdx_lt_length];unfold has at h
    simpa using h
   omega
 · omega
end
section
open Go.RowKit
theorem check_isK {x:El} (h:checkE x=0):isK x.kind=true:=by
 unfold checkE at h
 split at h
 · assumption
 · cases h
theorem firstBad_none {l:List El}:∀ {r:List El} {k:Nat},firstBad l k r=none→∀ (j:Nat) (e:El),r[j]? =some e→bad1 l (k+j) e=0
 | [],_,_,j,e,h=> by simp at h
 | x::r,k,hf,j,e,h=> by
  unfold firstBad at hf
  split at hf
  · rename_i h0;cases j with
    | zero=> simp at h;subst h;exact h0
    | succ j=>
     have:=firstBad_none hf j e (by simpa using h);rw [show k+(j+1)=k+1+j by omega];exact this
  · cases hf
theorem ofL_true {l:List El} (h:(ofL l).1=true):l.length≤256∧∀x∈l,checkE x=0:=by
 unfold ofL at h
 split at h
 · cases h
 · rename_i hl;refine ⟨by omega,fun x hx=> ?_⟩
   split at h
   · cases h
   · rename_i hf;obtain ⟨j,hj⟩:=List.getElem?_of_mem hx;have:=firstBad_none hf j x hj;unfold bad1 at this
     split at this
     · assumption
     · exact this
theorem no_empty {l:List El} (h:∀x∈l,checkE x=0):has (l.map El.name) ⟨#[]⟩=false:=by
 cases hh:has (l.map El.name) ⟨#[]⟩ with
 | false=> rfl
 | true=>
  exfalso
  unfold has at hh;simp only [List.any_eq_true,List.mem_map] at hh;obtain ⟨s,⟨x,hx,rfl⟩,he⟩:=hh;have h0:=h x hx;have he2:x.name.toList= []:=by simpa using he
  have hn:nameK x.name=0:=by
   rw [(same_iff x.name ⟨#[]⟩).1 (by rw [he2,toList_data];rfl)];rfl
  unfold checkE at h0;unfold nameBad at h0;rw [hn] at h0
  simp at h0
  split at h0 <;> simp at h0
theorem ofL_size {l:List El} (h:(ofL l).1=true):(nds l).length≤32∧(nds l).length+(brs l).length≤64:=by
 unfold ofL at h
 split at h
 · cases h
 · split at h
   · cases h
   · split at h
     · cases h
     · rename_i hh
       omega
theorem nn_form {w:World} {p:Value} {l:List El} (h:NN w p l):∃pa:Option Addr,p=.pointer pa∧noNet p=pa.isNone:=by
 rcases h with ⟨rfl,_⟩ | ⟨_,g,_,_,_,_,_,_,rfl,_⟩
 · exact ⟨none,rfl,rfl⟩
 · exact ⟨some ⟨g,0,none⟩,rfl,rfl⟩
end
section
open Go.RowKit
structure NetG (l:List El):Prop where
 len:l.length≤256
 ok:∀x∈l,x.Ok
 ck:∀x∈l,checkE x=0
 nm:has (l.map El.name) ⟨#[]⟩=false
 sz:szL l≤64
theorem netg_of {l:List El} (h:(ofL l).1=true) (hok:∀x∈l,x.Ok):NetG l:=by
 obtain ⟨h1,h2⟩:=ofL_true h;exact ⟨h1,hok,h2,no_empty h2,(ofL_size h).2⟩
end
section
open Go.RowKit
end
section
open Go.RowKit
theorem missing_any (p:Value) (l:List El) (w:World) (hp:NN w p l) (hn:has (l.map El.name) ⟨#[]⟩=false):
 Calls Tryz.prog 34 #[p] w (fun e w'=> e=.returned (.bool (noNet p))∧w=w'):=by
 have HP:=hid hp;have HN:=hid hn;cases hq:noNet p
 all_goals
  have HQ:=hid hq;clear hq;go_enter Tryz.func34,Tryz.ntmps34;go_wp2_with (go_at_call 67;refine (nwithout_none _ l _ HP.out HN.out).mono ?_;rintro e w' ⟨rfl,rfl⟩;rw [HQ.out]);go_ret;exact ⟨rfl,rfl⟩
end
section
open Go.RowKit
def joinsE (x:El):Bool:=x.kind !=4 && x.kind !=6
def gIx (l:List El) (s:ByteArray):Nat:=if has (nds l) s=true then (plI (nds l) s).toNat+1 else 0
def rootF (up:List Nat):Nat→Nat→Nat
 | 0,k=> k
 | f+1,k=> if up.getD k 0=k then k else rootF up f (up.getD k 0)
def Fine (up:List Nat):Prop:=∀k,k < up.length→up.getD k 0≤k
def rootOf (up:List Nat) (k:Nat):Nat:=rootF up (k+1) k
theorem rootF_more {up:List Nat} (h:Fine up):∀ (f g k:Nat),k < up.length→k < f→k < g→rootF up f k=rootF up g k
 | 0,_,_,_,h1,_=> by omega
 | _,0,_,_,_,h2=> by omega
 | f+1,g+1,k,hk,h1,h2=> by
  unfold rootF
  split
  · rfl
  · have:=h k hk;exact rootF_more h f g _ (by omega) (by omega) (by omega)
theorem root_step {up:List Nat} (h:Fine up) {k:Nat} (hk:k < up.length):rootOf up k=if up.getD k 0=k then k else rootOf up (up.getD k 0):=by
 have h1:=h k hk;show rootF up (k+1) k=_;unfold rootF
 split
 · rfl
 · exact rootF_more h _ _ _ (by omega) (by omega) (by omega)
theorem root_le {up:List Nat} (h:Fine up):∀ (k:Nat),k < up.length→rootOf up k≤k:=by
 intro k
 induction k using Nat.strongRecOn with
 | _ k ih=>
  intro hk;rw [root_step h hk]
  split
  · omega
  · have:=h k hk;have:=ih (up.getD k 0) (by omega) (by omega)
    omega
theorem root_fix {up:List Nat} (h:Fine up):∀ (k:Nat),k < up.length→up.getD (rootOf up k) 0=rootOf up k:=by
 intro k
 induction k using Nat.strongRecOn with
 | _ k ih=>
  intro hk;rw [root_step h hk]
  split
  · assumption
  · have:=h k hk;exact ih _ (by omega) (by omega)
theorem getD_set {up:List Nat} {i j k:Nat} (hi:i < up.length):(up.set i j).getD k 0=if k=i then j else up.getD k 0:=by
 rw [List.getD_eq_getElem?_getD,List.getD_eq_getElem?_getD]
 by_cases e:k=i
 · subst e;rw [List.getElem?_set_self hi,if_pos rfl];rfl
 · rw [List.getElem?_set_ne (Ne.symm e),if_neg e]
theorem fine_set {up:List Nat} {i j:Nat} (h:Fine up) (hi:i < up.length) (hj:j≤i):Fine (up.set i j):=fun k hk=> by
 rw [getD_set hi]
 split
 · omega
 · exact h k (by simpa using hk)
theorem root_set {up:List Nat} {i j:Nat} (h:Fine up) (hi:i < up.length) (hj:j≤i) (fi:up.getD i 0=i) (fj:up.getD j 0=j):
 ∀ (k:Nat),k < up.length→rootOf (up.set i j) k=if rootOf up k=i then j else rootOf up k:=by
 have h':=fine_set h hi hj;have hlen:(up.set i j).length=up.length:=by simp
 have hroot_j:rootOf (up.set i j) j=j:=by
  rw [root_step h' (by omega),getD_set hi]
  by_cases e:j=i
  · rw [if_pos e,if_pos rfl]
  · rw [if_neg e,if_pos fj]
 intro k
 induction k using Nat.strongRecOn with
 | _ k ih=>
  intro hk;rw [root_step h' (by omega),root_step h hk,getD_set hi]
  by_cases e:k=i
  · subst e;rw [if_pos rfl,if_pos fi,if_pos rfl]
    by_cases e2:j=k
    · rw [if_pos e2,e2]
    · rw [if_neg e2,hroot_j]
  · rw [if_neg e]
    by_cases e2:up.getD k 0=k
    · rw [if_pos e2,if_pos e2,if_neg e]
    · rw [if_neg e2,if_neg e2];have:=h k hk;exact ih _ (by omega) (by omega)
def joinU (up:List Nat) (a b:Nat):List Nat:=up.set (max (rootOf up a) (rootOf up b)) (min (rootOf up a) (rootOf up b))
theorem joinU_ok {up:List Nat} (h:Fine up) {a b:Nat} (ha:a < up.length) (hb:b < up.length):Fine (joinU up a b)∧(joinU up a b).length=up.length∧
 ∀k,k < up.length→rootOf (joinU up a b) k=if rootOf up k=max (rootOf up a) (rootOf up b) then min (rootOf up a) (rootOf up b) else rootOf up k:=by
 have r1:=root_le h a ha;have r2:=root_le h b hb;have f1:=root_fix h a ha;have f2:=root_fix h b hb;have hmx:up.getD (max (rootOf up a) (rootOf up b)) 0=max (rootOf up a) (rootOf up b):=by
  rcases Nat.le_total (rootOf up a) (rootOf up b) with e | e
  · rw [Nat.max_eq_right e];exact f2
  · rw [Nat.max_eq_left e];exact f1
 have hmn:up.getD (min (rootOf up a) (rootOf up b)) 0=min (rootOf up a) (rootOf up b):=by
  rcases Nat.le_total (rootOf up a) (rootOf up b) with e | e
  · rw [Nat.min_eq_left e];exact f1
  · rw [Nat.min_eq_right e];exact f2
 exact ⟨fine_set h (by omega) (by omega),by simp [joinU],fun k hk=> root_set h (by omega) (by omega) hmx hmn k hk⟩
def joinP (p:List Nat) (a b:Nat):List Nat:=p.map fun x=> if x=p.getD a 0 then p.getD b 0 else x
theorem joinP_get {p:List Nat} {a b k:Nat} (hk:k < p.length):(joinP p a b).getD k 0=if p.getD k 0=p.getD a 0 then p.getD b 0 else p.getD k 0:=by
 unfold joinP;rw [List.getD_eq_getElem?_getD,List.getElem?_map,List.getElem?_eq_getElem hk,List.getD_eq_getElem?_getD (l:=p) (i:=k),List.getElem?_eq_getElem hk];rfl
structure Alike (up p:List Nat):Prop where
 fine:Fine up
 len:p.length=up.length
 same:∀a b,a < up.length→b < up.length→(rootOf up a=rootOf up b ↔ p.getD a 0=p.getD b 0)
theorem Alike.join {up p:List Nat} (h:Alike up p) {a b:Nat} (ha:a < up.length) (hb:b < up.length):Alike (joinU up a b) (joinP p a b):=by
 obtain ⟨h1,h2,h3⟩:=joinU_ok h.fine ha hb;refine ⟨h1,by simp [joinP,h2,h.len],fun x y hx hy=> ?_⟩;rw [h2] at hx hy;rw [h3 x hx,h3 y hy,joinP_get (by rw [h.len];exact hx),joinP_get (by rw [h.len];exact hy)];have xa:=h.same x a hx ha;have xb:=h.same x b hx hb;have ya:=h.same y a hy ha;have yb:=h.same y b hy hb;have xy:=h.same x y hx hy;generalize rootOf up x=rx at *;generalize rootOf up y=ry at *;generalize rootOf up a=ra at *;generalize rootOf up b=rb at *;generalize p.getD x 0=px at *;generalize p.getD y 0=py at *;generalize p.getD a 0=pa at *;generalize p.getD b 0=pb at *;have L1:∀r:Nat,(if r=max ra rb then min ra rb else r)=(if r=ra∨r=rb then min ra rb else r):=fun r=> by split <;> split <;> omega
 have L2:∀q:Nat,(if q=pa then pb else q)=(if q=pa∨q=pb then pb else q):=fun q=> by split <;> split <;> omega
 rw [L1,L1,L2,L2];have cx:(rx=ra∨rx=rb) ↔ (px=pa∨px=pb):=or_congr xa xb;have cy:(ry=ra∨ry=rb) ↔ (py=pa∨py=pb):=or_congr ya yb
 by_cases hx1:rx=ra∨rx=rb <;> by_cases hy1:ry=ra∨ry=rb
 · rw [if_pos hx1,if_pos hy1,if_pos (cx.1 hx1),if_pos (cy.1 hy1)];simp
 · have hy2:=fun h=> hy1 (cy.2 h)
   rw [if_pos hx1,if_neg hy1,if_pos (cx.1 hx1),if_neg hy2]
   constructor <;> intro h <;> omega
 · have hx2:=fun h=> hx1 (cx.2 h)
   rw [if_neg hx1,if_pos hy1,if_neg hx2,if_pos (cy.1 hy1)]
   constructor <;> intro h <;> omega
 · rw [if_neg hx1,if_neg hy1,if_neg (fun h=> hx1 (cx.2 h)),if_neg (fun h=> hy1 (cy.2 h))];exact xy
def upK (l:List El):Nat→List Nat
 | 0=> List.range ((nds l).length+1)
 | k+1=> match l[k]? with
  | some x=> if joinsE x=true then joinU (upK l k) (gIx l x.a) (gIx l x.b) else upK l k
  | none=> upK l k
def ptK (l:List El):Nat→List Nat
 | 0=> List.range ((nds l).length+1)
 | k+1=> match l[k]? with
  | some x=> if joinsE x=true then joinP (ptK l k) (gIx l x.a) (gIx l x.b) else ptK l k
  | none=> ptK l k
theorem gIx_lt (l:List El) (s:ByteArray):gIx l s < (nds l).length+1:=by
 unfold gIx
 split
 · rename_i h;unfold plI;rw [if_pos h];have:(nds l).findIdx (fun t=> t.toList==s.toList) < (nds l).length:=by
    rw [List.findIdx_lt_length];unfold has at h
    simpa using h
   omega
 · omega
theorem range_getD {n k:Nat} (h:k < n):(List.range n).getD k 0=k:=by
 rw [List.getD_eq_getElem?_getD,List.getElem?_range h];rfl
theorem fine_range (n:Nat):Fine (List.range n):=fun k hk=> by rw [range_getD (by simpa using hk)];exact Nat.le_refl _
theorem root_range {n k:Nat} (h:k < n):rootOf (List.range n) k=k:=by
 rw [root_step (fine_range n) (by simpa using h),range_getD h,if_pos rfl]
theorem upK_len (l:List El):∀k,Alike (upK l k) (ptK l k)∧(upK l k).length=(nds l).length+1
 | 0=> ⟨⟨fine_range _,by simp [upK,ptK],fun a b ha hb=> by
  simp only [upK,List.length_range] at ha hb;simp only [upK,ptK];rw [root_range ha,root_range hb,range_getD ha,range_getD hb]⟩,by simp [upK]⟩
 | k+1=> by
  obtain ⟨h1,h2⟩:=upK_len l k;unfold upK ptK;cases hx:l[k]? with
  | none=> exact ⟨h1,h2⟩
  | some x=>
   simp only
   split
   · have ha:gIx l x.a < (upK l k).length:=by rw [h2];exact gIx_lt l _
     have hb:gIx l x.b < (upK l k).length:=by rw [h2];exact gIx_lt l _
     exact ⟨h1.join ha hb,by rw [(joinU_ok h1.fine ha hb).2.1,h2]⟩
   · exact ⟨h1,h2⟩
def grdU (l:List El):Option Nat:=(List.range (nds l).length).find? fun i=> rootOf (upK l l.length) (i+1) !=0
def grdS (b:Bool) (l:List El):Int × Int:=if b=true then (1,-1) else match grdU l with
 | some i=> (11,i)
 | none=> (0,0)
end
section
open Go.RowKit
def gnds (l:List El):List ByteArray:=⟨#[48]⟩::nds l
theorem gnds_len (l:List El):(gnds l).length=(nds l).length+1:=by simp [gnds]
theorem gnds_take {l:List El} {k:Nat} {t:ByteArray} (h:(nds l)[k]? =some t):(gnds l).take (k+2)=(gnds l).take (k+1)++ [t]:=by
 unfold gnds;rw [List.take_succ_cons,List.take_succ_cons,List.take_add_one,h];rfl
theorem nd1_gnd {acc:List ByteArray} {s t:ByteArray} (hs:gnd s=true) (h:has acc s=false):has (nd1 acc t) s=false:=by
 unfold nd1
 split
 · exact h
 · rename_i h2;rw [has_app,h,Bool.false_or];cases e:(t.toList==s.toList)
   · rfl
   · exfalso
     rw [(same_iff t s).1 e,hs] at h2
     simp at h2
theorem fold_gnd {s:ByteArray} (hs:gnd s=true):∀ (r acc:List ByteArray),has acc s=false→has (r.foldl nd1 acc) s=false
 | [],_,h=> h
 | t::r,_,h=> fold_gnd hs r _ (nd1_gnd hs h)
theorem nds_gnd {s:ByteArray} (hs:gnd s=true):∀ (l:List El) (acc:List ByteArray),has acc s=false→has (l.foldl nd4 acc) s=false
 | [],_,h=> h
 | x::l,_,h=> nds_gnd hs l _ (fold_gnd hs (fr x) _ h)
theorem gIx_at {l:List El} {s:ByteArray} (h:s=⟨#[48]⟩∨has (nds l) s=true):has (gnds l) s=true∧plI (gnds l) s=gIx l s:=by
 by_cases e:s=⟨#[48]⟩
 · subst e;have h0:has (nds l) ⟨#[48]⟩=false:=nds_gnd (by unfold gnd;rw [toList_data];rfl) l [] rfl;have hg:has (gnds l) ⟨#[48]⟩=true:=by unfold gnds has;rw [List.any_cons];simp
   refine ⟨hg,?_⟩;unfold plI gIx;rw [if_pos hg,h0];unfold gnds;rw [List.findIdx_cons]
   simp
 · have hn:has (nds l) s=true:=h.resolve_left e;have hne:((⟨#[48]⟩:ByteArray).toList==s.toList)=false:=by
    cases e2:((⟨#[48]⟩:ByteArray).toList==s.toList)
    · rfl
    · exact absurd ((same_iff _ _).1 e2).symm e
   have hg:has (gnds l) s=true:=by
    have h1:=hn;unfold has at h1;unfold gnds has;rw [List.any_cons,h1,Bool.or_true]
   refine ⟨hg,?_⟩;unfold plI gIx;rw [if_pos hg,if_pos hn];unfold plI;rw [if_pos hn];unfold gnds;rw [List.findIdx_cons,hne]
   simp
theorem gIx_none {l:List El} {s:ByteArray} (h:has (nds l) s=false):plI (gnds l) s=gIx l s:=by
 by_cases e:s=⟨#[48]⟩
 · exact (gIx_at (.inl e)).2
 · have hne:((⟨#[48]⟩:ByteArray).toList==s.toList)=false:=by
    cases e2:((⟨#[48]⟩:ByteArray).toList==s.toList)
    · rfl
    · exact absurd ((same_iff _ _).1 e2).symm e
   have hg:has (gnds l) s=false:=by
    have h1:=h;unfold has at h1;unfold gnds has;rw [List.any_cons,h1,Bool.or_false,hne]
   unfold plI gIx;rw [if_neg (by rw [hg];simp),if_neg (by rw [h];simp)];rfl
theorem gIx_all (l:List El) (s:ByteArray):plI (gnds l) s=gIx l s:=by
 cases h:has (nds l) s with
 | true=> exact (gIx_at (.inr h)).2
 | false=> exact gIx_none h
end
section
open Go.RowKit
def RetCE (S:Cx × Int) (w:World) (e:Ending) (w':World):Prop:=∃r i,e=.returned (.tuple #[.complex .f64 r i,.int .i64 S.2])∧(fc r,fc i)=S.1∧Below w.heap.size w w'
theorem RetCE.of {S:Cx × Int} {w w':World} {r i:Nat} {k:Int} (h:S=((fc r,fc i),k)) (hb:Below w.heap.size w w'):RetCE S w (.returned (.tuple #[.complex .f64 r i,.int .i64 k])) w':=⟨r,i,by rw [h],by rw [h],hb⟩
end
section
open Go.RowKit
theorem copyelements_any (v:Value) (l:List El) (w:World) (hv:IsSl w 8 v l.length (l.flatMap ea)) (hl:l.length * 104≤140737488355328):
 Calls Tryz.prog 16 #[v] w (RetRow 47 8 l.length (fun xs=> xs=l.flatMap ea) w):=by
 obtain ⟨a,c,rfl⟩:=hv.form;obtain ⟨i0,hi,hz0,hz1,hz2⟩:=info_parts infoEa;go_enter Tryz.func16,Tryz.ntmps16;go_wp2_with (refine wpList_appendAll rfl _ _ _ rfl w.heap.size 47 8 104 i0 (.agg #[.int .u8 0,.string ⟨#[]⟩,.string ⟨#[]⟩,.string ⟨#[]⟩,.string ⟨#[]⟩,.string ⟨#[]⟩,.float .f64 0,.int .i64 0]) Tryz.underlying45 hi hz0 hz1 hz2 rfl (by decide) _ 0 [] (World.ownsRow_nil _ _ _ _) (Nat.le_refl _) _ _ _ hv rfl rfl (by intro u hu;obtain ⟨z,_,hz⟩:=List.mem_flatMap.1 hu;exact ea_one z u hz) (by simp [maxLen];omega) (by omega) ?_;intro v1 w1 hown1 hgr1 hat1);go_ret;refine ⟨_,_,rfl,?_,rfl,(Below.refl _ _).grown hgr1 (Nat.le_refl _) (by intro k e;cases e)⟩
 simpa using hown1
theorem retof_goodR {l:List El} {w w':World} {e:Ending} (h:RetOf RN l w e w') (h0:(ofL l).1=true):∃g:Nat,e=.returned (.tuple #[.pointer (some ⟨g,0,none⟩),.agg #[.int .i64 0,.int .i64 0]])∧RN w' (.pointer (some ⟨g,0,none⟩)) l∧Below w.heap.size w w':=by
 obtain ⟨p,rfl,h,hb⟩:=h;rcases h with ⟨h1,_⟩ | ⟨_,h2,h3⟩
 · rw [h0] at h1;cases h1
 · rw [ofL_zero h0];rcases h3 with ⟨h4,_⟩ | ⟨g,v,rfl,h4⟩
   · exact absurd h4 h2
   · exact ⟨g,rfl,.inr ⟨g,v,rfl,h4⟩,hb⟩
def RetRd (l:List El) (w:World) (e:Ending) (w':World):Prop:=
 ∃p q b,e=.returned (.tuple #[p,q,.bool b])∧Below w.heap.size w w'∧(b=true→l.length≤40∧(ofL l).1=true∧szL l≤16∧NN w' p l∧RN w' q l∧noNet p=false∧noNet q=false)
end
end Go.Proofs.YtaegmlhfecfgkaaGreatDoor
