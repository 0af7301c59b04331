/- a part of the proof of the last text -/
import Derived.Test.YtdepiggjneoopaaGreatDoorZMCheck13
namespace Go.Proofs.YtdepiggjneoopaaGreatDoor
set_option linter.all false
set_option maxHeartbeats 4000000
set_option maxRecDepth 100000
section
open Go.RowKit
theorem exR {s:Nat} {R:Nat→Nat→Prop} {b:Prop} (h:∃lo hi,hi≤s∧R lo hi) (k:∀lo hi,R lo hi→b):b:=h.elim fun lo h=> h.elim fun hi h=> k lo hi h.2
theorem shP {w:World} {x:Value} {k:Value→World→Prop} (h:Shut (∀v w',Below w.heap.size w w'→v=x→k v w')):k x w:=h.out _ _ (Below.refl _ _) rfl
theorem shT {w:World} {x:Value} {k:Value→World→Prop} {A:World→Prop} {Q:Value→World→Prop} {a b c d:Nat} (h:Shut (∀v w',(A w'∨(a≠b∧Below w.heap.size w w'))→(v=x∧(c=d→Q v w'))→k v w')) (h1:a≠b) (h2:c≠d):k x w:=h.out _ _ (.inr ⟨h1,Below.refl _ _⟩) ⟨rfl,fun e=> absurd e h2⟩
theorem lz {α:Type _} {l:List α} {x a:α}:(x::l).set 0 a=a::l:=rfl
theorem ls {α:Type _} {l:List α} {x a:α} {i:Nat}:(x::l).set (i+1) a=x::l.set i a:=rfl
section
variable {P:Program} {ops:Array Oper} {Q:Exit→Act→World→Prop}
def zBu (ops:Array Oper) (k:Nat):List Nat:=
 match ops[k]? with
 | some o=> (o.after.toList.filter fun e=> Region.binds .any e).map fun e=> e.on
 | none=> []
def ancOf (ops:Array Oper):Nat→Nat→List Nat
 | 0,_=> []
 | n+1,k=> (zBu ops k).flatMap fun j=> j::ancOf ops n j
def ahd (ops:Array Oper) (j k:Nat):Bool:=(ancOf ops ops.size k).contains j
def isIn (k:Nat) (es:List Nat):Bool:=es.contains k
def lst (l:Array Bool) (k:Nat):Bool:=l.getD k false
def dsOf (ops:Array Oper) (k:Nat):Option Tmp:=(ops[k]?).bind fun o=> o.dst
def fill (a:Act) (ops:Array Oper) (vs:Nat→Value):List Nat→Act
 | []=> a
 | k::es=> (fill a ops vs es).put (dsOf ops k) (vs k)
def zCd (l:Array Bool):List Nat→Array Bool
 | []=> l
 | k::es=> (zCd l es).setIfInBounds k true
def zCp (ops:Array Oper) (l:Array Bool) (es:List Nat):Bool:=
 (List.range ops.size).all (fun k=> !lst l k || (zBu ops k).all fun j=> lst l j) &&
 (es.all (fun k=> Nat.blt k ops.size && (!lst l k && (zBu ops k).all fun j=> lst l j || (isIn j es && Nat.blt j k))) &&
 ((List.range ops.size).all (fun i=> lst l i || (isIn i es || es.all fun k=> ahd ops k i)) &&
 (es.all (fun k=> es.all fun j=> Nat.beq j k || (match dsOf ops k,dsOf ops j with | some d,some e=> !Nat.beq d e | _,_=> true)) &&
 (Nat.beq l.size ops.size && noDup es))))
where noDup:List Nat→Bool
 | []=> true
 | k::l=> !isIn k l && noDup l
theorem zAk {k:Nat} {es:List Nat}:isIn k es=true ↔ k∈es:=by unfold isIn;simp
theorem noDup_cons {k:Nat} {l:List Nat} (h:zCp.noDup (k::l)=true):¬k∈l∧zCp.noDup l=true:=by
 simp only [zCp.noDup,Bool.and_eq_true,Bool.not_eq_true'] at h;refine ⟨fun hm=> ?_,h.2⟩;have h1:=h.1;rw [zAk.2 hm] at h1;cases h1
theorem put_put (a:Act) (d:Option Tmp) (u v:Value):(a.put d u).put d v=a.put d v:=by
 cases d with
 | none=> rfl
 | some d=> simp [Act.put]
theorem put_own (a:Act) (d:Tmp):a.put (some d) (a.tmps.getD d undef)=a:=by
 obtain ⟨t,df⟩:=a;simp only [Act.put]
 congr 1
 apply Array.ext
 · simp
 · intro i h1 h2
   by_cases e:d=i
   · subst e;simp at h1;simp [h1]
   · rw [Array.getElem_setIfInBounds_ne h2 e]
theorem fill_congr {a:Act} {vs us:Nat→Value}:∀ {es:List Nat},(∀k∈es,vs k=us k)→fill a ops vs es=fill a ops us es
 | [],_=> rfl
 | k::es,h=> by unfold fill;rw [fill_congr (fun j hj=> h j (List.mem_cons_of_mem _ hj)),h k (List.mem_cons_self ..)]
def upd {α:Type} (f:Nat→α) (i:Nat) (x:α) (k:Nat):α:=if k=i then x else f k
theorem zAm {α:Type} (f:Nat→α) (i:Nat) (x:α):upd f i x i=x:=by simp [upd]
theorem zAp {α:Type} (f:Nat→α) {i k:Nat} (x:α) (h:k≠i):upd f i x k=f k:=by simp [upd,h]
theorem fill_put {a:Act} {vs:Nat→Value} {i:Nat} {v:Value}:∀ {es:List Nat},i∈es→zCp.noDup es=true→(∀k∈es,k≠i→∀d,dsOf ops k=some d→dsOf ops i≠some d)→(fill a ops vs es).put (dsOf ops i) v=fill a ops (upd vs i v) es
 | k::es,hi,hn,hd=> by
  obtain ⟨h1,h2⟩:=noDup_cons hn;unfold fill
  by_cases e:k=i
  · subst e;rw [put_put,zAm,fill_congr (us:=upd vs k v) (fun j hj=> (zAp vs v (show j≠k from fun e2=> h1 (e2 ▸ hj))).symm)]
  · have hi':i∈es:=by rcases List.mem_cons.1 hi with h | h;exact absurd h.symm e;exact h
    rw [Act.put_comm _ _ _ (hd k (List.mem_cons_self ..) e),fill_put hi' h2 (fun j hj=> hd j (List.mem_cons_of_mem _ hj)),zAp vs v e]
theorem fill_own {a:Act}:∀ {es:List Nat},fill a ops (fun k=> match dsOf ops k with | some d=> a.tmps.getD d undef | none=> undef) es=a
 | []=> rfl
 | k::es=> by
  unfold fill;rw [fill_own];cases h:dsOf ops k with
  | none=> rfl
  | some d=> exact put_own a d
theorem zBx {l:Array Bool} {i k:Nat} (hi:i < l.size):lst (l.setIfInBounds i true) k=if k=i then true else lst l k:=by
 unfold lst
 by_cases e:k=i
 · subst e;simp [hi]
 · rw [if_neg e];simp [Array.getElem?_setIfInBounds_ne (Ne.symm e)]
theorem listAll_size {l:Array Bool}:∀ {es:List Nat},(zCd l es).size=l.size
 | []=> rfl
 | k::es=> by unfold zCd;rw [Array.size_setIfInBounds,listAll_size]
theorem lst_all {l:Array Bool} {k:Nat}:∀ {es:List Nat},(∀j∈es,j < l.size)→lst (zCd l es) k=(lst l k || isIn k es)
 | [],_=> by simp [zCd,isIn]
 | j::es,h=> by
  unfold zCd;rw [zBx (by rw [listAll_size];exact h j (List.mem_cons_self ..)),lst_all (fun i hi=> h i (List.mem_cons_of_mem _ hi))]
  by_cases e:k=j
  · subst e;simp [isIn]
  · simp [isIn,e]
theorem eq_listAll {l l0:Array Bool} {es:List Nat} (hs:l.size=l0.size) (aM:∀j∈es,j < l0.size) (h1:∀k,¬k∈es→lst l k=lst l0 k) (h2:∀k∈es,lst l k=true):l=zCd l0 es:=by
 apply Array.ext
 · rw [listAll_size,hs]
 · intro i hi pA;have h3:lst l i=lst (zCd l0 es) i:=by
    rw [lst_all aM]
    by_cases e:i∈es
    · rw [h2 i e,zAk.2 e,Bool.or_true]
    · rw [h1 i e];have:isIn i es=false:=by cases h:isIn i es with | false=> rfl | true=> exact absurd (zAk.1 h) e
      rw [this,Bool.or_false]
   unfold lst at h3
   simpa [hi,pA] using h3
theorem zBe {l:Array Bool} (hc:∀k,lst l k=true→∀j∈zBu ops k,lst l j=true):∀ (n k:Nat),(∀j∈zBu ops k,lst l j=true)→∀j∈ancOf ops n k,lst l j=true
 | 0,_,_,j,h=> by simp [ancOf] at h
 | n+1,k,hk,j,h=> by
  unfold ancOf at h;obtain ⟨i,hi,hj⟩:=List.mem_flatMap.1 h;rcases List.mem_cons.1 hj with rfl | hj
  · exact hk j hi
  · exact zBe hc n i (hc i (hk i hi)) j hj
theorem zCm {l:Array Bool} {i:Nat} (hsz:l.size=ops.size):i∈Region.ready .any ops l ↔ i < ops.size∧lst l i=false∧∀j∈zBu ops i,lst l j=true:=by
 rw [mem_ready]
 constructor
 · rintro ⟨h0,o,ho,h⟩;have aM:i < ops.size:=(Array.getElem?_eq_some_iff.1 ho).1;refine ⟨aM,?_,fun j hj=> ?_⟩
   · unfold lst;have hl:i < l.size:=by omega
     simp [hl] at h0⊢;exact h0
   · unfold zBu at hj;rw [ho] at hj;obtain ⟨e,he,rfl⟩:=List.mem_map.1 hj;obtain ⟨h1,h2⟩:=List.mem_filter.1 he;exact h e (by simpa using h1) h2
 · rintro ⟨aM,h0,h⟩;have hl:i < l.size:=by omega
   refine ⟨by unfold lst at h0;simp [hl] at h0⊢;exact h0,ops[i],by simp [aM],fun e he hb=> h e.on ?_⟩;unfold zBu;simp only [aM,Array.getElem?_eq_getElem];exact List.mem_map.2 ⟨e,List.mem_filter.2 ⟨by simpa using he,hb⟩,rfl⟩
theorem unl_step {l:Array Bool} {i:Nat} (hi:i < l.size) (hu:lst l i=false):∀ {es:List Nat},i∈es→zCp.noDup es=true→(es.filter fun k=> !lst (l.setIfInBounds i true) k).length+1=(es.filter fun k=> !lst l k).length
 | k::es,hm,hn=> by
  obtain ⟨h1,h2⟩:=noDup_cons hn
  by_cases e:k=i
  · subst e;have bH:(es.filter fun j=> !lst (l.setIfInBounds k true) j)=es.filter fun j=> !lst l j:=List.filter_congr fun j hj=> by rw [zBx hi,if_neg (fun e2=> h1 (by rw [←e2];exact hj))]
    rw [List.filter_cons,List.filter_cons,zBx hi,if_pos rfl,hu,bH]
    rfl
  · have hi':i∈es:=by rcases List.mem_cons.1 hm with h | h;exact absurd h.symm e;exact h
    have ih:=unl_step hi hu hi' h2;rw [List.filter_cons,List.filter_cons,zBx hi,if_neg e]
    split
    · simp only [List.length_cons];omega
    · exact ih
theorem zDs {l:Array Bool}:∀ (n:Nat) {es:List Nat},(∃k∈es,k < n∧lst l k=false)→∃k∈es,lst l k=false∧∀j∈es,j < k→lst l j=true
 | 0,es,⟨k,_,h,_⟩=> by omega
 | n+1,es,⟨k,hk,aM,hu⟩=> by
  by_cases h:∃j∈es,j < n∧lst l j=false
  · exact zDs n h
  · refine ⟨k,hk,hu,fun j hj iH=> ?_⟩;cases hc:lst l j with
    | true=> rfl
    | false=> exact absurd ⟨j,hj,by omega,hc⟩ h
theorem wpAny_makers (es:List Nat) (S:World→Prop) (R:Nat→Value→List Value→World→Nat→Nat→Prop) (dp:Nat→List Nat) {fuel:Nat} {l0:Array Bool} {a0:Act} {w0:World}
 (cE:zCp ops l0 es=true) (rF:∀k∈es,∀j∈dp k,ahd ops j k=true∧isIn j es=true) (hf:es.length≤fuel) (hS0:S w0) (hSs:∀w w',Below w.heap.size w w'→S w→S w')
 (hRs:∀k∈es,∀v xs w w' lo hi,Below w.heap.size w w'→hi≤w.heap.size→R k v xs w lo hi→R k v xs w' lo hi)
 (eQ:∀k∈es,∀o,ops[k]? =some o→∀vs w,Below w0.heap.size w0 w→S w→(∀j,ahd ops j k=true→isIn j es=true→∃lo hi,hi≤w.heap.size∧R j (vs j) ((dp j).map vs) w lo hi)→∀K:Act→World→Prop,
  Shut (∀v w',Below w.heap.size w w'→R k v ((dp k).map vs) w' w.heap.size w'.heap.size→K ((fill a0 ops vs es).put o.dst v) w')→
  if Region.wanted o (yielded ops (fill a0 ops vs es).tmps)=true then Oper.wp P o (fill a0 ops vs es) w K Q else K ((fill a0 ops vs es).put o.dst undef) w)
 (fY:∀vs w (lo hi:Nat→Nat),Below w0.heap.size w0 w→S w→(∀k∈es,R k (vs k) ((dp k).map vs) w (lo k) (hi k)∧w0.heap.size≤lo k∧hi k≤w.heap.size)→(∀j∈es,∀k∈es,j≠k→hi j≤lo k∨hi k≤lo j)→
  wpAny P .any ops Q (fuel - es.length) (zCd l0 es) (fill a0 ops vs es) w):wpAny P .any ops Q fuel l0 a0 w0:=by
 unfold zCp at cE;simp only [Bool.and_eq_true,List.all_eq_true,List.mem_range,Bool.or_eq_true,Bool.not_eq_true'] at cE;obtain ⟨c1,c2,c3,c4,c5,c6⟩:=cE;have c5:l0.size=ops.size:=Nat.eq_of_beq_eq_true c5;have aM:∀k∈es,k < ops.size:=fun k hk=> by have:=(c2 k hk).1;exact Nat.lt_of_lt_of_le (Nat.lt_succ_self k) (Nat.le_of_ble_eq_true this)
 have zL:∀k∈es,∀j∈es,j≠k→∀d,dsOf ops j=some d→dsOf ops k≠some d:=fun k hk j hj aK d h1 h2=> by
  rcases c4 k hk j hj with h | h
  · exact aK (Nat.eq_of_beq_eq_true h)
  · rw [h1,h2] at h
    simp at h
 have nK:∀k,lst l0 k=true→∀j∈zBu ops k,lst l0 j=true:=fun k hk j hj=> by
  have zE:k < ops.size:=by
   rw [←c5];rcases Nat.lt_or_ge k l0.size with h | h
   · exact h
   · unfold lst at hk;simp [Array.getElem?_eq_none h] at hk
  rcases c1 k zE with h | h
  · rw [h] at hk;cases hk
  · exact h j hj
 have key:∀ (m:Nat) (l:Array Bool) (vs:Nat→Value) (lo hi:Nat→Nat) (w:World),(es.filter fun k=> !lst l k).length=m→l.size=ops.size→(∀k,¬k∈es→lst l k=lst l0 k)→
  (∀k,lst l k=true→∀j∈zBu ops k,lst l j=true)→(∀k∈es,lst l k=true→R k (vs k) ((dp k).map vs) w (lo k) (hi k)∧w0.heap.size≤lo k∧hi k≤w.heap.size)→
  (∀j∈es,∀k∈es,lst l j=true→lst l k=true→j≠k→hi j≤lo k∨hi k≤lo j)→S w→Below w0.heap.size w0 w→
  wpAny P .any ops Q (m+(fuel - es.length)) l (fill a0 ops vs es) w:=by
  intro m
  induction m with
  | zero=>
   intro l vs lo hi w hm hsz bH dK hR cX hS hB;have bN:∀k∈es,lst l k=true:=fun k hk=> by
    cases h:lst l k with
    | true=> rfl
    | false=>
     have:k∈es.filter fun k=> !lst l k:=List.mem_filter.2 ⟨hk,by simp [h]⟩
     rw [List.eq_nil_of_length_eq_zero hm] at this;cases this
   rw [eq_listAll (l:=l) (l0:=l0) (by omega) (fun j hj=> by rw [c5];exact aM j hj) bH bN,Nat.zero_add];exact fY vs w lo hi hB hS (fun k hk=> hR k hk (bN k hk)) (fun j hj k hk aK=> cX j hj k hk (bN j hj) (bN k hk) aK)
  | succ m ih=>
   intro l vs lo hi w hm hsz bH dK hR cX hS hB;obtain ⟨k0,lZ,kD⟩:∃k∈es,lst l k=false:=by
    cases hx:es.filter fun k=> !lst l k with
    | nil=> rw [hx] at hm;cases hm
    | cons k t=>
     have:k∈es.filter fun k=> !lst l k:=by rw [hx];simp
     obtain ⟨h1,h2⟩:=List.mem_filter.1 this;exact ⟨k,h1,by simpa using h2⟩
   have tK:m+1+(fuel - es.length)=(m+(fuel - es.length))+1:=by omega
   rw [tK];refine ⟨fun hr=> ?_,fun i kG=> ?_⟩
   · obtain ⟨k,hk,hu,nH⟩:=zDs (l:=l) ops.size ⟨k0,lZ,aM k0 lZ,kD⟩;have:k∈Region.ready .any ops l:=by
      rw [zCm hsz];refine ⟨aM k hk,hu,fun j hj=> ?_⟩;rcases (c2 k hk).2.2 j hj with h | h
      · by_cases e:j∈es
        · have:=(c2 j e).2.1;rw [this] at h;cases h
        · rw [bH j e];exact h
      · exact nH j (zAk.1 h.1) (Nat.lt_of_lt_of_le (Nat.lt_succ_self j) (Nat.le_of_ble_eq_true h.2))
     rw [hr] at this;cases this
   · have gX:=kG;rw [zCm hsz] at gX;obtain ⟨iW,dU,iD⟩:=gX;have dJ:i∈es:=by
      by_cases e:i∈es
      · exact e
      · exfalso
        rcases c3 i iW with h | h | h
        · rw [bH i e,h] at dU;cases dU
        · exact e (zAk.1 h)
        · have:=h k0 lZ;unfold ahd at this;have:=zBe dK ops.size i iD k0 (by simpa using this);rw [kD] at this;cases this
     have ho:ops[i]? =some ops[i]:=by simp [iW]
     have hd:dsOf ops i=(ops[i]).dst:=by unfold dsOf;rw [ho];rfl
     have iI:i < l.size:=by omega
     refine wpOp_step ho fun K hK=> eQ i dJ ops[i] ho vs w hB hS (fun j hj zF=> ?_) K fun v w' hb hr=> hK _ _ ?_
     · have eS:=zBe dK ops.size i iD j (by unfold ahd at hj;simpa using hj);obtain ⟨h1,h2,h3⟩:=hR j (zAk.1 zF) eS;exact ⟨lo j,hi j,h3,h1⟩
     · rw [←hd,fill_put dJ c6 (fun k hk aK d h1=> zL i dJ k hk aK d h1)];have hB':Below w0.heap.size w0 w':=hB.trans (hb.mono hB.size);refine ih (l.setIfInBounds i true) (upd vs i v) (upd lo i w.heap.size) (upd hi i w'.heap.size) w' ?_ (by simp [hsz]) (fun k hk=> ?_) (fun k hk j hj=> ?_) (fun k hk eC=> ?_) (fun j hj k hk eS eC aK=> ?_) (hSs _ _ hb hS) hB'
       · have:=unl_step iI dU dJ c6;omega
       · rw [zBx iI,if_neg (fun e=> hk (by rw [e];exact dJ))];exact bH k hk
       · rw [zBx iI] at hk⊢
         by_cases e:j=i
         · rw [if_pos e]
         · rw [if_neg e]
           by_cases e2:k=i
           · subst e2;exact iD j hj
           · rw [if_neg e2] at hk;exact dK k hk j hj
       · by_cases e:k=i
         · subst e;have lX:(dp k).map (upd vs k v)=(dp k).map vs:=List.map_congr_left fun j hj=> zAp vs v (show j≠k from fun e2=> by
            have:=zBe dK ops.size k iD j (by have:=(rF k hk j hj).1;unfold ahd at this;simpa using this);rw [e2,dU] at this;cases this)
           rw [lX,zAm,zAm,zAm];exact ⟨hr,hB.size,Nat.le_refl _⟩
         · rw [zBx iI,if_neg e] at eC;obtain ⟨h1,h2,h3⟩:=hR k hk eC;have lX:(dp k).map (upd vs i v)=(dp k).map vs:=List.map_congr_left fun j hj=> zAp vs v (show j≠i from fun e2=> by
            have:=zBe dK ops.size k (fun x hx=> dK k eC x hx) j (by have:=(rF k hk j hj).1;unfold ahd at this;simpa using this);rw [e2,dU] at this;cases this)
           rw [lX,zAp _ _ e,zAp _ _ e,zAp _ _ e];exact ⟨hRs k hk _ _ _ _ _ _ hb h3 h1,h2,Nat.le_trans h3 hb.size⟩
       · rw [zBx iI] at eS eC
         by_cases e:j=i
         · subst e;rw [zAm,zAm];have e2:k≠j:=Ne.symm aK;rw [if_neg e2] at eC;rw [zAp _ _ e2,zAp _ _ e2];exact .inr (hR k hk eC).2.2
         · rw [zAp _ _ e,zAp _ _ e]
           by_cases e2:k=i
           · subst e2;rw [if_neg e] at eS;rw [zAm,zAm];exact .inl (hR j hj eS).2.2
           · rw [if_neg e] at eS;rw [if_neg e2] at eC;rw [zAp _ _ e2,zAp _ _ e2];exact cX j hj k hk eS eC aK
 have nE:∀k∈es,lst l0 k=false:=fun k hk=> (c2 k hk).2.1
 have h0:(es.filter fun k=> !lst l0 k).length=es.length:=by rw [List.filter_eq_self.2 (fun k hk=> by simp [nE k hk])]
 have:=key es.length l0 (fun k=> match dsOf ops k with | some d=> a0.tmps.getD d undef | none=> undef) (fun _=> 0) (fun _=> 0) w0 h0 c5 (fun _ _=> rfl) nK (fun k hk hl=> by rw [nE k hk] at hl;cases hl) (fun j hj k _ hl=> by rw [nE j hj] at hl;cases hl) hS0 (Below.refl _ _);rw [fill_own,show es.length+(fuel - es.length)=fuel by omega] at this;exact this
structure OpD where
 slot:Option Tmp
 no:Nat
 by_:List Nat
def zBb (a:Act) (vs:Nat→Value):List OpD→Act
 | []=> a
 | q::l=> (zBb a vs l).put q.slot (vs q.no)
def nosD:List OpD→List Nat
 | []=> []
 | q::l=> q.no::nosD l
def dpD:List OpD→Nat→List Nat
 | [],_=> []
 | q::l,k=> if k=q.no then q.by_ else dpD l k
def slotsOk (ops:Array Oper):List OpD→Bool
 | []=> true
 | q::l=> (match dsOf ops q.no,q.slot with | some d,some e=> Nat.beq d e | none,none=> true | _,_=> false) && slotsOk ops l
def depsOk (ops:Array Oper) (ds:List OpD):Bool:=(nosD ds).all fun k=> (dpD ds k).all fun j=> ahd ops j k && isIn j (nosD ds)
theorem zCs {a:Act} {vs:Nat→Value}:∀ {ds:List OpD},slotsOk ops ds=true→fill a ops vs (nosD ds)=zBb a vs ds
 | [],_=> rfl
 | q::l,h=> by
  simp only [slotsOk,Bool.and_eq_true] at h;obtain ⟨h1,h2⟩:=h;have:dsOf ops q.no=q.slot:=by
   cases h3:dsOf ops q.no <;> cases h4:q.slot <;> rw [h3,h4] at h1 <;> simp at h1 <;> first | rfl | (rw [h1])
  simp only [nosD,fill,zBb,zCs h2,this]
def Each (ops:Array Oper) (p:Nat→Oper→Prop):List OpD→Prop
 | []=> True
 | q::l=> (∀o,ops[q.no]? =some o→p q.no o)∧Each ops p l
theorem Each.nil {p:Nat→Oper→Prop}:Each ops p []:=trivial
theorem Each.cons {p:Nat→Oper→Prop} {q:OpD} {l:List OpD} {o:Oper} (ho:ops.toList[q.no]? =some o) (h:p q.no o) (t:Each ops p l):Each ops p (q::l):=by
 refine ⟨fun o' ho'=> ?_,t⟩;have:ops.toList[q.no]? =some o':=by simpa using ho'
 rw [ho] at this;cases this;exact h
theorem Each.mem {p:Nat→Oper→Prop}:∀ {ds:List OpD},Each ops p ds→∀k∈nosD ds,∀o,ops[k]? =some o→p k o
 | [],_,k,hk,_,_=> by simp [nosD] at hk
 | q::l,h,k,hk,o,ho=> by
  rcases List.mem_cons.1 hk with rfl | hk
  · exact h.1 o ho
  · exact Each.mem h.2 k hk o ho
abbrev RelD:=Nat→Value→List Value→World→Nat→Nat→Prop
def Owed (P:Program) (ops:Array Oper) (Q:Exit→Act→World→Prop) (S:World→Prop) (R:RelD) (ds:List OpD) (a0:Act) (w0:World) (k:Nat) (o:Oper):Prop:=
 ∀ (vs:Nat→Value) (w:World),Below w0.heap.size w0 w→S w→(∀j,(ahd ops j k && isIn j (nosD ds))=true→∃lo hi,hi≤w.heap.size∧R j (vs j) ((dpD ds j).map vs) w lo hi)→∀K:Act→World→Prop,
  Shut (∀v w',Below w.heap.size w w'→R k v ((dpD ds k).map vs) w' w.heap.size w'.heap.size→K ((zBb a0 vs ds).put o.dst v) w')→
  if Region.wanted o (yielded ops (zBb a0 vs ds).tmps)=true then Oper.wp P o (zBb a0 vs ds) w K Q else K ((zBb a0 vs ds).put o.dst undef) w
theorem zAx (ds:List OpD) (S:World→Prop) (R:RelD) {fuel:Nat} {l0:Array Bool} {a0:Act} {w0:World}
 (cE:(zCp ops l0 (nosD ds) && (depsOk ops ds && (slotsOk ops ds && Nat.ble (nosD ds).length fuel)))=true) (hS0:S w0)
 (hSs:∀w w',Below w.heap.size w w'→S w→S w')
 (hRs:∀k v xs w w' lo hi,Below w.heap.size w w'→hi≤w.heap.size→R k v xs w lo hi→R k v xs w' lo hi)
 (eQ:Each ops (Owed P ops Q S R ds a0 w0) ds)
 (fY:∀vs w (lo hi:Nat→Nat),Below w0.heap.size w0 w→S w→(∀k,isIn k (nosD ds)=true→R k (vs k) ((dpD ds k).map vs) w (lo k) (hi k)∧w0.heap.size≤lo k∧hi k≤w.heap.size)→
  (∀j k,(isIn j (nosD ds) && (isIn k (nosD ds) && !Nat.beq j k))=true→hi j≤lo k∨hi k≤lo j)→
  wpAny P .any ops Q (fuel - (nosD ds).length) (zCd l0 (nosD ds)) (zBb a0 vs ds) w):wpAny P .any ops Q fuel l0 a0 w0:=by
 simp only [Bool.and_eq_true] at cE;obtain ⟨h1,h2,h3,h4⟩:=cE;unfold depsOk at h2;simp only [List.all_eq_true,Bool.and_eq_true] at h2;refine wpAny_makers (nosD ds) S R (dpD ds) h1 h2 (Nat.le_of_ble_eq_true h4) hS0 hSs (fun k _=> hRs k) (fun k hk o ho vs w hb hS hR K hK=> ?_) (fun vs w lo hi hb hS hR cX=> ?_)
 · have:=Each.mem eQ k hk o ho vs w hb hS (fun j hj=> by rw [Bool.and_eq_true] at hj;exact hR j hj.1 hj.2) K (by rw [←zCs h3];exact hK);rw [zCs h3];exact this
 · rw [zCs h3];exact fY vs w lo hi hb hS (fun k hk=> hR k (zAk.1 hk)) (fun j k iH=> by
    simp only [Bool.and_eq_true,Bool.not_eq_true'] at iH;exact cX j (zAk.1 iH.1) k (zAk.1 iH.2.1) (fun e=> by subst e;simp at iH))
theorem zAr {fuel:Nat} {l:Array Bool} {a:Act} {w:World} {i:Nat} {o:Oper} (hr:Region.ready .any ops l= [i]) (ho:ops[i]? =some o)
 (h:∀K:Act→World→Prop,Shut (∀a w,wpAny P .any ops Q fuel (l.setIfInBounds i true) a w→K a w)→if Region.wanted o (yielded ops a.tmps)=true then Oper.wp P o a w K Q else K (a.put o.dst undef) w):wpAny P .any ops Q (fuel+1) l a w:=
 wpAny_all hr (by simp) fun j hj=> by
  obtain rfl:j=i:=by simpa using hj
  exact wpOp_step ho fun K hK=> h K hK
def RowD (t size n:Nat) (xs:List Value) (v:Value) (w:World) (lo hi:Nat):Prop:=(∃a c,v=.slice a n c)∧w.ownsRow lo t size v n xs∧∀g,v.ownBlock=some g→g < hi
theorem RowD.later {t size n lo hi:Nat} {xs:List Value} {v:Value} {w w':World} (h:RowD t size n xs v w lo hi) (hb:Below w.heap.size w w'):RowD t size n xs v w' lo hi:=
 ⟨h.1,zBf h.2.1 (zAe hb none),h.2.2⟩
theorem RowD.of {t size n:Nat} {xs:List Value} {v:Value} {w w':World} (h:w'.ownsRow w.heap.size t size v n xs):RowD t size n xs v w' w.heap.size w'.heap.size:=
 ⟨(IsSl.of_own h).form,h,fun g hg=> (World.ownsRow.lt h g hg).2⟩
def BlkD (o:Obj) (v:Value) (w:World) (lo hi:Nat):Prop:=∃g,v=.pointer (some ⟨g,0,none⟩)∧lo≤g∧g < hi∧w.heap[g]? =some o
theorem BlkD.later {o:Obj} {lo hi:Nat} {v:Value} {w w':World} (h:BlkD o v w lo hi) (hb:Below w.heap.size w w'):BlkD o v w' lo hi:=by
 obtain ⟨g,h1,h2,h3,h4⟩:=h;exact ⟨g,h1,h2,h3,(hb.block g (Array.getElem?_eq_some_iff.1 h4).1).trans h4⟩
theorem BlkD.new (w:World) (o:Obj):BlkD o (.pointer (some ⟨w.heap.size,0,none⟩)) (w.alloc o) w.heap.size (w.alloc o).heap.size:=
 ⟨w.heap.size,rfl,Nat.le_refl _,by simp,heap_alloc_new w o⟩
theorem zCn {w w':World} {B e size n:Nat} {v:Value} {xs:List Value} {row:Option Nat} (h:w.ownsRow B e size v n xs) (hg:w.grownBy w' row) (aK:∀k,v.ownBlock=some k→row≠some k):w'.ownsRow B e size v n xs:=by
 cases hx:v.ownBlock with
 | none=> exact World.ownsRow.kept h hg (.inl hx)
 | some k=> exact World.ownsRow.kept h hg (.inr (fun e=> aK k hx (by rw [←e,hx])))
end
end
section
open Go.RowKit
section
variable {P:Program} {ops:Array Oper} {Q:Exit→Act→World→Prop}
theorem wpAny_makersS (es:List Nat) (G:World→World→Prop) (St:Nat→World→World→Prop) (S:World→Prop) (R:Nat→Value→List Value→World→Nat→Nat→Prop) (dp:Nat→List Nat) {fuel:Nat} {l0:Array Bool} {a0:Act} {w0:World}
 (cE:zCp ops l0 es=true) (rF:∀k∈es,∀j∈dp k,ahd ops j k=true∧isIn j es=true) (hf:es.length≤fuel) (hS0:S w0) (hG0:∀w,G w w) (hGt:∀w w1 w2,G w w1→G w1 w2→G w w2) (hGs:∀w w',G w w'→w.heap.size≤w'.heap.size) (hStG:∀k∈es,∀w w',St k w w'→G w w') (hSs:∀k∈es,∀w w',G w0 w→St k w w'→S w→S w')
 (hRs:∀k∈es,∀i∈es,k≠i→∀v xs w w' lo hi,w0.heap.size≤lo→St i w w'→hi≤w.heap.size→R k v xs w lo hi→R k v xs w' lo hi)
 (eQ:∀k∈es,∀o,ops[k]? =some o→∀vs w,G w0 w→S w→(∀j,ahd ops j k=true→isIn j es=true→∃lo hi,hi≤w.heap.size∧R j (vs j) ((dp j).map vs) w lo hi)→∀K:Act→World→Prop,
  Shut (∀v w',St k w w'→R k v ((dp k).map vs) w' w.heap.size w'.heap.size→K ((fill a0 ops vs es).put o.dst v) w')→
  if Region.wanted o (yielded ops (fill a0 ops vs es).tmps)=true then Oper.wp P o (fill a0 ops vs es) w K Q else K ((fill a0 ops vs es).put o.dst undef) w)
 (fY:∀vs w (lo hi:Nat→Nat),G w0 w→S w→(∀k∈es,R k (vs k) ((dp k).map vs) w (lo k) (hi k)∧w0.heap.size≤lo k∧hi k≤w.heap.size)→(∀j∈es,∀k∈es,j≠k→hi j≤lo k∨hi k≤lo j)→
  wpAny P .any ops Q (fuel - es.length) (zCd l0 es) (fill a0 ops vs es) w):wpAny P .any ops Q fuel l0 a0 w0:=by
 unfold zCp at cE;simp only [Bool.and_eq_true,List.all_eq_true,List.mem_range,Bool.or_eq_true,Bool.not_eq_true'] at cE;obtain ⟨c1,c2,c3,c4,c5,c6⟩:=cE;have c5:l0.size=ops.size:=Nat.eq_of_beq_eq_true c5;have aM:∀k∈es,k < ops.size:=fun k hk=> by have:=(c2 k hk).1;exact Nat.lt_of_lt_of_le (Nat.lt_succ_self k) (Nat.le_of_ble_eq_true this)
 have zL:∀k∈es,∀j∈es,j≠k→∀d,dsOf ops j=some d→dsOf ops k≠some d:=fun k hk j hj aK d h1 h2=> by
  rcases c4 k hk j hj with h | h
  · exact aK (Nat.eq_of_beq_eq_true h)
  · rw [h1,h2] at h
    simp at h
 have nK:∀k,lst l0 k=true→∀j∈zBu ops k,lst l0 j=true:=fun k hk j hj=> by
  have zE:k < ops.size:=by
   rw [←c5];rcases Nat.lt_or_ge k l0.size with h | h
   · exact h
   · unfold lst at hk;simp [Array.getElem?_eq_none h] at hk
  rcases c1 k zE with h | h
  · rw [h] at hk;cases hk
  · exact h j hj
 have key:∀ (m:Nat) (l:Array Bool) (vs:Nat→Value) (lo hi:Nat→Nat) (w:World),(es.filter fun k=> !lst l k).length=m→l.size=ops.size→(∀k,¬k∈es→lst l k=lst l0 k)→
  (∀k,lst l k=true→∀j∈zBu ops k,lst l j=true)→(∀k∈es,lst l k=true→R k (vs k) ((dp k).map vs) w (lo k) (hi k)∧w0.heap.size≤lo k∧hi k≤w.heap.size)→
  (∀j∈es,∀k∈es,lst l j=true→lst l k=true→j≠k→hi j≤lo k∨hi k≤lo j)→S w→G w0 w→
  wpAny P .any ops Q (m+(fuel - es.length)) l (fill a0 ops vs es) w:=by
  intro m
  induction m with
  | zero=>
   intro l vs lo hi w hm hsz bH dK hR cX hS hB;have bN:∀k∈es,lst l k=true:=fun k hk=> by
    cases h:lst l k with
    | true=> rfl
    | false=>
     have:k∈es.filter fun k=> !lst l k:=List.mem_filter.2 ⟨hk,by simp [h]⟩
     rw [List.eq_nil_of_length_eq_zero hm] at this;cases this
   rw [eq_listAll (l:=l) (l0:=l0) (by omega) (fun j hj=> by rw [c5];exact aM j hj) bH bN,Nat.zero_add];exact fY vs w lo hi hB hS (fun k hk=> hR k hk (bN k hk)) (fun j hj k hk aK=> cX j hj k hk (bN j hj) (bN k hk) aK)
  | succ m ih=>
   intro l vs lo hi w hm hsz bH dK hR cX hS hB;obtain ⟨k0,lZ,kD⟩:∃k∈es,lst l k=false:=by
    cases hx:es.filter fun k=> !lst l k with
    | nil=> rw [hx] at hm;cases hm
    | cons k t=>
     have:k∈es.filter fun k=> !lst l k:=by rw [hx];simp
     obtain ⟨h1,h2⟩:=List.mem_filter.1 this;exact ⟨k,h1,by simpa using h2⟩
   have tK:m+1+(fuel - es.length)=(m+(fuel - es.length))+1:=by omega
   rw [tK];refine ⟨fun hr=> ?_,fun i kG=> ?_⟩
   · obtain ⟨k,hk,hu,nH⟩:=zDs (l:=l) ops.size ⟨k0,lZ,aM k0 lZ,kD⟩;have:k∈Region.ready .any ops l:=by
      rw [zCm hsz];refine ⟨aM k hk,hu,fun j hj=> ?_⟩;rcases (c2 k hk).2.2 j hj with h | h
      · by_cases e:j∈es
        · have:=(c2 j e).2.1;rw [this] at h;cases h
        · rw [bH j e];exact h
      · exact nH j (zAk.1 h.1) (Nat.lt_of_lt_of_le (Nat.lt_succ_self j) (Nat.le_of_ble_eq_true h.2))
     rw [hr] at this;cases this
   · have gX:=kG;rw [zCm hsz] at gX;obtain ⟨iW,dU,iD⟩:=gX;have dJ:i∈es:=by
      by_cases e:i∈es
      · exact e
      · exfalso
        rcases c3 i iW with h | h | h
        · rw [bH i e,h] at dU;cases dU
        · exact e (zAk.1 h)
        · have:=h k0 lZ;unfold ahd at this;have:=zBe dK ops.size i iD k0 (by simpa using this);rw [kD] at this;cases this
     have ho:ops[i]? =some ops[i]:=by simp [iW]
     have hd:dsOf ops i=(ops[i]).dst:=by unfold dsOf;rw [ho];rfl
     have iI:i < l.size:=by omega
     refine wpOp_step ho fun K hK=> eQ i dJ ops[i] ho vs w hB hS (fun j hj zF=> ?_) K fun v w' hb hr=> hK _ _ ?_
     · have eS:=zBe dK ops.size i iD j (by unfold ahd at hj;simpa using hj);obtain ⟨h1,h2,h3⟩:=hR j (zAk.1 zF) eS;exact ⟨lo j,hi j,h3,h1⟩
     · rw [←hd,fill_put dJ c6 (fun k hk aK d h1=> zL i dJ k hk aK d h1)];have hG':=hStG i dJ _ _ hb;have hB':G w0 w':=hGt _ _ _ hB hG';refine ih (l.setIfInBounds i true) (upd vs i v) (upd lo i w.heap.size) (upd hi i w'.heap.size) w' ?_ (by simp [hsz]) (fun k hk=> ?_) (fun k hk j hj=> ?_) (fun k hk eC=> ?_) (fun j hj k hk eS eC aK=> ?_) (hSs i dJ _ _ hB hb hS) hB'
       · have:=unl_step iI dU dJ c6;omega
       · rw [zBx iI,if_neg (fun e=> hk (by rw [e];exact dJ))];exact bH k hk
       · rw [zBx iI] at hk⊢
         by_cases e:j=i
         · rw [if_pos e]
         · rw [if_neg e]
           by_cases e2:k=i
           · subst e2;exact iD j hj
           · rw [if_neg e2] at hk;exact dK k hk j hj
       · by_cases e:k=i
         · subst e;have lX:(dp k).map (upd vs k v)=(dp k).map vs:=List.map_congr_left fun j hj=> zAp vs v (show j≠k from fun e2=> by
            have:=zBe dK ops.size k iD j (by have:=(rF k hk j hj).1;unfold ahd at this;simpa using this);rw [e2,dU] at this;cases this)
           rw [lX,zAm,zAm,zAm];exact ⟨hr,hGs _ _ hB,Nat.le_refl _⟩
         · rw [zBx iI,if_neg e] at eC;obtain ⟨h1,h2,h3⟩:=hR k hk eC;have lX:(dp k).map (upd vs i v)=(dp k).map vs:=List.map_congr_left fun j hj=> zAp vs v (show j≠i from fun e2=> by
            have:=zBe dK ops.size k (fun x hx=> dK k eC x hx) j (by have:=(rF k hk j hj).1;unfold ahd at this;simpa using this);rw [e2,dU] at this;cases this)
           rw [lX,zAp _ _ e,zAp _ _ e,zAp _ _ e];exact ⟨hRs k hk i dJ e _ _ _ _ _ _ h2 hb h3 h1,h2,Nat.le_trans h3 (hGs _ _ hG')⟩
       · rw [zBx iI] at eS eC
         by_cases e:j=i
         · subst e;rw [zAm,zAm];have e2:k≠j:=Ne.symm aK;rw [if_neg e2] at eC;rw [zAp _ _ e2,zAp _ _ e2];exact .inr (hR k hk eC).2.2
         · rw [zAp _ _ e,zAp _ _ e]
           by_cases e2:k=i
           · subst e2;rw [if_neg e] at eS;rw [zAm,zAm];exact .inl (hR j hj eS).2.2
           · rw [if_neg e] at eS;rw [if_neg e2] at eC;rw [zAp _ _ e2,zAp _ _ e2];exact cX j hj k hk eS eC aK
 have nE:∀k∈es,lst l0 k=false:=fun k hk=> (c2 k hk).2.1
 have h0:(es.filter fun k=> !lst l0 k).length=es.length:=by rw [List.filter_eq_self.2 (fun k hk=> by simp [nE k hk])]
 have:=key es.length l0 (fun k=> match dsOf ops k with | some d=> a0.tmps.getD d undef | none=> undef) (fun _=> 0) (fun _=> 0) w0 h0 c5 (fun _ _=> rfl) nK (fun k hk hl=> by rw [nE k hk] at hl;cases hl) (fun j hj k _ hl=> by rw [nE j hj] at hl;cases hl) hS0 (hG0 _);rw [show fill a0 ops (fun k=> match dsOf ops k with | some d=> a0.tmps.getD d undef | none=> undef) es=a0 from fill_own,show es.length+(fuel - es.length)=fuel by omega] at this;exact this
def OwedS (P:Program) (ops:Array Oper) (Q:Exit→Act→World→Prop) (G:World→World→Prop) (St:Nat→World→World→Prop) (S:World→Prop) (R:RelD) (ds:List OpD) (a0:Act) (w0:World) (k:Nat) (o:Oper):Prop:=
 ∀ (vs:Nat→Value) (w:World),G w0 w→S w→(∀j,(ahd ops j k && isIn j (nosD ds))=true→∃lo hi,hi≤w.heap.size∧R j (vs j) ((dpD ds j).map vs) w lo hi)→∀K:Act→World→Prop,
  Shut (∀v w',St k w w'→R k v ((dpD ds k).map vs) w' w.heap.size w'.heap.size→K ((zBb a0 vs ds).put o.dst v) w')→
  if Region.wanted o (yielded ops (zBb a0 vs ds).tmps)=true then Oper.wp P o (zBb a0 vs ds) w K Q else K ((zBb a0 vs ds).put o.dst undef) w
theorem wpAny_makersSD (ds:List OpD) (G:World→World→Prop) (St:Nat→World→World→Prop) (S:World→Prop) (R:RelD) {fuel:Nat} {l0:Array Bool} {a0:Act} {w0:World}
 (cE:(zCp ops l0 (nosD ds) && (depsOk ops ds && (slotsOk ops ds && Nat.ble (nosD ds).length fuel)))=true) (hS0:S w0)
 (hG0:∀w,G w w) (hGt:∀w w1 w2,G w w1→G w1 w2→G w w2) (hGs:∀w w',G w w'→w.heap.size≤w'.heap.size) (hStG:∀k w w',St k w w'→G w w')
 (hSs:∀k w w',G w0 w→St k w w'→S w→S w')
 (hRs:∀k i,k≠i→∀v xs w w' lo hi,w0.heap.size≤lo→St i w w'→hi≤w.heap.size→R k v xs w lo hi→R k v xs w' lo hi)
 (eQ:Each ops (OwedS P ops Q G St S R ds a0 w0) ds)
 (fY:∀vs w (lo hi:Nat→Nat),G w0 w→S w→(∀k,isIn k (nosD ds)=true→R k (vs k) ((dpD ds k).map vs) w (lo k) (hi k)∧w0.heap.size≤lo k∧hi k≤w.heap.size)→
  (∀j k,(isIn j (nosD ds) && (isIn k (nosD ds) && !Nat.beq j k))=true→hi j≤lo k∨hi k≤lo j)→
  wpAny P .any ops Q (fuel - (nosD ds).length) (zCd l0 (nosD ds)) (zBb a0 vs ds) w):wpAny P .any ops Q fuel l0 a0 w0:=by
 simp only [Bool.and_eq_true] at cE;obtain ⟨h1,h2,h3,h4⟩:=cE;unfold depsOk at h2;simp only [List.all_eq_true,Bool.and_eq_true] at h2;refine wpAny_makersS (nosD ds) G St S R (dpD ds) h1 h2 (Nat.le_of_ble_eq_true h4) hS0 hG0 hGt hGs (fun k _=> hStG k) (fun k _=> hSs k) (fun k _ i _=> hRs k i) (fun k hk o ho vs w hb hS hR K hK=> ?_) (fun vs w lo hi hb hS hR cX=> ?_)
 · have:=Each.mem eQ k hk o ho vs w hb hS (fun j hj=> by rw [Bool.and_eq_true] at hj;exact hR j hj.1 hj.2) K (by rw [←zCs h3];exact hK);rw [zCs h3];exact this
 · rw [zCs h3];exact fY vs w lo hi hb hS (fun k hk=> hR k (zAk.1 hk)) (fun j k iH=> by
    simp only [Bool.and_eq_true,Bool.not_eq_true'] at iH;exact cX j (zAk.1 iH.1) k (zAk.1 iH.2.1) (fun e=> by subst e;simp at iH))
theorem append_all_op {P:Program} {ops:Array Oper} {o:Oper} {a:Act} {w:World} {K:Act→World→Prop} {Q:Exit→Act→World→Prop}
 (hg:o.guard=none) (s x:Operand) (t:TypeId) (eQ:o.op=Op.call {callee:=Callee.builtin Builtin.append,args:=#[s,x],argTypes:=#[t,t]})
 (e size bytes:Nat) (i:TypeInfo) (z:Value) (ht:P.underlying t=some (.slice e)) (hi:P.info? e=some i) (hz:i.zero=some z)
 (bY:i.size=size) (mW:i.bytes=bytes) (nD:z.cells.size=size) (hsz:0 < size)
 (v2:Value) (m:Nat) (news:List Value) (iG:IsSl w size v2 m news) (hs:a.eval s=.slice none 0 0) (hx:a.eval x=v2) (h1:∀u∈news,u.oneCell'=true)
 (kH:m≤maxLen) (bM:m * bytes≤140737488355328)
 (hK:∀v' w',w'.ownsRow w.heap.size e size v' m news→w.grownBy w' none→K (a.put o.dst v') w'):Oper.wp P o a w K Q:=by
 have h:=step_append_all (ops:=ops) (Q:=Q) (E:=False) hg s x t eQ e size bytes i z ht hi hz bY mW nD hsz v2 m news iG hs hx h1 kH bM hK;have hw:Region.wanted o (yielded ops a.tmps)=true:=by simp [Region.wanted,hg]
 rwa [if_pos hw] at h
theorem wpAny_two {P:Program} {ops:Array Oper} {Q:Exit→Act→World→Prop} {fuel:Nat} {l:Array Bool} {a:Act} {w:World} {i j:Nat} {o1 o2:Oper} (hr:Region.ready .any ops l= [i,j]) (h1:ops[i]? =some o1) (h2:ops[j]? =some o2)
 (hi:∀K:Act→World→Prop,Shut (∀a w,wpAny P .any ops Q fuel (l.setIfInBounds i true) a w→K a w)→if Region.wanted o1 (yielded ops a.tmps)=true then Oper.wp P o1 a w K Q else K (a.put o1.dst undef) w)
 (hj:∀K:Act→World→Prop,Shut (∀a w,wpAny P .any ops Q fuel (l.setIfInBounds j true) a w→K a w)→if Region.wanted o2 (yielded ops a.tmps)=true then Oper.wp P o2 a w K Q else K (a.put o2.dst undef) w):wpAny P .any ops Q (fuel+1) l a w:=
 wpAny_all hr (by simp) fun k hk=> by
  rcases (by simpa using hk:k=i∨k=j) with rfl | rfl
  · exact wpOp_step h1 fun K hK=> hi K hK
  · exact wpOp_step h2 fun K hK=> hj K hK
end
theorem zEp {w w':World} {r:Option Nat} (h:w.drew.grownBy w' r):w.grownBy w' r:=⟨h.os,h.tape,h.output,h.size,h.block⟩
def Set3 (b:Nat) (w w':World):Prop:=∃u0 u1 u2,w'=((w.setCell ⟨b,0,none⟩ u0).setCell ⟨b,1,none⟩ u1).setCell ⟨b,2,none⟩ u2
theorem zAn (w:World) (g o:Nat) (v:Value):w.grownBy (w.setCell ⟨g,o,none⟩ v) (some g):=
 ⟨rfl,rfl,rfl,by simp,fun k _ hk=> Below.heap_setCell w ⟨g,o,none⟩ v k (fun e=> hk (by rw [e]))⟩
theorem Set3.grown {b:Nat} {w w':World} (h:Set3 b w w'):w.grownBy w' (some b):=by
 obtain ⟨u0,u1,u2,rfl⟩:=h;exact zAf (zAf (zAn _ _ _ _) (zAn _ _ _ _)) (zAn _ _ _ _)
theorem zAy {w:World} {g o:Nat} {cs:Array Value} {t:TypeId} {f:Nat × Nat} (h:w.heap[g]? =some (.cells cs t f)) (v:Value):(w.setCell ⟨g,o,none⟩ v).heap[g]? =some (.cells (cs.setIfInBounds o v) t f):=by
 unfold World.setCell
 simp [Array.getElem?_modify,h]
theorem set3_new {w:World} {b:Nat} {x0 x1 x2:Value} {t:TypeId} {f:Nat × Nat} (h:w.heap[b]? =some (.cells #[x0,x1,x2] t f)) (u0 u1 u2:Value):
 (((w.setCell ⟨b,0,none⟩ u0).setCell ⟨b,1,none⟩ u1).setCell ⟨b,2,none⟩ u2).heap[b]? =some (.cells #[u0,u1,u2] t f):=
 zAy (o:=2) (zAy (o:=1) (zAy (o:=0) h u0) u1) u2
theorem Set3.three {b:Nat} {w w':World} {t:TypeId} {f:Nat × Nat} (h:Set3 b w w') (hx:∃x0 x1 x2,w.heap[b]? =some (.cells #[x0,x1,x2] t f)):∃x0 x1 x2,w'.heap[b]? =some (.cells #[x0,x1,x2] t f):=by
 obtain ⟨u0,u1,u2,rfl⟩:=h;obtain ⟨x0,x1,x2,hx⟩:=hx;exact ⟨u0,u1,u2,set3_new hx u0 u1 u2⟩
theorem zAi {w w':World} {g:Nat} {o:Obj} (hb:Below w.heap.size w w') (h:w.heap[g]? =some o):w'.heap[g]? =some o:=(hb.block g (Array.getElem?_eq_some_iff.1 h).1).trans h
theorem zAj {w w':World} {g b:Nat} {o:Obj} (hg:w.grownBy w' (some b)) (aK:g≠b) (h:w.heap[g]? =some o):w'.heap[g]? =some o:=
 (hg.block g (Array.getElem?_eq_some_iff.1 h).1 (fun e=> aK (Option.some.inj e))).trans h
theorem RowD.grown {t size n lo hi b:Nat} {xs:List Value} {v:Value} {w w':World} (h:RowD t size n xs v w lo hi) (hg:w.grownBy w' (some b)) (hb:b < lo):RowD t size n xs v w' lo hi:=
 ⟨h.1,zCn h.2.1 hg (fun k e e2=> by have:=(World.ownsRow.lt h.2.1 _ e).1;cases e2;omega),h.2.2⟩
end
section
open Go.RowKit
section
variable {P:Program} {ops:Array Oper} {Q:Exit→Act→World→Prop}
theorem wpAny_makersT (es:List Nat) (G:World→World→Prop) (St:Nat→World→World→Prop) (S:(Nat→Bool)→World→Prop) (R:Nat→Value→List Value→World→Nat→Nat→Prop) (dp:Nat→List Nat) {fuel:Nat} {l0:Array Bool} {a0:Act} {w0:World}
 (cE:zCp ops l0 es=true) (rF:∀k∈es,∀j∈dp k,ahd ops j k=true∧isIn j es=true) (hf:es.length≤fuel) (hS0:S (fun k=> lst l0 k) w0) (hG0:∀w,G w w) (hGt:∀w w1 w2,G w w1→G w1 w2→G w w2) (hGs:∀w w',G w w'→w.heap.size≤w'.heap.size) (hStG:∀k∈es,∀w w',St k w w'→G w w') (hSs:∀k∈es,∀d w w',d k=false→G w0 w→St k w w'→S d w→S (upd d k true) w')
 (hRs:∀k∈es,∀i∈es,k≠i→∀v xs w w' lo hi,w0.heap.size≤lo→St i w w'→hi≤w.heap.size→R k v xs w lo hi→R k v xs w' lo hi)
 (eQ:∀k∈es,∀o,ops[k]? =some o→∀vs d w,G w0 w→d k=false→S d w→(∀j,ahd ops j k=true→isIn j es=true→∃lo hi,hi≤w.heap.size∧R j (vs j) ((dp j).map vs) w lo hi)→∀K:Act→World→Prop,
  Shut (∀v w',St k w w'→R k v ((dp k).map vs) w' w.heap.size w'.heap.size→K ((fill a0 ops vs es).put o.dst v) w')→
  if Region.wanted o (yielded ops (fill a0 ops vs es).tmps)=true then Oper.wp P o (fill a0 ops vs es) w K Q else K ((fill a0 ops vs es).put o.dst undef) w)
 (fY:∀vs w (lo hi:Nat→Nat),G w0 w→S (fun k=> lst (zCd l0 es) k) w→(∀k∈es,R k (vs k) ((dp k).map vs) w (lo k) (hi k)∧w0.heap.size≤lo k∧hi k≤w.heap.size)→(∀j∈es,∀k∈es,j≠k→hi j≤lo k∨hi k≤lo j)→
  wpAny P .any ops Q (fuel - es.length) (zCd l0 es) (fill a0 ops vs es) w):wpAny P .any ops Q fuel l0 a0 w0:=by
 unfold zCp at cE;simp only [Bool.and_eq_true,List.all_eq_true,List.mem_range,Bool.or_eq_true,Bool.not_eq_true'] at cE;obtain ⟨c1,c2,c3,c4,c5,c6⟩:=cE;have c5:l0.size=ops.size:=Nat.eq_of_beq_eq_true c5;have aM:∀k∈es,k < ops.size:=fun k hk=> by have:=(c2 k hk).1;exact Nat.lt_of_lt_of_le (Nat.lt_succ_self k) (Nat.le_of_ble_eq_true this)
 have zL:∀k∈es,∀j∈es,j≠k→∀d,dsOf ops j=some d→dsOf ops k≠some d:=fun k hk j hj aK d h1 h2=> by
  rcases c4 k hk j hj with h | h
  · exact aK (Nat.eq_of_beq_eq_true h)
  · rw [h1,h2] at h
    simp at h
 have nK:∀k,lst l0 k=true→∀j∈zBu ops k,lst l0 j=true:=fun k hk j hj=> by
  have zE:k < ops.size:=by
   rw [←c5];rcases Nat.lt_or_ge k l0.size with h | h
   · exact h
   · unfold lst at hk;simp [Array.getElem?_eq_none h] at hk
  rcases c1 k zE with h | h
  · rw [h] at hk;cases hk
  · exact h j hj
 have key:∀ (m:Nat) (l:Array Bool) (vs:Nat→Value) (lo hi:Nat→Nat) (w:World),(es.filter fun k=> !lst l k).length=m→l.size=ops.size→(∀k,¬k∈es→lst l k=lst l0 k)→
  (∀k,lst l k=true→∀j∈zBu ops k,lst l j=true)→(∀k∈es,lst l k=true→R k (vs k) ((dp k).map vs) w (lo k) (hi k)∧w0.heap.size≤lo k∧hi k≤w.heap.size)→
  (∀j∈es,∀k∈es,lst l j=true→lst l k=true→j≠k→hi j≤lo k∨hi k≤lo j)→S (fun k=> lst l k) w→G w0 w→
  wpAny P .any ops Q (m+(fuel - es.length)) l (fill a0 ops vs es) w:=by
  intro m
  induction m with
  | zero=>
   intro l vs lo hi w hm hsz bH dK hR cX hS hB;have bN:∀k∈es,lst l k=true:=fun k hk=> by
    cases h:lst l k with
    | true=> rfl
    | false=>
     have:k∈es.filter fun k=> !lst l k:=List.mem_filter.2 ⟨hk,by simp [h]⟩
     rw [List.eq_nil_of_length_eq_zero hm] at this;cases this
   have hLL:=eq_listAll (l:=l) (l0:=l0) (by omega) (fun j hj=> by rw [c5];exact aM j hj) bH bN;rw [Nat.zero_add];rw [hLL] at hS⊢;exact fY vs w lo hi hB hS (fun k hk=> hR k hk (bN k hk)) (fun j hj k hk aK=> cX j hj k hk (bN j hj) (bN k hk) aK)
  | succ m ih=>
   intro l vs lo hi w hm hsz bH dK hR cX hS hB;obtain ⟨k0,lZ,kD⟩:∃k∈es,lst l k=false:=by
    cases hx:es.filter fun k=> !lst l k with
    | nil=> rw [hx] at hm;cases hm
    | cons k t=>
     have:k∈es.filter fun k=> !lst l k:=by rw [hx];simp
     obtain ⟨h1,h2⟩:=List.mem_filter.1 this;exact ⟨k,h1,by simpa using h2⟩
   have tK:m+1+(fuel - es.length)=(m+(fuel - es.length))+1:=by omega
   rw [tK];refine ⟨fun hr=> ?_,fun i kG=> ?_⟩
   · obtain ⟨k,hk,hu,nH⟩:=zDs (l:=l) ops.size ⟨k0,lZ,aM k0 lZ,kD⟩;have:k∈Region.ready .any ops l:=by
      rw [zCm hsz];refine ⟨aM k hk,hu,fun j hj=> ?_⟩;rcases (c2 k hk).2.2 j hj with h | h
      · by_cases e:j∈es
        · have:=(c2 j e).2.1;rw [this] at h;cases h
        · rw [bH j e];exact h
      · exact nH j (zAk.1 h.1) (Nat.lt_of_lt_of_le (Nat.lt_succ_self j) (Nat.le_of_ble_eq_true h.2))
     rw [hr] at this;cases this
   · have gX:=kG;rw [zCm hsz] at gX;obtain ⟨iW,dU,iD⟩:=gX;have dJ:i∈es:=by
      by_cases e:i∈es
      · exact e
      · exfalso
        rcases c3 i iW with h | h | h
        · rw [bH i e,h] at dU;cases dU
        · exact e (zAk.1 h)
        · have:=h k0 lZ;unfold ahd at this;have:=zBe dK ops.size i iD k0 (by simpa using this);rw [kD] at this;cases this
     have ho:ops[i]? =some ops[i]:=by simp [iW]
     have hd:dsOf ops i=(ops[i]).dst:=by unfold dsOf;rw [ho];rfl
     have iI:i < l.size:=by omega
     refine wpOp_step ho fun K hK=> eQ i dJ ops[i] ho vs (fun k=> lst l k) w hB dU hS (fun j hj zF=> ?_) K fun v w' hb hr=> hK _ _ ?_
     · have eS:=zBe dK ops.size i iD j (by unfold ahd at hj;simpa using hj);obtain ⟨h1,h2,h3⟩:=hR j (zAk.1 zF) eS;exact ⟨lo j,hi j,h3,h1⟩
     · rw [←hd,fill_put dJ c6 (fun k hk aK d h1=> zL i dJ k hk aK d h1)];have hG':=hStG i dJ _ _ hb;have hB':G w0 w':=hGt _ _ _ hB hG';have hSn:S (fun k=> lst (l.setIfInBounds i true) k) w':=by
        have hS2:=hSs i dJ (fun k=> lst l k) _ _ dU hB hb hS;have he:upd (fun k=> lst l k) i true=fun k=> lst (l.setIfInBounds i true) k:=funext fun k=> by rw [zBx iI];rfl
        rw [he] at hS2;exact hS2
       refine ih (l.setIfInBounds i true) (upd vs i v) (upd lo i w.heap.size) (upd hi i w'.heap.size) w' ?_ (by simp [hsz]) (fun k hk=> ?_) (fun k hk j hj=> ?_) (fun k hk eC=> ?_) (fun j hj k hk eS eC aK=> ?_) hSn hB'
       · have:=unl_step iI dU dJ c6;omega
       · rw [zBx iI,if_neg (fun e=> hk (by rw [e];exact dJ))];exact bH k hk
       · rw [zBx iI] at hk⊢
         by_cases e:j=i
         · rw [if_pos e]
         · rw [if_neg e]
           by_cases e2:k=i
           · subst e2;exact iD j hj
           · rw [if_neg e2] at hk;exact dK k hk j hj
       · by_cases e:k=i
         · subst e;have lX:(dp k).map (upd vs k v)=(dp k).map vs:=List.map_congr_left fun j hj=> zAp vs v (show j≠k from fun e2=> by
            have:=zBe dK ops.size k iD j (by have:=(rF k hk j hj).1;unfold ahd at this;simpa using this);rw [e2,dU] at this;cases this)
           rw [lX,zAm,zAm,zAm];exact ⟨hr,hGs _ _ hB,Nat.le_refl _⟩
         · rw [zBx iI,if_neg e] at eC;obtain ⟨h1,h2,h3⟩:=hR k hk eC;have lX:(dp k).map (upd vs i v)=(dp k).map vs:=List.map_congr_left fun j hj=> zAp vs v (show j≠i from fun e2=> by
            have:=zBe dK ops.size k (fun x hx=> dK k eC x hx) j (by have:=(rF k hk j hj).1;unfold ahd at this;simpa using this);rw [e2,dU] at this;cases this)
           rw [lX,zAp _ _ e,zAp _ _ e,zAp _ _ e];exact ⟨hRs k hk i dJ e _ _ _ _ _ _ h2 hb h3 h1,h2,Nat.le_trans h3 (hGs _ _ hG')⟩
       · rw [zBx iI] at eS eC
         by_cases e:j=i
         · subst e;rw [zAm,zAm];have e2:k≠j:=Ne.symm aK;rw [if_neg e2] at eC;rw [zAp _ _ e2,zAp _ _ e2];exact .inr (hR k hk eC).2.2
         · rw [zAp _ _ e,zAp _ _ e]
           by_cases e2:k=i
           · subst e2;rw [if_neg e] at eS;rw [zAm,zAm];exact .inl (hR j hj eS).2.2
           · rw [if_neg e] at eS;rw [if_neg e2] at eC;rw [zAp _ _ e2,zAp _ _ e2];exact cX j hj k hk eS eC aK
 have nE:∀k∈es,lst l0 k=false:=fun k hk=> (c2 k hk).2.1
 have h0:(es.filter fun k=> !lst l0 k).length=es.length:=by rw [List.filter_eq_self.2 (fun k hk=> by simp [nE k hk])]
 have:=key es.length l0 (fun k=> match dsOf ops k with | some d=> a0.tmps.getD d undef | none=> undef) (fun _=> 0) (fun _=> 0) w0 h0 c5 (fun _ _=> rfl) nK (fun k hk hl=> by rw [nE k hk] at hl;cases hl) (fun j hj k _ hl=> by rw [nE j hj] at hl;cases hl) hS0 (hG0 _);rw [show fill a0 ops (fun k=> match dsOf ops k with | some d=> a0.tmps.getD d undef | none=> undef) es=a0 from fill_own,show es.length+(fuel - es.length)=fuel by omega] at this;exact this
def OwedT (P:Program) (ops:Array Oper) (Q:Exit→Act→World→Prop) (G:World→World→Prop) (St:Nat→World→World→Prop) (S:(Nat→Bool)→World→Prop) (R:RelD) (ds:List OpD) (a0:Act) (w0:World) (k:Nat) (o:Oper):Prop:=
 ∀ (vs:Nat→Value) (d:Nat→Bool) (w:World),G w0 w→d k=false→S d w→(∀j,(ahd ops j k && isIn j (nosD ds))=true→∃lo hi,hi≤w.heap.size∧R j (vs j) ((dpD ds j).map vs) w lo hi)→∀K:Act→World→Prop,
  Shut (∀v w',St k w w'→R k v ((dpD ds k).map vs) w' w.heap.size w'.heap.size→K ((zBb a0 vs ds).put o.dst v) w')→
  if Region.wanted o (yielded ops (zBb a0 vs ds).tmps)=true then Oper.wp P o (zBb a0 vs ds) w K Q else K ((zBb a0 vs ds).put o.dst undef) w
theorem zDm (ds:List OpD) (G:World→World→Prop) (St:Nat→World→World→Prop) (S:(Nat→Bool)→World→Prop) (R:RelD) {fuel:Nat} {l0:Array Bool} {a0:Act} {w0:World}
 (cE:(zCp ops l0 (nosD ds) && (depsOk ops ds && (slotsOk ops ds && Nat.ble (nosD ds).length fuel)))=true) (hS0:S (fun k=> lst l0 k) w0)
 (hG0:∀w,G w w) (hGt:∀w w1 w2,G w w1→G w1 w2→G w w2) (hGs:∀w w',G w w'→w.heap.size≤w'.heap.size) (hStG:∀k w w',St k w w'→G w w')
 (hSs:∀k d w w',d k=false→G w0 w→St k w w'→S d w→S (upd d k true) w')
 (hRs:∀k i,k≠i→∀v xs w w' lo hi,w0.heap.size≤lo→St i w w'→hi≤w.heap.size→R k v xs w lo hi→R k v xs w' lo hi)
 (eQ:Each ops (OwedT P ops Q G St S R ds a0 w0) ds)
 (fY:∀vs w (lo hi:Nat→Nat),G w0 w→S (fun k=> lst (zCd l0 (nosD ds)) k) w→(∀k,isIn k (nosD ds)=true→R k (vs k) ((dpD ds k).map vs) w (lo k) (hi k)∧w0.heap.size≤lo k∧hi k≤w.heap.size)→
  (∀j k,(isIn j (nosD ds) && (isIn k (nosD ds) && !Nat.beq j k))=true→hi j≤lo k∨hi k≤lo j)→
  wpAny P .any ops Q (fuel - (nosD ds).length) (zCd l0 (nosD ds)) (zBb a0 vs ds) w):wpAny P .any ops Q fuel l0 a0 w0:=by
 simp only [Bool.and_eq_true] at cE;obtain ⟨h1,h2,h3,h4⟩:=cE;unfold depsOk at h2;simp only [List.all_eq_true,Bool.and_eq_true] at h2;refine wpAny_makersT (nosD ds) G St S R (dpD ds) h1 h2 (Nat.le_of_ble_eq_true h4) hS0 hG0 hGt hGs (fun k _=> hStG k) (fun k _=> hSs k) (fun k _ i _=> hRs k i) (fun k hk o ho vs d w hb hdk hS hR K hK=> ?_) (fun vs w lo hi hb hS hR cX=> ?_)
 · have:=Each.mem eQ k hk o ho vs d w hb hdk hS (fun j hj=> by rw [Bool.and_eq_true] at hj;exact hR j hj.1 hj.2) K (by rw [←zCs h3];exact hK);rw [zCs h3];exact this
 · rw [zCs h3];exact fY vs w lo hi hb hS (fun k hk=> hR k (zAk.1 hk)) (fun j k iH=> by
    simp only [Bool.and_eq_true,Bool.not_eq_true'] at iH;exact cX j (zAk.1 iH.1) k (zAk.1 iH.2.1) (fun e=> by subst e;simp at iH))
end
theorem append_own_op {P:Program} {o:Oper} {a:Act} {w:World} {K:Act→World→Prop} {Q:Exit→Act→World→Prop}
 (hg:o.guard=none) (s x:Operand) (t:TypeId) (eQ:o.op=Op.call {callee:=Callee.builtin Builtin.append,args:=#[s,x],argTypes:=#[t,t]})
 (base e size bytes:Nat) (i:TypeInfo) (z:Value) (ht:P.underlying t=some (.slice e)) (hi:P.info? e=some i) (hz:i.zero=some z)
 (bY:i.size=size) (mW:i.bytes=bytes) (nD:z.cells.size=size)
 (v:Value) (n:Nat) (xs:List Value) (aC:w.ownsRow base e size v n xs) (ad:Addr) (m c:Nat) (news:List Value) (hs:a.eval s=v) (hx:a.eval x=.slice (some ad) m c)
 (hl:news.length=m * size) (iV:∀j u,news[j]? =some u→w.cell? (ad.add j)=some u) (h1:∀u∈news,u.oneCell'=true) (hm0:0 < m)
 (kH:n+m≤maxLen) (bM:(n+m) * bytes≤140737488355328) (gP:base≤w.heap.size)
 (hK:∀g cap w',w'.ownsRow base e size (.slice (some ⟨g,0,none⟩) (n+m) cap) (n+m) (xs++news)→g < w'.heap.size→((v.ownBlock=some g∧w.grownBy w' (some g))∨(g=w.heap.size∧w.grownBy w' none))→
  K (a.put o.dst (.slice (some ⟨g,0,none⟩) (n+m) cap)) w'):Oper.wp P o a w K Q:=by
 have h:=zCk (ops:=#[]) (Q:=Q) (E:=False) hg s x t eQ base e size bytes i z ht hi hz bY mW nD v n xs aC ad m c news hs hx hl iV h1 hm0 kH bM gP hK;have hw:Region.wanted o (yielded #[] a.tmps)=true:=by simp [Region.wanted,hg]
 rwa [if_pos hw] at h
def OneD (x:Value) (t:Nat) (v:Value) (w:World) (lo hi:Nat):Prop:=∃b,v=.slice (some ⟨b,0,none⟩) 1 1∧lo≤b∧b < hi∧w.heap[b]? =some (.cells #[x] t (0,0))
theorem OneD.later {x:Value} {t lo hi:Nat} {v:Value} {w w':World} (h:OneD x t v w lo hi) (hb:Below w.heap.size w w'):OneD x t v w' lo hi:=by
 obtain ⟨b,h1,h2,h3,h4⟩:=h;exact ⟨b,h1,h2,h3,zAi hb h4⟩
theorem OneD.grown {x:Value} {t lo hi g:Nat} {v:Value} {w w':World} (h:OneD x t v w lo hi) (hg:w.grownBy w' (some g)) (hl:g < lo):OneD x t v w' lo hi:=by
 obtain ⟨b,h1,h2,h3,h4⟩:=h;exact ⟨b,h1,h2,h3,zAj hg (by omega) h4⟩
end
end Go.Proofs.YtdepiggjneoopaaGreatDoor
