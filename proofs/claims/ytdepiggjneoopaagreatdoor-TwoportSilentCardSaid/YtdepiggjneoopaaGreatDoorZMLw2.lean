/- a part of the proof of the last text -/
import Derived.Test.YtdepiggjneoopaaGreatDoorZMLw1
namespace Go.Proofs.YtdepiggjneoopaaGreatDoor
set_option linter.all false
set_option maxHeartbeats 4000000
set_option maxRecDepth 100000
section
open Go.RowKit
section
variable {P:Program} {ops:Array Oper} {Q:Exit→Act→World→Prop}
theorem wpAny_makersU (es:List Nat) (G:World→World→Prop) (St:Nat→World→World→Prop) (S:(Nat→Bool)→World→Prop) (R:Nat→Value→List Value→World→Nat→Nat→Prop) (dp:Nat→List Nat) {fuel:Nat} {l0:Array Bool} {a0:Act} {w0:World}
 (cE:zCp ops l0 es=true) (rF:∀k∈es,∀j∈dp k,ahd ops j k=true∧isIn j es=true) (hf:es.length≤fuel) (hS0:S (fun k=> lst l0 k) w0) (hG0:∀w,G w w) (hGt:∀w w1 w2,G w w1→G w1 w2→G w w2) (hGs:∀w w',G w w'→w.heap.size≤w'.heap.size) (hStG:∀k∈es,∀w w',St k w w'→G w w') (hSs:∀k∈es,∀d w w',d k=false→(∀j∈zBu ops k,d j=true)→(∀x,d x=true→∀j∈zBu ops x,d j=true)→G w0 w→St k w w'→S d w→S (upd d k true) w')
 (hRs:∀k∈es,∀i∈es,k≠i→∀v xs w w' lo hi,w0.heap.size≤lo→St i w w'→hi≤w.heap.size→R k v xs w lo hi→R k v xs w' lo hi)
 (eQ:∀k∈es,∀o,ops[k]? =some o→∀vs d w,G w0 w→d k=false→(∀j∈zBu ops k,d j=true)→(∀x,d x=true→∀j∈zBu ops x,d j=true)→S d w→(∀j,ahd ops j k=true→isIn j es=true→∃lo hi,hi≤w.heap.size∧R j (vs j) ((dp j).map vs) w lo hi)→∀K:Act→World→Prop,
  Shut (∀v w',St k w w'→R k v ((dp k).map vs) w' w.heap.size w'.heap.size→K ((fill a0 ops vs es).put o.dst v) w')→
  if Region.wanted o (yielded ops (fill a0 ops vs es).tmps)=true then Oper.wp P o (fill a0 ops vs es) w K Q else K ((fill a0 ops vs es).put o.dst undef) w)
 (fY:∀vs w (lo hi:Nat→Nat),G w0 w→S (fun k=> lst (zCd l0 es) k) w→(∀k∈es,R k (vs k) ((dp k).map vs) w (lo k) (hi k)∧w0.heap.size≤lo k∧hi k≤w.heap.size)→(∀j∈es,∀k∈es,j≠k→hi j≤lo k∨hi k≤lo j)→
  wpAny P .any ops Q (fuel - es.length) (zCd l0 es) (fill a0 ops vs es) w):wpAny P .any ops Q fuel l0 a0 w0:=by
 unfold zCp at cE;simp only [Bool.and_eq_true,List.all_eq_true,List.mem_range,Bool.or_eq_true,Bool.not_eq_true'] at cE;obtain ⟨c1,c2,c3,c4,c5,c6⟩:=cE;have c5:l0.size=ops.size:=Nat.eq_of_beq_eq_true c5;have aM:∀k∈es,k < ops.size:=fun k hk=> by have:=(c2 k hk).1;exact Nat.lt_of_lt_of_le (Nat.lt_succ_self k) (Nat.le_of_ble_eq_true this)
 have zL:∀k∈es,∀j∈es,j≠k→∀d,dsOf ops j=some d→dsOf ops k≠some d:=fun k hk j hj aK d h1 h2=> by
  rcases c4 k hk j hj with h | h
  · exact aK (Nat.eq_of_beq_eq_true h)
  · rw [h1,h2] at h
    simp at h
 have nK:∀k,lst l0 k=true→∀j∈zBu ops k,lst l0 j=true:=fun k hk j hj=> by
  have zE:k < ops.size:=by
   rw [←c5];rcases Nat.lt_or_ge k l0.size with h | h
   · exact h
   · unfold lst at hk;simp [Array.getElem?_eq_none h] at hk
  rcases c1 k zE with h | h
  · rw [h] at hk;cases hk
  · exact h j hj
 have key:∀ (m:Nat) (l:Array Bool) (vs:Nat→Value) (lo hi:Nat→Nat) (w:World),(es.filter fun k=> !lst l k).length=m→l.size=ops.size→(∀k,¬k∈es→lst l k=lst l0 k)→
  (∀k,lst l k=true→∀j∈zBu ops k,lst l j=true)→(∀k∈es,lst l k=true→R k (vs k) ((dp k).map vs) w (lo k) (hi k)∧w0.heap.size≤lo k∧hi k≤w.heap.size)→
  (∀j∈es,∀k∈es,lst l j=true→lst l k=true→j≠k→hi j≤lo k∨hi k≤lo j)→S (fun k=> lst l k) w→G w0 w→
  wpAny P .any ops Q (m+(fuel - es.length)) l (fill a0 ops vs es) w:=by
  intro m
  induction m with
  | zero=>
   intro l vs lo hi w hm hsz bH dK hR cX hS hB;have bN:∀k∈es,lst l k=true:=fun k hk=> by
    cases h:lst l k with
    | true=> rfl
    | false=>
     have:k∈es.filter fun k=> !lst l k:=List.mem_filter.2 ⟨hk,by simp [h]⟩
     rw [List.eq_nil_of_length_eq_zero hm] at this;cases this
   have hLL:=eq_listAll (l:=l) (l0:=l0) (by omega) (fun j hj=> by rw [c5];exact aM j hj) bH bN;rw [Nat.zero_add];rw [hLL] at hS⊢;exact fY vs w lo hi hB hS (fun k hk=> hR k hk (bN k hk)) (fun j hj k hk aK=> cX j hj k hk (bN j hj) (bN k hk) aK)
  | succ m ih=>
   intro l vs lo hi w hm hsz bH dK hR cX hS hB;obtain ⟨k0,lZ,kD⟩:∃k∈es,lst l k=false:=by
    cases hx:es.filter fun k=> !lst l k with
    | nil=> rw [hx] at hm;cases hm
    | cons k t=>
     have:k∈es.filter fun k=> !lst l k:=by rw [hx];simp
     obtain ⟨h1,h2⟩:=List.mem_filter.1 this;exact ⟨k,h1,by simpa using h2⟩
   have tK:m+1+(fuel - es.length)=(m+(fuel - es.length))+1:=by omega
   rw [tK];refine ⟨fun hr=> ?_,fun i kG=> ?_⟩
   · obtain ⟨k,hk,hu,nH⟩:=zDs (l:=l) ops.size ⟨k0,lZ,aM k0 lZ,kD⟩;have:k∈Region.ready .any ops l:=by
      rw [zCm hsz];refine ⟨aM k hk,hu,fun j hj=> ?_⟩;rcases (c2 k hk).2.2 j hj with h | h
      · by_cases e:j∈es
        · have:=(c2 j e).2.1;rw [this] at h;cases h
        · rw [bH j e];exact h
      · exact nH j (zAk.1 h.1) (Nat.lt_of_lt_of_le (Nat.lt_succ_self j) (Nat.le_of_ble_eq_true h.2))
     rw [hr] at this;cases this
   · have gX:=kG;rw [zCm hsz] at gX;obtain ⟨iW,dU,iD⟩:=gX;have dJ:i∈es:=by
      by_cases e:i∈es
      · exact e
      · exfalso
        rcases c3 i iW with h | h | h
        · rw [bH i e,h] at dU;cases dU
        · exact e (zAk.1 h)
        · have:=h k0 lZ;unfold ahd at this;have:=zBe dK ops.size i iD k0 (by simpa using this);rw [kD] at this;cases this
     have ho:ops[i]? =some ops[i]:=by simp [iW]
     have hd:dsOf ops i=(ops[i]).dst:=by unfold dsOf;rw [ho];rfl
     have iI:i < l.size:=by omega
     refine wpOp_step ho fun K hK=> eQ i dJ ops[i] ho vs (fun k=> lst l k) w hB dU iD dK hS (fun j hj zF=> ?_) K fun v w' hb hr=> hK _ _ ?_
     · have eS:=zBe dK ops.size i iD j (by unfold ahd at hj;simpa using hj);obtain ⟨h1,h2,h3⟩:=hR j (zAk.1 zF) eS;exact ⟨lo j,hi j,h3,h1⟩
     · rw [←hd,fill_put dJ c6 (fun k hk aK d h1=> zL i dJ k hk aK d h1)];have hG':=hStG i dJ _ _ hb;have hB':G w0 w':=hGt _ _ _ hB hG';have hSn:S (fun k=> lst (l.setIfInBounds i true) k) w':=by
        have hS2:=hSs i dJ (fun k=> lst l k) _ _ dU iD dK hB hb hS;have he:upd (fun k=> lst l k) i true=fun k=> lst (l.setIfInBounds i true) k:=funext fun k=> by rw [zBx iI];rfl
        rw [he] at hS2;exact hS2
       refine ih (l.setIfInBounds i true) (upd vs i v) (upd lo i w.heap.size) (upd hi i w'.heap.size) w' ?_ (by simp [hsz]) (fun k hk=> ?_) (fun k hk j hj=> ?_) (fun k hk eC=> ?_) (fun j hj k hk eS eC aK=> ?_) hSn hB'
       · have:=unl_step iI dU dJ c6;omega
       · rw [zBx iI,if_neg (fun e=> hk (by rw [e];exact dJ))];exact bH k hk
       · rw [zBx iI] at hk⊢
         by_cases e:j=i
         · rw [if_pos e]
         · rw [if_neg e]
           by_cases e2:k=i
           · subst e2;exact iD j hj
           · rw [if_neg e2] at hk;exact dK k hk j hj
       · by_cases e:k=i
         · subst e;have lX:(dp k).map (upd vs k v)=(dp k).map vs:=List.map_congr_left fun j hj=> zAp vs v (show j≠k from fun e2=> by
            have:=zBe dK ops.size k iD j (by have:=(rF k hk j hj).1;unfold ahd at this;simpa using this);rw [e2,dU] at this;cases this)
           rw [lX,zAm,zAm,zAm];exact ⟨hr,hGs _ _ hB,Nat.le_refl _⟩
         · rw [zBx iI,if_neg e] at eC;obtain ⟨h1,h2,h3⟩:=hR k hk eC;have lX:(dp k).map (upd vs i v)=(dp k).map vs:=List.map_congr_left fun j hj=> zAp vs v (show j≠i from fun e2=> by
            have:=zBe dK ops.size k (fun x hx=> dK k eC x hx) j (by have:=(rF k hk j hj).1;unfold ahd at this;simpa using this);rw [e2,dU] at this;cases this)
           rw [lX,zAp _ _ e,zAp _ _ e,zAp _ _ e];exact ⟨hRs k hk i dJ e _ _ _ _ _ _ h2 hb h3 h1,h2,Nat.le_trans h3 (hGs _ _ hG')⟩
       · rw [zBx iI] at eS eC
         by_cases e:j=i
         · subst e;rw [zAm,zAm];have e2:k≠j:=Ne.symm aK;rw [if_neg e2] at eC;rw [zAp _ _ e2,zAp _ _ e2];exact .inr (hR k hk eC).2.2
         · rw [zAp _ _ e,zAp _ _ e]
           by_cases e2:k=i
           · subst e2;rw [if_neg e] at eS;rw [zAm,zAm];exact .inl (hR j hj eS).2.2
           · rw [if_neg e] at eS;rw [if_neg e2] at eC;rw [zAp _ _ e2,zAp _ _ e2];exact cX j hj k hk eS eC aK
 have nE:∀k∈es,lst l0 k=false:=fun k hk=> (c2 k hk).2.1
 have h0:(es.filter fun k=> !lst l0 k).length=es.length:=by rw [List.filter_eq_self.2 (fun k hk=> by simp [nE k hk])]
 have:=key es.length l0 (fun k=> match dsOf ops k with | some d=> a0.tmps.getD d undef | none=> undef) (fun _=> 0) (fun _=> 0) w0 h0 c5 (fun _ _=> rfl) nK (fun k hk hl=> by rw [nE k hk] at hl;cases hl) (fun j hj k _ hl=> by rw [nE j hj] at hl;cases hl) hS0 (hG0 _);rw [show fill a0 ops (fun k=> match dsOf ops k with | some d=> a0.tmps.getD d undef | none=> undef) es=a0 from fill_own,show es.length+(fuel - es.length)=fuel by omega] at this;exact this
def OwedU (P:Program) (ops:Array Oper) (Q:Exit→Act→World→Prop) (G:World→World→Prop) (St:Nat→World→World→Prop) (S:(Nat→Bool)→World→Prop) (R:RelD) (ds:List OpD) (a0:Act) (w0:World) (k:Nat) (o:Oper):Prop:=
 ∀ (vs:Nat→Value) (d:Nat→Bool) (w:World),G w0 w→d k=false→(∀j∈zBu ops k,d j=true)→(∀x,d x=true→∀j∈zBu ops x,d j=true)→S d w→(∀j,(ahd ops j k && isIn j (nosD ds))=true→∃lo hi,hi≤w.heap.size∧R j (vs j) ((dpD ds j).map vs) w lo hi)→∀K:Act→World→Prop,
  Shut (∀v w',St k w w'→R k v ((dpD ds k).map vs) w' w.heap.size w'.heap.size→K ((zBb a0 vs ds).put o.dst v) w')→
  if Region.wanted o (yielded ops (zBb a0 vs ds).tmps)=true then Oper.wp P o (zBb a0 vs ds) w K Q else K ((zBb a0 vs ds).put o.dst undef) w
theorem wpAny_makersUD (ds:List OpD) (G:World→World→Prop) (St:Nat→World→World→Prop) (S:(Nat→Bool)→World→Prop) (R:RelD) {fuel:Nat} {l0:Array Bool} {a0:Act} {w0:World}
 (cE:(zCp ops l0 (nosD ds) && (depsOk ops ds && (slotsOk ops ds && Nat.ble (nosD ds).length fuel)))=true) (hS0:S (fun k=> lst l0 k) w0)
 (hG0:∀w,G w w) (hGt:∀w w1 w2,G w w1→G w1 w2→G w w2) (hGs:∀w w',G w w'→w.heap.size≤w'.heap.size) (hStG:∀k w w',St k w w'→G w w')
 (hSs:∀k d w w',d k=false→(∀j∈zBu ops k,d j=true)→(∀x,d x=true→∀j∈zBu ops x,d j=true)→G w0 w→St k w w'→S d w→S (upd d k true) w')
 (hRs:∀k i,k≠i→∀v xs w w' lo hi,w0.heap.size≤lo→St i w w'→hi≤w.heap.size→R k v xs w lo hi→R k v xs w' lo hi)
 (eQ:Each ops (OwedU P ops Q G St S R ds a0 w0) ds)
 (fY:∀vs w (lo hi:Nat→Nat),G w0 w→S (fun k=> lst (zCd l0 (nosD ds)) k) w→(∀k,isIn k (nosD ds)=true→R k (vs k) ((dpD ds k).map vs) w (lo k) (hi k)∧w0.heap.size≤lo k∧hi k≤w.heap.size)→
  (∀j k,(isIn j (nosD ds) && (isIn k (nosD ds) && !Nat.beq j k))=true→hi j≤lo k∨hi k≤lo j)→
  wpAny P .any ops Q (fuel - (nosD ds).length) (zCd l0 (nosD ds)) (zBb a0 vs ds) w):wpAny P .any ops Q fuel l0 a0 w0:=by
 simp only [Bool.and_eq_true] at cE;obtain ⟨h1,h2,h3,h4⟩:=cE;unfold depsOk at h2;simp only [List.all_eq_true,Bool.and_eq_true] at h2;refine wpAny_makersU (nosD ds) G St S R (dpD ds) h1 h2 (Nat.le_of_ble_eq_true h4) hS0 hG0 hGt hGs (fun k _=> hStG k) (fun k _=> hSs k) (fun k _ i _=> hRs k i) (fun k hk o ho vs d w hb hdk hrd dK hS hR K hK=> ?_) (fun vs w lo hi hb hS hR cX=> ?_)
 · have:=Each.mem eQ k hk o ho vs d w hb hdk hrd dK hS (fun j hj=> by rw [Bool.and_eq_true] at hj;exact hR j hj.1 hj.2) K (by rw [←zCs h3];exact hK);rw [zCs h3];exact this
 · rw [zCs h3];exact fY vs w lo hi hb hS (fun k hk=> hR k (zAk.1 hk)) (fun j k iH=> by
    simp only [Bool.and_eq_true,Bool.not_eq_true'] at iH;exact cX j (zAk.1 iH.1) k (zAk.1 iH.2.1) (fun e=> by subst e;simp at iH))
end
end
section
open Go.RowKit
theorem chS_range {c:List Cx} {k:Nat}:∀ {m:Nat} {s:Nat × Bool},chS c k m=some s→k≤s.1∧(s.1=k∨s.1 < k+m)
 | 0,s,h=> by
  unfold chS at h;obtain rfl:=Option.some.inj h;exact ⟨Nat.le_refl _,.inl rfl⟩
 | m+1,s,h=> by
  unfold chS at h
  split at h
  · cases h
  · rename_i s0 hs;obtain ⟨h1,h2⟩:=chS_range hs
    split at h
    · obtain rfl:=Option.some.inj h;dsimp only
      split
      · exact ⟨by omega,.inr (by omega)⟩
      · exact ⟨h1,by omega⟩
    · cases h
theorem choose_ok {c:List Cx} {k:Nat} (hk:k < c.length) (h:(zCb c k).2=0):∃b:Nat,zCb c k=((b:Int),0)∧k≤b∧b < c.length:=by
 unfold zCb at *;cases hs:chS c k (c.length - k) with
 | none=> rw [hs] at h;cases h
 | some s=>
  rw [hs] at h;dsimp only at h⊢;obtain ⟨h1,h2⟩:=chS_range hs;cases hz:s.2 with
  | true=> rw [hz] at h;cases h
  | false=> exact ⟨s.1,by simp,h1,by omega⟩
theorem VecM.sto {w:World} {b n k r1 r2:Nat} {r:Nat→Cx} {M:List Cx} {c:Cx} (h:VecM w b n r M) (hk:k < n) (hz:ck (r1,r2)=c):VecR (w.setCell ⟨b,k,none⟩ (.complex .f64 r1 r2)) b n (upd r k c):=by
 subst hz;exact ⟨_,h.put hk (r1,r2)⟩
theorem VecR.congr {w:World} {b n:Nat} {r q:Nat→Cx} (h:VecR w b n r) (he:∀k,k < n→r k=q k):VecR w b n q:=by
 obtain ⟨M,hM⟩:=h;exact ⟨M,hM.len,hM.row,fun k hk=> by rw [hM.num k hk,he k hk]⟩
theorem set_swp {α:Type} (f:Nat→α) {m k p:Nat} (hk:k < m) (hp:p < m) (aK:p≠k):(((List.range m).map f).set k (f p)).set p (f k)=(List.range m).map fun i=> f (swp p k i):=by
 apply List.ext_getElem
 · simp
 · intro i h1 h2;simp only [List.getElem_set,List.getElem_map,List.getElem_range];unfold swp
   by_cases e1:p=i
   · rw [if_pos e1,if_neg (show¬i=k by omega),if_pos e1.symm]
   · rw [if_neg e1]
     by_cases e2:k=i
     · rw [if_pos e2,if_pos e2.symm]
     · rw [if_neg e2,if_neg (fun e=> e2 e.symm),if_neg (fun e=> e1 e.symm)]
theorem swp_inj {p k i j:Nat} (h:swp p k i=swp p k j):i=j:=by
 unfold swp at h
 split at h <;> split at h <;> (try split at h) <;> (try split at h) <;> omega
theorem LwAt.rc {B g gR n m mo j cR:Nat} {w:World} {aR:Option Addr} {vO:Value} {bj:Nat→Nat} {M:Nat→List Cx} {ord:List Int} {sg:Int} (h:LwAt B w g (.slice aR m cR) vO n m mo bj M ord sg) (hj:j < m) (hg:(Value.slice aR m cR).ownBlock=some gR):
 w.cell? ⟨gR,j,none⟩=some (.slice (some ⟨bj j,0,none⟩) n n)∧w.frozen? ⟨gR,j,none⟩=false∧(∀w',(Instr.indexAt 204 (.slice aR m cR) (.int .i64 j)).run Tryz.prog w'=.ok (.pointer (some ⟨gR,j,none⟩)) w'):=by
 obtain ⟨ir,wL,hr0,nG,fO⟩:=info_parts infoCs;obtain ⟨g1,x,aZ,_,_,hc,hx,hf,eB,_⟩:=zEk Tryz.underlying204 wL nG h.oR hj;obtain rfl:=Option.some.inj (eB.symm.trans hg);rw [List.getElem?_map,List.getElem?_range hj] at hx;obtain rfl:=Option.some.inj hx;exact ⟨hc,hf,aZ⟩
theorem LwAt.oc {B g gO n m mo j cO:Nat} {x:Int} {w:World} {aO:Option Addr} {vR:Value} {bj:Nat→Nat} {M:Nat→List Cx} {ord:List Int} {sg:Int} (h:LwAt B w g vR (.slice aO mo cO) n m mo bj M ord sg) (hj:j < mo) (hx:ord[j]? =some x) (hg:(Value.slice aO mo cO).ownBlock=some gO):
 w.cell? ⟨gO,j,none⟩=some (.int .i64 x)∧w.frozen? ⟨gO,j,none⟩=false∧(∀w',(Instr.indexAt 151 (.slice aO mo cO) (.int .i64 j)).run Tryz.prog w'=.ok (.pointer (some ⟨gO,j,none⟩)) w'):=by
 obtain ⟨ii,tG,kG,gX,pA⟩:=info_parts infoI;obtain ⟨g1,y,aZ,_,_,hc,hy,hf,eB,_⟩:=zEk Tryz.underlying151 tG gX h.oO hj;obtain rfl:=Option.some.inj (eB.symm.trans hg);rw [List.getElem?_map,hx] at hy;obtain rfl:=Option.some.inj hy;exact ⟨hc,hf,aZ⟩
def swStp (gR gO g k p:Nat) (u1 u2 u3 u4 u5:Value):Nat→World→World
 | 55,w=> w.setCell ⟨gR,k,none⟩ u1
 | 57,w=> w.setCell ⟨gR,p,none⟩ u2
 | 59,w=> w.setCell ⟨gO,k,none⟩ u3
 | 61,w=> w.setCell ⟨gO,p,none⟩ u4
 | 64,w=> w.setCell ⟨g,3,none⟩ u5
 | _,w=> w
def swCh (st:Nat→World→World) (d:Nat→Bool) (w:World):World:=
 if d 55=true then if d 57=true then if d 59=true then if d 61=true then if d 64=true then st 64 (st 61 (st 59 (st 57 (st 55 w)))) else st 61 (st 59 (st 57 (st 55 w))) else st 59 (st 57 (st 55 w)) else st 57 (st 55 w) else st 55 w else w
theorem swStp_other {gR gO g k p j:Nat} {u1 u2 u3 u4 u5:Value} {w:World} (h1:j≠55) (h2:j≠57) (h3:j≠59) (h4:j≠61) (h5:j≠64):swStp gR gO g k p u1 u2 u3 u4 u5 j w=w:=by
 unfold swStp
 split <;> first | rfl | contradiction
theorem swo {gR gO g k p j:Nat} {u1 u2 u3 u4 u5:Value} {w:World} (h:(j !=55 && (j !=57 && (j !=59 && (j !=61 && j !=64))))=true):swStp gR gO g k p u1 u2 u3 u4 u5 j w=w:=by
 simp only [Bool.and_eq_true,bne_iff_ne] at h;exact swStp_other h.1 h.2.1 h.2.2.1 h.2.2.2.1 h.2.2.2.2
theorem swStp_size (gR gO g k p:Nat) (u1 u2 u3 u4 u5:Value) (j:Nat) (w:World):w.heap.size≤ (swStp gR gO g k p u1 u2 u3 u4 u5 j w).heap.size:=by
 unfold swStp
 split <;> first | exact Nat.le_refl _ | exact (zAn w _ _ _).size
theorem swCh_step {st:Nat→World→World} (bT:∀j w,j≠55→j≠57→j≠59→j≠61→j≠64→st j w=w) {d:Nat→Bool} {j:Nat} {w0 w w':World} (hd:d j=false)
 (c1:d 57=true→d 55=true) (c2:d 59=true→d 57=true) (c3:d 61=true→d 59=true) (c4:d 64=true→d 61=true)
 (a1:j=57→d 55=true) (a2:j=59→d 57=true) (a3:j=61→d 59=true) (a4:j=64→d 61=true) (hw':w'=st j w) (hw:w=swCh st d w0):w'=swCh st (upd d j true) w0:=by
 subst hw hw'
 by_cases e1:j=55
 · subst e1;have f1:¬d 57=true:=fun h=> by rw [c1 h] at hd;cases hd
   unfold swCh;rw [if_neg (by rw [hd];decide),zAm,if_pos rfl,zAp _ _ (by decide),if_neg f1]
 · by_cases e2:j=57
   · subst e2;have f1:¬d 59=true:=fun h=> by rw [c2 h] at hd;cases hd
     have t1:=a1 rfl;unfold swCh;rw [if_pos t1,if_neg (by rw [hd];decide),zAp _ _ (by decide),if_pos t1,zAm,if_pos rfl,zAp _ _ (by decide),if_neg f1]
   · by_cases e3:j=59
     · subst e3;have f1:¬d 61=true:=fun h=> by rw [c3 h] at hd;cases hd
       have t2:=a2 rfl;have t1:=c1 t2;unfold swCh;rw [if_pos t1,if_pos t2,if_neg (by rw [hd];decide),zAp _ _ (by decide),if_pos t1,zAp _ _ (by decide),if_pos t2,zAm,if_pos rfl,zAp _ _ (by decide),if_neg f1]
     · by_cases e4:j=61
       · subst e4;have f1:¬d 64=true:=fun h=> by rw [c4 h] at hd;cases hd
         have t3:=a3 rfl;have t2:=c2 t3;have t1:=c1 t2;unfold swCh;rw [if_pos t1,if_pos t2,if_pos t3,if_neg (by rw [hd];decide),zAp _ _ (by decide),if_pos t1,zAp _ _ (by decide),if_pos t2,zAp _ _ (by decide),if_pos t3,zAm,if_pos rfl,zAp _ _ (by decide),if_neg f1]
       · by_cases e5:j=64
         · subst e5;have t4:=a4 rfl;have t3:=c3 t4;have t2:=c2 t3;have t1:=c1 t2;unfold swCh;rw [if_pos t1,if_pos t2,if_pos t3,if_pos t4,if_neg (by rw [hd];decide),zAp _ _ (by decide),if_pos t1,zAp _ _ (by decide),if_pos t2,zAp _ _ (by decide),if_pos t3,zAp _ _ (by decide),if_pos t4,zAm,if_pos rfl]
         · rw [bT j _ e1 e2 e3 e4 e5];unfold swCh;rw [zAp _ _ (Ne.symm e1),zAp _ _ (Ne.symm e2),zAp _ _ (Ne.symm e3),zAp _ _ (Ne.symm e4),zAp _ _ (Ne.symm e5)]
theorem LwAt.swap {B g gR gO n m mo k p cR cO:Nat} {ok op sg sg':Int} {w:World} {aR aO:Option Addr} {bj:Nat→Nat} {M:Nat→List Cx} {ord:List Int} (h:LwAt B w g (.slice aR m cR) (.slice aO mo cO) n m mo bj M ord sg)
 (hk:k < m) (hp:p < m) (kM:k < mo) (hpo:p < mo) (aK:p≠k) (tI:(Value.slice aR m cR).ownBlock=some gR) (tJ:(Value.slice aO mo cO).ownBlock=some gO) {st:Nat→World→World}
 (bT:st=swStp gR gO g k p (.slice (some ⟨bj p,0,none⟩) n n) (.slice (some ⟨bj k,0,none⟩) n n) (.int .i64 op) (.int .i64 ok) (.int .i64 sg')):
 (∃x,(st 55 w).cell? ⟨gR,p,none⟩=some x)∧(st 55 w).frozen? ⟨gR,p,none⟩=false∧
 (∃x,(st 57 (st 55 w)).cell? ⟨gO,k,none⟩=some x)∧(st 57 (st 55 w)).frozen? ⟨gO,k,none⟩=false∧
 (∃x,(st 59 (st 57 (st 55 w))).cell? ⟨gO,p,none⟩=some x)∧(st 59 (st 57 (st 55 w))).frozen? ⟨gO,p,none⟩=false∧
 (∃x,(st 61 (st 59 (st 57 (st 55 w)))).cell? ⟨g,3,none⟩=some x)∧(st 61 (st 59 (st 57 (st 55 w)))).frozen? ⟨g,3,none⟩=false∧
 Below B w (st 64 (st 61 (st 59 (st 57 (st 55 w)))))∧
 LwAt B (st 64 (st 61 (st 59 (st 57 (st 55 w))))) g (.slice aR m cR) (.slice aO mo cO) n m mo (fun i=> bj (swp p k i)) (fun i=> M (swp p k i)) ((ord.set k op).set p ok) sg':=by
 subst bT;obtain ⟨ir,wL,hr0,nG,fO⟩:=info_parts infoCs;obtain ⟨ii,tG,kG,gX,pA⟩:=info_parts infoI;simp only [swStp];obtain ⟨hgRB,cRs,hcR⟩:=zCj h.oR tI;obtain ⟨hgOB,cOs,hcO⟩:=zCj h.oO tJ;have nRO:gR≠gO:=zBi hcR hcO (by decide);have nRg:gR≠g:=zBi hcR h.box (by decide);have nOg:gO≠g:=zBi hcO h.box (by decide);have nRb:∀j,j < m→bj j≠gR:=fun j hj=> zBi (h.row j hj) hcR (by decide)
 have nOb:∀j,j < m→bj j≠gO:=fun j hj=> zBi (h.row j hj) hcO (by decide)
 have ngb:∀j,j < m→bj j≠g:=fun j hj=> zBi (h.row j hj) h.box (by decide)
 -- 55
 obtain ⟨g1,_,_,_,_,_,_,_,eB,bT⟩:=zEk Tryz.underlying204 wL nG h.oR hk;obtain rfl:=Option.some.inj (eB.symm.trans tI);obtain ⟨R1,G1⟩:=bT w h.oR (.slice (some ⟨bj p,0,none⟩) n n);generalize w.setCell ⟨g1,k,none⟩ (.slice (some ⟨bj p,0,none⟩) n n)=w1 at *;clear bT
 -- 57
 obtain ⟨g2,x2,_,_,_,cC,_,pB,hob2,bT⟩:=zEk Tryz.underlying204 wL nG R1 hp;obtain rfl:=Option.some.inj (hob2.symm.trans tI);refine ⟨⟨x2,cC⟩,pB,?_⟩;obtain ⟨R2,G2⟩:=bT w1 R1 (.slice (some ⟨bj k,0,none⟩) n n);generalize w1.setCell ⟨g2,p,none⟩ (.slice (some ⟨bj k,0,none⟩) n n)=w2 at *;clear bT;have G02:w.grownBy w2 (some g2):=zAf G1 G2;have O2:w2.ownsRow B 3 1 (.slice aO mo cO) mo (ord.map (.int .i64)):=zCn h.oO G02 (fun r e e2=> by obtain rfl:=Option.some.inj e2;rw [tJ] at e;exact nRO (Option.some.inj e).symm)
 -- 59
 obtain ⟨g3,x3,_,_,_,hc3,_,hf3,hob3,bT⟩:=zEk Tryz.underlying151 tG gX O2 kM;obtain rfl:=Option.some.inj (hob3.symm.trans tJ);refine ⟨⟨x3,hc3⟩,hf3,?_⟩;obtain ⟨O3,G3⟩:=bT w2 O2 (.int .i64 op);generalize w2.setCell ⟨g3,k,none⟩ (.int .i64 op)=w3 at *;clear bT
 -- 61
 obtain ⟨g4,x4,_,_,_,hc4,_,hf4,hob4,bT⟩:=zEk Tryz.underlying151 tG gX O3 hpo;obtain rfl:=Option.some.inj (hob4.symm.trans tJ);refine ⟨⟨x4,hc4⟩,hf4,?_⟩;obtain ⟨O4,G4⟩:=bT w3 O3 (.int .i64 ok);generalize w3.setCell ⟨g4,p,none⟩ (.int .i64 ok)=w4 at *;clear bT;have G24:w2.grownBy w4 (some g4):=zAf G3 G4;have R4:=zCn R2 G24 (fun r e e2=> by obtain rfl:=Option.some.inj e2;rw [tI] at e;exact nRO (Option.some.inj e));have K4:=zAj G24 (Ne.symm nOg) (zAj G02 (Ne.symm nRg) h.box)
 -- 64
 refine ⟨⟨_,(zAb K4).1 3 _ rfl⟩,(zAb K4).2 3,?_⟩;have G5:=zAn w4 g 3 (.int .i64 sg');have K5:=zAy (o:=3) K4 (.int .i64 sg');have bw:∀ {u u':World} {r:Nat},u.grownBy u' (some r)→B≤r→B≤u.heap.size→Below B u u':=fun hg hr hs=> ⟨hg.os,hg.tape,hg.output,hg.size,fun j hj=> hg.block j (by omega) (fun e=> by have:=Option.some.inj e;omega)⟩
 have hB:=h.lt;refine ⟨((bw G02 hgRB hB).trans (bw G24 hgOB (by have:=G02.size;omega))).trans (bw G5 h.gB (by have:=G02.size;have:=G24.size;omega)),h.gB,fun j hj=> h.bB _ (swp_lt hp hk hj),K5,?_,?_,fun j hj=> ?_,fun j hj=> h.len _ (swp_lt hp hk hj),fun i j hi hj e=> swp_inj (h.inj _ _ (swp_lt hp hk hi) (swp_lt hp hk hj) e)⟩
 · rw [←set_swp (fun j=> Value.slice (some ⟨bj j,0,none⟩) n n) hk hp aK];exact zCn R4 G5 (fun r e e2=> by obtain rfl:=Option.some.inj e2;rw [tI] at e;exact nRg (Option.some.inj e))
 · rw [List.map_set,List.map_set];exact zCn O4 G5 (fun r e e2=> by obtain rfl:=Option.some.inj e2;rw [tJ] at e;exact nOg (Option.some.inj e))
 · have pZ:=swp_lt hp hk hj;exact zAj G5 (ngb _ pZ) (zAj G24 (nOb _ pZ) (zAj G02 (nRb _ pZ) (h.row _ pZ)))
theorem LwS.swap {n k p:Nat} {s:Es} {M:Nat→List Cx} {ord:List Int} {sg:Int} (h:LwS n s M ord sg) (hk:k < n) (hp:p < n) (aK:p≠k):LwS n (swS s p k) (fun i=> M (swp p k i)) ((ord.set k (s.ord p:Int)).set p (s.ord k:Int)) (-sg):=by
 refine ⟨fun i j hi hj=> h.num _ _ (swp_lt hp hk hi) hj,by simp [h.ln],fun i hi=> ?_,?_⟩
 · show _=some ((s.ord (swp p k i):Nat):Int);rw [List.getElem?_set,List.getElem?_set];unfold swp
   by_cases e1:p=i
   · rw [if_pos e1,if_pos (by rw [List.length_set,h.ln];exact hp),if_neg (show¬i=k by omega),if_pos e1.symm]
   · rw [if_neg e1]
     by_cases e2:k=i
     · rw [if_pos e2,if_pos (by rw [h.ln];exact hk),if_pos e2.symm]
     · rw [if_neg e2,if_neg (fun e=> e2 e.symm),if_neg (fun e=> e1 e.symm)];exact h.ord i hi
 · show -sg=if (if p=k then s.neg else !s.neg)=true then -1 else 1;rw [if_neg aK,h.sg];cases s.neg <;> rfl
end
end Go.Proofs.YtdepiggjneoopaaGreatDoor
