/- a part of the proof of the last text -/
import Derived.Test.YtejooaeppcjhjaaGreatZMGr1
namespace Go.Proofs.YtejooaeppcjhjaaGreat
set_option linter.all false
set_option maxHeartbeats 4000000
set_option maxRecDepth 100000
section
open Go.RowKit
section
variable {P:Program} {ops:Array Oper} {Q:Exit→Act→World→Prop}
theorem wpAny_makersS (es:List Nat) (G:World→World→Prop) (St:Nat→World→World→Prop) (S:World→Prop) (R:Nat→Value→List Value→World→Nat→Nat→Prop) (dp:Nat→List Nat) {fuel:Nat} {l0:Array Bool} {a0:Act} {w0:World}
 (hchk:zDj ops l0 es=true) (hdp:∀k∈es,∀j∈dp k,ahd ops j k=true∧isIn j es=true) (hf:es.length≤fuel) (hS0:S w0) (hG0:∀w,G w w) (hGt:∀w w1 w2,G w w1→G w1 w2→G w w2) (hGs:∀w w',G w w'→w.heap.size≤w'.heap.size) (hStG:∀k∈es,∀w w',St k w w'→G w w') (hSs:∀k∈es,∀w w',G w0 w→St k w w'→S w→S w')
 (hRs:∀k∈es,∀i∈es,k≠i→∀v xs w w' lo hi,w0.heap.size≤lo→St i w w'→hi≤w.heap.size→R k v xs w lo hi→R k v xs w' lo hi)
 (hop:∀k∈es,∀o,ops[k]? =some o→∀vs w,G w0 w→S w→(∀j,ahd ops j k=true→isIn j es=true→∃lo hi,hi≤w.heap.size∧R j (vs j) ((dp j).map vs) w lo hi)→∀K:Act→World→Prop,
  Shut (∀v w',St k w w'→R k v ((dp k).map vs) w' w.heap.size w'.heap.size→K ((fill a0 ops vs es).put o.dst v) w')→
  if Region.wanted o (yielded ops (fill a0 ops vs es).tmps)=true then Oper.wp P o (fill a0 ops vs es) w K Q else K ((fill a0 ops vs es).put o.dst undef) w)
 (hend:∀vs w (lo hi:Nat→Nat),G w0 w→S w→(∀k∈es,R k (vs k) ((dp k).map vs) w (lo k) (hi k)∧w0.heap.size≤lo k∧hi k≤w.heap.size)→(∀j∈es,∀k∈es,j≠k→hi j≤lo k∨hi k≤lo j)→
  wpAny P .any ops Q (fuel - es.length) (zCr l0 es) (fill a0 ops vs es) w):wpAny P .any ops Q fuel l0 a0 w0:=by
 unfold zDj at hchk;simp only [Bool.and_eq_true,List.all_eq_true,List.mem_range,Bool.or_eq_true,Bool.not_eq_true'] at hchk;obtain ⟨c1,c2,c3,c4,c5,c6⟩:=hchk;have c5:l0.size=ops.size:=Nat.eq_of_beq_eq_true c5;have hlt:∀k∈es,k < ops.size:=fun k hk=> by have:=(c2 k hk).1;exact Nat.lt_of_lt_of_le (Nat.lt_succ_self k) (Nat.le_of_ble_eq_true this)
 have hds:∀k∈es,∀j∈es,j≠k→∀d,dsOf ops j=some d→dsOf ops k≠some d:=fun k hk j hj hne d h1 h2=> by
  rcases c4 k hk j hj with h | h
  · exact hne (Nat.eq_of_beq_eq_true h)
  · rw [h1,h2] at h
    simp at h
 have hcl0:∀k,lst l0 k=true→∀j∈zCb ops k,lst l0 j=true:=fun k hk j hj=> by
  have hks:k < ops.size:=by
   rw [←c5];rcases Nat.lt_or_ge k l0.size with h | h
   · exact h
   · unfold lst at hk;simp [Array.getElem?_eq_none h] at hk
  rcases c1 k hks with h | h
  · rw [h] at hk;cases hk
  · exact h j hj
 have key:∀ (m:Nat) (l:Array Bool) (vs:Nat→Value) (lo hi:Nat→Nat) (w:World),(es.filter fun k=> !lst l k).length=m→l.size=ops.size→(∀k,¬k∈es→lst l k=lst l0 k)→
  (∀k,lst l k=true→∀j∈zCb ops k,lst l j=true)→(∀k∈es,lst l k=true→R k (vs k) ((dp k).map vs) w (lo k) (hi k)∧w0.heap.size≤lo k∧hi k≤w.heap.size)→
  (∀j∈es,∀k∈es,lst l j=true→lst l k=true→j≠k→hi j≤lo k∨hi k≤lo j)→S w→G w0 w→
  wpAny P .any ops Q (m+(fuel - es.length)) l (fill a0 ops vs es) w:=by
  intro m
  induction m with
  | zero=>
   intro l vs lo hi w hm hsz hsame hcl hR hdis hS hB;have hall:∀k∈es,lst l k=true:=fun k hk=> by
    cases h:lst l k with
    | true=> rfl
    | false=>
     have:k∈es.filter fun k=> !lst l k:=List.mem_filter.2 ⟨hk,by simp [h]⟩
     rw [List.eq_nil_of_length_eq_zero hm] at this;cases this
   rw [eq_listAll (l:=l) (l0:=l0) (by omega) (fun j hj=> by rw [c5];exact hlt j hj) hsame hall,Nat.zero_add];exact hend vs w lo hi hB hS (fun k hk=> hR k hk (hall k hk)) (fun j hj k hk hne=> hdis j hj k hk (hall j hj) (hall k hk) hne)
  | succ m ih=>
   intro l vs lo hi w hm hsz hsame hcl hR hdis hS hB;obtain ⟨k0,hk0,hu0⟩:∃k∈es,lst l k=false:=by
    cases hx:es.filter fun k=> !lst l k with
    | nil=> rw [hx] at hm;cases hm
    | cons k t=>
     have:k∈es.filter fun k=> !lst l k:=by rw [hx];simp
     obtain ⟨h1,h2⟩:=List.mem_filter.1 this;exact ⟨k,h1,by simpa using h2⟩
   have hf1:m+1+(fuel - es.length)=(m+(fuel - es.length))+1:=by omega
   rw [hf1];refine ⟨fun hr=> ?_,fun i hi0=> ?_⟩
   · obtain ⟨k,hk,hu,hmin⟩:=zFf (l:=l) ops.size ⟨k0,hk0,hlt k0 hk0,hu0⟩;have:k∈Region.ready .any ops l:=by
      rw [zDg hsz];refine ⟨hlt k hk,hu,fun j hj=> ?_⟩;rcases (c2 k hk).2.2 j hj with h | h
      · by_cases e:j∈es
        · have:=(c2 j e).2.1;rw [this] at h;cases h
        · rw [hsame j e];exact h
      · exact hmin j (zAs.1 h.1) (Nat.lt_of_lt_of_le (Nat.lt_succ_self j) (Nat.le_of_ble_eq_true h.2))
     rw [hr] at this;cases this
   · have hi1:=hi0;rw [zDg hsz] at hi1;obtain ⟨hilt,hiu,hia⟩:=hi1;have hie:i∈es:=by
      by_cases e:i∈es
      · exact e
      · exfalso
        rcases c3 i hilt with h | h | h
        · rw [hsame i e,h] at hiu;cases hiu
        · exact e (zAs.1 h)
        · have:=h k0 hk0;unfold ahd at this;have:=zBr hcl ops.size i hia k0 (by simpa using this);rw [hu0] at this;cases this
     have ho:ops[i]? =some ops[i]:=by simp [hilt]
     have hd:dsOf ops i=(ops[i]).dst:=by unfold dsOf;rw [ho];rfl
     have hil:i < l.size:=by omega
     refine wpOp_step ho fun K hK=> hop i hie ops[i] ho vs w hB hS (fun j hj hje=> ?_) K fun v w' hb hr=> hK _ _ ?_
     · have hjl:=zBr hcl ops.size i hia j (by unfold ahd at hj;simpa using hj);obtain ⟨h1,h2,h3⟩:=hR j (zAs.1 hje) hjl;exact ⟨lo j,hi j,h3,h1⟩
     · rw [←hd,fill_put hie c6 (fun k hk hne d h1=> hds i hie k hk hne d h1)];have hG':=hStG i hie _ _ hb;have hB':G w0 w':=hGt _ _ _ hB hG';refine ih (l.setIfInBounds i true) (upd vs i v) (upd lo i w.heap.size) (upd hi i w'.heap.size) w' ?_ (by simp [hsz]) (fun k hk=> ?_) (fun k hk j hj=> ?_) (fun k hk hkl=> ?_) (fun j hj k hk hjl hkl hne=> ?_) (hSs i hie _ _ hB hb hS) hB'
       · have:=unl_step hil hiu hie c6;omega
       · rw [zCf hil,if_neg (fun e=> hk (by rw [e];exact hie))];exact hsame k hk
       · rw [zCf hil] at hk⊢
         by_cases e:j=i
         · rw [if_pos e]
         · rw [if_neg e]
           by_cases e2:k=i
           · subst e2;exact hia j hj
           · rw [if_neg e2] at hk;exact hcl k hk j hj
       · by_cases e:k=i
         · subst e;have hmp:(dp k).map (upd vs k v)=(dp k).map vs:=List.map_congr_left fun j hj=> zAu vs v (show j≠k from fun e2=> by
            have:=zBr hcl ops.size k hia j (by have:=(hdp k hk j hj).1;unfold ahd at this;simpa using this);rw [e2,hiu] at this;cases this)
           rw [hmp,zAr,zAr,zAr];exact ⟨hr,hGs _ _ hB,Nat.le_refl _⟩
         · rw [zCf hil,if_neg e] at hkl;obtain ⟨h1,h2,h3⟩:=hR k hk hkl;have hmp:(dp k).map (upd vs i v)=(dp k).map vs:=List.map_congr_left fun j hj=> zAu vs v (show j≠i from fun e2=> by
            have:=zBr hcl ops.size k (fun x hx=> hcl k hkl x hx) j (by have:=(hdp k hk j hj).1;unfold ahd at this;simpa using this);rw [e2,hiu] at this;cases this)
           rw [hmp,zAu _ _ e,zAu _ _ e,zAu _ _ e];exact ⟨hRs k hk i hie e _ _ _ _ _ _ h2 hb h3 h1,h2,Nat.le_trans h3 (hGs _ _ hG')⟩
       · rw [zCf hil] at hjl hkl
         by_cases e:j=i
         · subst e;rw [zAr,zAr];have e2:k≠j:=Ne.symm hne;rw [if_neg e2] at hkl;rw [zAu _ _ e2,zAu _ _ e2];exact .inr (hR k hk hkl).2.2
         · rw [zAu _ _ e,zAu _ _ e]
           by_cases e2:k=i
           · subst e2;rw [if_neg e] at hjl;rw [zAr,zAr];exact .inl (hR j hj hjl).2.2
           · rw [if_neg e] at hjl;rw [if_neg e2] at hkl;rw [zAu _ _ e2,zAu _ _ e2];exact hdis j hj k hk hjl hkl hne
 have hun:∀k∈es,lst l0 k=false:=fun k hk=> (c2 k hk).2.1
 have h0:(es.filter fun k=> !lst l0 k).length=es.length:=by rw [List.filter_eq_self.2 (fun k hk=> by simp [hun k hk])]
 have:=key es.length l0 (fun k=> match dsOf ops k with | some d=> a0.tmps.getD d undef | none=> undef) (fun _=> 0) (fun _=> 0) w0 h0 c5 (fun _ _=> rfl) hcl0 (fun k hk hl=> by rw [hun k hk] at hl;cases hl) (fun j hj k _ hl=> by rw [hun j hj] at hl;cases hl) hS0 (hG0 _);rw [show fill a0 ops (fun k=> match dsOf ops k with | some d=> a0.tmps.getD d undef | none=> undef) es=a0 from fill_own,show es.length+(fuel - es.length)=fuel by omega] at this;exact this
def OwedS (P:Program) (ops:Array Oper) (Q:Exit→Act→World→Prop) (G:World→World→Prop) (St:Nat→World→World→Prop) (S:World→Prop) (R:RelD) (ds:List OpD) (a0:Act) (w0:World) (k:Nat) (o:Oper):Prop:=
 ∀ (vs:Nat→Value) (w:World),G w0 w→S w→(∀j,(ahd ops j k && isIn j (nosD ds))=true→∃lo hi,hi≤w.heap.size∧R j (vs j) ((dpD ds j).map vs) w lo hi)→∀K:Act→World→Prop,
  Shut (∀v w',St k w w'→R k v ((dpD ds k).map vs) w' w.heap.size w'.heap.size→K ((zBg a0 vs ds).put o.dst v) w')→
  if Region.wanted o (yielded ops (zBg a0 vs ds).tmps)=true then Oper.wp P o (zBg a0 vs ds) w K Q else K ((zBg a0 vs ds).put o.dst undef) w
theorem wpAny_makersSD (ds:List OpD) (G:World→World→Prop) (St:Nat→World→World→Prop) (S:World→Prop) (R:RelD) {fuel:Nat} {l0:Array Bool} {a0:Act} {w0:World}
 (hchk:(zDj ops l0 (nosD ds) && (depsOk ops ds && (slotsOk ops ds && Nat.ble (nosD ds).length fuel)))=true) (hS0:S w0)
 (hG0:∀w,G w w) (hGt:∀w w1 w2,G w w1→G w1 w2→G w w2) (hGs:∀w w',G w w'→w.heap.size≤w'.heap.size) (hStG:∀k w w',St k w w'→G w w')
 (hSs:∀k w w',G w0 w→St k w w'→S w→S w')
 (hRs:∀k i,k≠i→∀v xs w w' lo hi,w0.heap.size≤lo→St i w w'→hi≤w.heap.size→R k v xs w lo hi→R k v xs w' lo hi)
 (hop:Each ops (OwedS P ops Q G St S R ds a0 w0) ds)
 (hend:∀vs w (lo hi:Nat→Nat),G w0 w→S w→(∀k,isIn k (nosD ds)=true→R k (vs k) ((dpD ds k).map vs) w (lo k) (hi k)∧w0.heap.size≤lo k∧hi k≤w.heap.size)→
  (∀j k,(isIn j (nosD ds) && (isIn k (nosD ds) && !Nat.beq j k))=true→hi j≤lo k∨hi k≤lo j)→
  wpAny P .any ops Q (fuel - (nosD ds).length) (zCr l0 (nosD ds)) (zBg a0 vs ds) w):wpAny P .any ops Q fuel l0 a0 w0:=by
 simp only [Bool.and_eq_true] at hchk;obtain ⟨h1,h2,h3,h4⟩:=hchk;unfold depsOk at h2;simp only [List.all_eq_true,Bool.and_eq_true] at h2;refine wpAny_makersS (nosD ds) G St S R (dpD ds) h1 h2 (Nat.le_of_ble_eq_true h4) hS0 hG0 hGt hGs (fun k _=> hStG k) (fun k _=> hSs k) (fun k _ i _=> hRs k i) (fun k hk o ho vs w hb hS hR K hK=> ?_) (fun vs w lo hi hb hS hR hdis=> ?_)
 · have:=Each.mem hop k hk o ho vs w hb hS (fun j hj=> by rw [Bool.and_eq_true] at hj;exact hR j hj.1 hj.2) K (by rw [←zDq h3];exact hK);rw [zDq h3];exact this
 · rw [zDq h3];exact hend vs w lo hi hb hS (fun k hk=> hR k (zAs.1 hk)) (fun j k hjk=> by
    simp only [Bool.and_eq_true,Bool.not_eq_true'] at hjk;exact hdis j (zAs.1 hjk.1) k (zAs.1 hjk.2.1) (fun e=> by subst e;simp at hjk))
theorem zHm {P:Program} {ops:Array Oper} {o:Oper} {a:Act} {w:World} {K:Act→World→Prop} {Q:Exit→Act→World→Prop}
 (hg:o.guard=none) (s x:Operand) (t:TypeId) (hop:o.op=Op.call {callee:=Callee.builtin Builtin.append,args:=#[s,x],argTypes:=#[t,t]})
 (e size bytes:Nat) (i:TypeInfo) (z:Value) (ht:P.underlying t=some (.slice e)) (hi:P.info? e=some i) (hz:i.zero=some z)
 (hsize:i.size=size) (hby:i.bytes=bytes) (hzs:z.cells.size=size) (hsz:0 < size)
 (v2:Value) (m:Nat) (news:List Value) (hsl:IsSl w size v2 m news) (hs:a.eval s=.slice none 0 0) (hx:a.eval x=v2) (h1:∀u∈news,u.oneCell'=true)
 (h63:m≤maxLen) (hbytes:m * bytes≤140737488355328)
 (hK:∀v' w',w'.ownsRow w.heap.size e size v' m news→w.grownBy w' none→K (a.put o.dst v') w'):Oper.wp P o a w K Q:=by
 have h:=step_append_all (ops:=ops) (Q:=Q) (E:=False) hg s x t hop e size bytes i z ht hi hz hsize hby hzs hsz v2 m news hsl hs hx h1 h63 hbytes hK;have hw:Region.wanted o (yielded ops a.tmps)=true:=by simp [Region.wanted,hg]
 rwa [if_pos hw] at h
theorem wpAny_two {P:Program} {ops:Array Oper} {Q:Exit→Act→World→Prop} {fuel:Nat} {l:Array Bool} {a:Act} {w:World} {i j:Nat} {o1 o2:Oper} (hr:Region.ready .any ops l= [i,j]) (h1:ops[i]? =some o1) (h2:ops[j]? =some o2)
 (hi:∀K:Act→World→Prop,Shut (∀a w,wpAny P .any ops Q fuel (l.setIfInBounds i true) a w→K a w)→if Region.wanted o1 (yielded ops a.tmps)=true then Oper.wp P o1 a w K Q else K (a.put o1.dst undef) w)
 (hj:∀K:Act→World→Prop,Shut (∀a w,wpAny P .any ops Q fuel (l.setIfInBounds j true) a w→K a w)→if Region.wanted o2 (yielded ops a.tmps)=true then Oper.wp P o2 a w K Q else K (a.put o2.dst undef) w):wpAny P .any ops Q (fuel+1) l a w:=
 wpAny_all hr (by simp) fun k hk=> by
  rcases (by simpa using hk:k=i∨k=j) with rfl | rfl
  · exact wpOp_step h1 fun K hK=> hi K hK
  · exact wpOp_step h2 fun K hK=> hj K hK
end
theorem zEp {w w':World} {r:Option Nat} (h:w.drew.grownBy w' r):w.grownBy w' r:=⟨h.os,h.tape,h.output,h.size,h.block⟩
def Set3 (b:Nat) (w w':World):Prop:=∃u0 u1 u2,w'=((w.setCell ⟨b,0,none⟩ u0).setCell ⟨b,1,none⟩ u1).setCell ⟨b,2,none⟩ u2
theorem zAj (w:World) (g o:Nat) (v:Value):w.grownBy (w.setCell ⟨g,o,none⟩ v) (some g):=
 ⟨rfl,rfl,rfl,by simp,fun k _ hk=> Below.heap_setCell w ⟨g,o,none⟩ v k (fun e=> hk (by rw [e]))⟩
theorem Set3.grown {b:Nat} {w w':World} (h:Set3 b w w'):w.grownBy w' (some b):=by
 obtain ⟨u0,u1,u2,rfl⟩:=h;exact zAf (zAf (zAj _ _ _ _) (zAj _ _ _ _)) (zAj _ _ _ _)
theorem zBi {w:World} {g o:Nat} {cs:Array Value} {t:TypeId} {f:Nat × Nat} (h:w.heap[g]? =some (.cells cs t f)) (v:Value):(w.setCell ⟨g,o,none⟩ v).heap[g]? =some (.cells (cs.setIfInBounds o v) t f):=by
 unfold World.setCell
 simp [Array.getElem?_modify,h]
theorem set3_new {w:World} {b:Nat} {x0 x1 x2:Value} {t:TypeId} {f:Nat × Nat} (h:w.heap[b]? =some (.cells #[x0,x1,x2] t f)) (u0 u1 u2:Value):
 (((w.setCell ⟨b,0,none⟩ u0).setCell ⟨b,1,none⟩ u1).setCell ⟨b,2,none⟩ u2).heap[b]? =some (.cells #[u0,u1,u2] t f):=
 zBi (o:=2) (zBi (o:=1) (zBi (o:=0) h u0) u1) u2
theorem Set3.three {b:Nat} {w w':World} {t:TypeId} {f:Nat × Nat} (h:Set3 b w w') (hx:∃x0 x1 x2,w.heap[b]? =some (.cells #[x0,x1,x2] t f)):∃x0 x1 x2,w'.heap[b]? =some (.cells #[x0,x1,x2] t f):=by
 obtain ⟨u0,u1,u2,rfl⟩:=h;obtain ⟨x0,x1,x2,hx⟩:=hx;exact ⟨u0,u1,u2,set3_new hx u0 u1 u2⟩
theorem zAm {w w':World} {g:Nat} {o:Obj} (hb:Below w.heap.size w w') (h:w.heap[g]? =some o):w'.heap[g]? =some o:=(hb.block g (Array.getElem?_eq_some_iff.1 h).1).trans h
theorem zAk {w w':World} {g b:Nat} {o:Obj} (hg:w.grownBy w' (some b)) (hne:g≠b) (h:w.heap[g]? =some o):w'.heap[g]? =some o:=
 (hg.block g (Array.getElem?_eq_some_iff.1 h).1 (fun e=> hne (Option.some.inj e))).trans h
theorem RowD.grown {t size n lo hi b:Nat} {xs:List Value} {v:Value} {w w':World} (h:RowD t size n xs v w lo hi) (hg:w.grownBy w' (some b)) (hb:b < lo):RowD t size n xs v w' lo hi:=
 ⟨h.1,zAz h.2.1 hg (fun k e e2=> by have:=(World.ownsRow.lt h.2.1 _ e).1;cases e2;omega),h.2.2⟩
end
section
open Go.RowKit
theorem push_keep {wr w2:World} {B e size n g1:Nat} {out v:Value} {xs:List Value} (hv:wr.ownsRow B e size v n xs) (hd:∀g,out.ownBlock=some g→v.ownBlock≠some g)
 (h:(out.ownBlock=some g1∧wr.grownBy w2 (some g1))∨(wr.heap.size≤g1∧wr.grownBy w2 none)):w2.ownsRow B e size v n xs∧v.ownBlock≠some g1:=by
 rcases h with ⟨h1,h2⟩ | ⟨h1,h2⟩
 · exact ⟨own_ne hv h2 (hd g1 h1),hd g1 h1⟩
 · exact ⟨zBa hv h2,fun e=> by have:=(World.ownsRow.lt hv g1 e).2;omega⟩
theorem gnodes_any (p:Value) (l:List El) (w:World) (hp:RN w p l) (hl:l.length≤100000):
 Calls Tryz.prog 194 #[p] w (RetRow 9 1 (gnds l).length (fun xs=> xs=sts (gnds l)) w):=by
 obtain ⟨i0,hi,hz0,hz1,hz2⟩:=info_parts infoSt;have hnl:=zEc l;have HB1:=hid ((Below.refl w.heap.size w).alloc (Nat.le_refl _) (.cells #[.string ⟨#[48]⟩] 9));have HP:=hid (hp.below HB1.out (Nat.le_refl _));have HOW:=hid (World.ownsRow_lit (base:=w.heap.size) (e:=9) (size:=1) w #[.string ⟨#[48]⟩] 1 (Nat.le_refl _) (by decide) rfl);clear hp;go_enter Tryz.func194,Tryz.ntmps194;go_upto_region 2 with fail;generalize hvv:Value.slice (some ⟨w.heap.size,0,none⟩) 1 1=vv at *;generalize w.alloc (.cells #[.string ⟨#[48]⟩] 9)=w1 at *;go_wp2_with (go_at_call 22;refine (zCy _ l _ HP.out hl).mono ?_;rintro e w2 ⟨v2,xs,rfl,hown2,rfl,hb2⟩;obtain ⟨a2,c2,rfl⟩:=(IsSl.of_own hown2).form;have HB2:=hid (zAd HB1.out hb2);have HOW2:=hid (zBa HOW.out (zAe hb2 none));have HV2:=hid hown2;have HD2:=hid (show∀g,vv.ownBlock=some g→(Value.slice a2 (nds l).length c2).ownBlock≠some g from fun g e e2=> by have h1:=(World.ownsRow.lt HOW.out g e).2;have h2:=(World.ownsRow.lt hown2 g e2).1;omega);clear hb2 hown2);clear HB1 HP HOW hvv
 go_loopw [3,5] (fun out i wr=> ∃k:Nat,k≤ (nds l).length∧i=.int .i64 k∧wr.ownsRow w.heap.size 9 1 out (k+1) (sts ((gnds l).take (k+1)))∧wr.ownsRow w1.heap.size 9 1 (.slice a2 (nds l).length c2) (nds l).length (sts (nds l))∧(∀g,out.ownBlock=some g→(Value.slice a2 (nds l).length c2).ownBlock≠some g)∧Below w.heap.size w wr) (fun _ i _=> (nds l).length - (intOf i).toNat)
 case atStart=> exact ⟨0,Nat.zero_le _,rfl,HOW2.out,HV2.out,HD2.out,HB2.out⟩
 case round=>
  obtain ⟨k,hk,rfl,hown,hv2,hd,hb⟩:=hrel;have HO:=hid hown;have HV:=hid hv2;have HD:=hid hd;have HB:=hid hb;clear hv2 hd hb HOW2 HV2 HD2 HB2
  by_cases hlt:k < (nds l).length
  · obtain ⟨g,o,y,hidx,hg,hc,hy⟩:=IsSl.at1 Tryz.underlying45 hi hz1 (IsSl.of_own HV.out) hlt;obtain ⟨t,ht,rfl⟩:=sts_get hy;have HT:=hid ht;have hsz:=HB.out.size;clear hy hg ht;go_wp2_with (refine zBj rfl rfl _ rfl _ _ _ rfl rfl w.heap.size 9 1 16 i0 (.string ⟨#[]⟩) Tryz.underlying45 hi hz0 hz1 hz2 rfl (by decide) (by decide) _ (k+1) _ hown hsz (.string t) rfl rfl (by intro u hu;simp [Value.cells] at hu;subst hu;rfl) rfl rfl (by simp [maxLen];omega) (by omega) ?_;intro g1 cap1 w2 hown1 hg1 htwo);go_roundw
    case rel=>
     have hk2:=push_keep HV.out HD.out htwo;refine ⟨k+1,by omega,by go_num,?_,hk2.1,fun g' e=> by cases e;exact hk2.2,pushed HB.out HO.out htwo⟩;rw [gnds_take HT.out,sts_snoc];exact hown1
    case measure=> simp [intOf];omega
  · go_wp2;go_ret;obtain rfl:k=(nds l).length:=by omega
    refine ⟨_,_,rfl,?_,rfl,HB.out⟩;have:=HO.out;rw [←zBz,List.take_length] at this;exact this
end
section
open Go.RowKit
def nats (l:List Nat):List Value:=l.map fun (k:Nat)=> Value.int .i64 (k:Int)
theorem nats_snoc (l:List Nat) (k:Nat):nats (l++ [k])=nats l++ [.int .i64 k]:=by simp [nats]
theorem nats_get {l:List Nat} {k:Nat} {x:Value} (h:(nats l)[k]? =some x):∃j:Nat,l[k]? =some j∧x=.int .i64 j:=by
 unfold nats at h;rw [List.getElem?_map] at h;obtain ⟨j,h1,h2⟩:=Option.map_eq_some_iff.1 h;exact ⟨j,h1,h2.symm⟩
theorem zHf:(Tryz.prog.info? 3).map (fun i=> (i.zero,i.size,i.bytes))=some (some (.int .i64 0),1,8):=by kernel_rfl
structure HangAt (B:Nat) (w:World) (g:Nat) (vN vP:Value) (l:List El) (p:List Nat):Prop where
 gB:B≤g
 blk:w.heap[g]? =some (.cells #[vN,vP] 215 (0,0))
 on:w.ownsRow B 9 1 vN (gnds l).length (sts (gnds l))
 op:w.ownsRow B 3 1 vP p.length (nats p)
 ng:vN.ownBlock≠some g
 pg:vP.ownBlock≠some g
 np:∀r,vP.ownBlock=some r→vN.ownBlock≠some r
theorem HangAt.later {B g:Nat} {w w':World} {vN vP:Value} {l:List El} {p:List Nat} (h:HangAt B w g vN vP l p) (hb:Below w.heap.size w w'):HangAt B w' g vN vP l p:=
 ⟨h.gB,zAm hb h.blk,zBa h.on (zAe hb none),zBa h.op (zAe hb none),h.ng,h.pg,h.np⟩
theorem heap_pushed {wr w2:World} {g g1:Nat} {out:Value} {o:Obj} (h:wr.heap[g]? =some o) (hne:out.ownBlock≠some g)
 (htwo:(out.ownBlock=some g1∧wr.grownBy w2 (some g1))∨(wr.heap.size≤g1∧wr.grownBy w2 none)):w2.heap[g]? =some o∧g≠g1:=by
 have hlt:=(Array.getElem?_eq_some_iff.1 h).1;rcases htwo with ⟨h1,h2⟩ | ⟨h1,h2⟩
 · have:g≠g1:=fun e=> hne (by rw [h1,e])
   exact ⟨zAk h2 this h,this⟩
 · exact ⟨(h2.block g hlt (by simp)).trans h,by omega⟩
theorem HangAt.push {B g g1 cap1 x:Nat} {wr w2:World} {vN vP:Value} {l:List El} {p:List Nat} (h:HangAt B wr g vN vP l p)
 (hown1:w2.ownsRow B 3 1 (.slice (some ⟨g1,0,none⟩) (p.length+1) cap1) (p.length+1) (nats p++ [.int .i64 x]))
 (htwo:(vP.ownBlock=some g1∧wr.grownBy w2 (some g1))∨(wr.heap.size≤g1∧wr.grownBy w2 none)):
 HangAt B (w2.setCell ⟨g,1,none⟩ (.slice (some ⟨g1,0,none⟩) (p.length+1) cap1)) g vN (.slice (some ⟨g1,0,none⟩) (p.length+1) cap1) l (p++ [x]):=by
 obtain ⟨hb2,hne⟩:=heap_pushed h.blk h.pg htwo;obtain ⟨hn2,hnn⟩:=push_keep h.on h.np htwo;have hg:=zAj w2 g 1 (.slice (some ⟨g1,0,none⟩) (p.length+1) cap1);refine ⟨h.gB,zBi (o:=1) hb2 _,own_ne hn2 hg h.ng,?_,h.ng,fun e=> hne (zCk e),fun r e=> by rw [zCk e];exact hnn⟩;rw [List.length_append,nats_snoc];exact own_ne hown1 hg (fun e=> hne (zCk e))
theorem hang_below {B g g1 cap1 x:Nat} {w wr w2:World} {vN vP:Value} {l:List El} {p:List Nat} (h:HangAt B wr g vN vP l p) (hb:Below B w wr)
 (htwo:(vP.ownBlock=some g1∧wr.grownBy w2 (some g1))∨(wr.heap.size≤g1∧wr.grownBy w2 none)) (hB:B≤wr.heap.size):Below B w (w2.setCell ⟨g,1,none⟩ (.slice (some ⟨g1,0,none⟩) x cap1)):=by
 refine Below.setCell ?_ h.gB _;rcases htwo with ⟨h1,h2⟩ | ⟨_,h2⟩
 · exact hb.grown h2 hB (fun j e=> by cases e;exact (World.ownsRow.lt h.op _ h1).1)
 · exact hb.grown h2 hB (fun j e=> by cases e)
theorem rat_any (v:Value) (l:List ByteArray) (s:ByteArray) (w:World) (hv:IsSl w 1 v l.length (sts l)) (hl:l.length≤1000000) (hh:has l s=true):
 Calls Tryz.prog 195 #[v,.string s] w fun e w'=> e=.returned (.int .i64 (plI l s))∧w'=w:=by
 obtain ⟨a,c,rfl⟩:=hv.form;obtain ⟨i0,hi,hz0,hz1,hz2⟩:=info_parts infoSt;go_enter Tryz.func195,Tryz.ntmps195;go_wp2
 go_loopw [5] (fun i wr=> ∃k:Nat,k≤l.length∧i=.int .i64 k∧has (l.take k) s=false∧wr=w) (fun i _=> l.length - (intOf i).toNat)
 case atStart=> exact ⟨0,Nat.zero_le _,rfl,rfl,rfl⟩
 case round=>
  obtain ⟨k,hk,rfl,hn,rfl⟩:=hrel
  by_cases hlt:k < l.length
  · obtain ⟨g,o,y,hidx,hg,hc,hy⟩:=IsSl.at1 Tryz.underlying45 hi hz1 hv hlt;obtain ⟨t,ht,rfl⟩:=sts_get hy;have HN:=hid hn;have HT:=hid ht;clear hn ht hy hg;cases hb:(t.toList==s.toList)
    · have HB:=hid hb;go_wp2_with fail;go_roundw
      case rel=> exact ⟨k+1,by omega,by go_num,by rw [has_snoc HT.out,HN.out,HB.out];rfl,by first | rfl | trivial⟩
      case measure=> simp [intOf];omega
    · have HB:=hid hb;go_wp2_with fail
      (try rw [Exit.noGoto_ret])
      obtain ⟨h1,h2⟩:=plI_at HN.out HT.out HB.out;go_ret;exact ⟨by rw [h2];rfl,rfl⟩
  · exfalso
    obtain rfl:k=l.length:=by omega
    rw [List.take_length,hh] at hn;cases hn
def RetHang (l:List El) (p:List Nat) (w:World) (en:Ending) (w':World):Prop:=
 ∃g vN vP,en=.returned (.pointer (some ⟨g,0,none⟩))∧HangAt w.heap.size w' g vN vP l p∧Below w.heap.size w w'
theorem rgof_any (q:Value) (l:List El) (w:World) (hq:RN w q l) (hl:l.length≤100000):
 Calls Tryz.prog 184 #[q] w (RetHang l (List.range (gnds l).length) w):=by
 obtain ⟨i0,hi,hz0,hz1,hz2⟩:=info_parts zHf;have hnl:=zEc l;have HNL:=hid (show (gnds l).length≤400001 by rw [zBz];omega);go_enter Tryz.func184,Tryz.ntmps184;go_upto_region 2 with (go_at_call 194;refine (gnodes_any _ l _ hq hl).mono ?_;rintro e w1 ⟨vN,xs,rfl,hown,rfl,hb⟩;obtain ⟨aN,cN,rfl⟩:=(IsSl.of_own hown).form;have HON:=hid hown;have HB:=hid hb;clear hown hb);clear hq;obtain ⟨N1,hN1⟩:∃N1,(gnds l).length=N1:=⟨_,rfl⟩;have HN1:=hid hN1;have hn1:=HNL.out;rw [hN1] at HON hn1⊢;have HH:Hid (HangAt w.heap.size (w1.alloc (.cells #[.slice aN N1 cN,.slice none 0 0] 215)) w1.heap.size (.slice aN N1 cN) (.slice none 0 0) l []):=hid
  ⟨HB.out.size,heap_alloc_new _ _,by rw [HN1.out];exact zBa HON.out (World.grownBy_alloc _ _ _),World.ownsRow_nil _ _ _ _,fun e=> by have:=(World.ownsRow.lt HON.out _ e).2;omega,fun e=> (by cases e),fun r e=> (by cases e)⟩
 have HB1:=hid (zAd HB.out ((Below.refl w1.heap.size w1).alloc (Nat.le_refl _) (.cells #[.slice aN N1 cN,.slice none 0 0] 215)));clear HB HON hN1;generalize w1.alloc (.cells #[.slice aN N1 cN,.slice none 0 0] 215)=w2 at *;generalize w1.heap.size=g at *;go_wp2
 go_loopw [4] (fun i wr=> ∃ (k:Nat) (vP:Value),k≤N1∧i=.int .i64 k∧HangAt w.heap.size wr g (.slice aN N1 cN) vP l (List.range k)∧Below w.heap.size w wr) (fun i _=> N1 - (intOf i).toNat)
 case atStart=> exact ⟨0,_,Nat.zero_le _,rfl,HH.out,HB1.out⟩
 case round=>
  obtain ⟨k,vP,hk,rfl,hh,hb⟩:=hrel;have HA:=hid hh;have HB:=hid hb;clear hh hb HH HB1;have n0:=(zAa HA.out.blk).1 0 _ rfl
  by_cases hlt:k < N1
  · have n1:=(zAa HA.out.blk).1 1 _ rfl;have hown:wr.ownsRow w.heap.size 3 1 vP k (nats (List.range k)):=by have:=HA.out.op;rwa [List.length_range] at this
    obtain ⟨aP,cP,hP⟩:=(IsSl.of_own hown).form;have hsz:=HB.out.size;have HP:=hid hP;clear hP;go_wp2_with (refine zBj rfl rfl _ rfl _ _ _ rfl rfl w.heap.size 3 1 8 i0 (.int .i64 0) Tryz.underlying153 hi hz0 hz1 hz2 rfl (by decide) (by decide) _ k _ hown hsz (.int .i64 k) rfl rfl (by intro u hu;simp [Value.cells] at hu;subst hu;rfl) rfl rfl (by simp [maxLen];omega) (by omega) ?_;intro g1 cap1 w3 hown1 hg1 htwo;have HO1:=hid hown1;have HT:=hid htwo;obtain ⟨hbk,hne⟩:=heap_pushed HA.out.blk HA.out.pg htwo;have m0:=(zAa hbk).1 1 _ rfl;have f1:=(zAa hbk).2 1;clear hown1 hg1 htwo hbk hne hown n0 n1);go_roundw
    case rel=>
     have hp:=HangAt.push (x:=k) HA.out (by rw [List.length_range];exact HO1.out) HT.out;rw [List.length_range] at hp;refine ⟨k+1,.slice (some ⟨g1,0,none⟩) (k+1) cap1,by omega,by go_num,?_,hang_below HA.out HB.out HT.out hsz⟩;rw [List.range_succ];exact hp
    case measure=> simp [intOf];omega
  · obtain rfl:k=N1:=by omega
    go_wp2;go_ret;exact ⟨g,_,vP,rfl,by rw [HN1.out];exact HA.out,HB.out⟩
end
end Go.Proofs.YtejooaeppcjhjaaGreat
