/- a part of the proof of the last text -/
import Derived.Test.YtaegmlhfecfgkaaGreatDoorZMReg2
import Derived.Test.YtaegmlhfecfgkaaGreatDoorZMOfN
namespace Go.Proofs.YtaegmlhfecfgkaaGreatDoor
set_option linter.all false
set_option maxHeartbeats 4000000
set_option maxRecDepth 100000
section
open Go.RowKit
section
variable {P:Program} {ops:Array Oper} {Q:Exit→Act→World→Prop}
theorem wpAny_makersT (es:List Nat) (G:World→World→Prop) (St:Nat→World→World→Prop) (S:(Nat→Bool)→World→Prop) (R:Nat→Value→List Value→World→Nat→Nat→Prop) (dp:Nat→List Nat) {fuel:Nat} {l0:Array Bool} {a0:Act} {w0:World}
 (hchk:edgesOk ops l0 es=true) (hdp:∀k∈es,∀j∈dp k,ahd ops j k=true∧isIn j es=true) (hf:es.length≤fuel) (hS0:S (fun k=> lst l0 k) w0) (hG0:∀w,G w w) (hGt:∀w w1 w2,G w w1→G w1 w2→G w w2) (hGs:∀w w',G w w'→w.heap.size≤w'.heap.size) (hStG:∀k∈es,∀w w',St k w w'→G w w') (hSs:∀k∈es,∀d w w',d k=false→G w0 w→St k w w'→S d w→S (upd d k true) w')
 (hRs:∀k∈es,∀i∈es,k≠i→∀v xs w w' lo hi,w0.heap.size≤lo→St i w w'→hi≤w.heap.size→R k v xs w lo hi→R k v xs w' lo hi)
 (hop:∀k∈es,∀o,ops[k]? =some o→∀vs d w,G w0 w→d k=false→S d w→(∀j,ahd ops j k=true→isIn j es=true→∃lo hi,hi≤w.heap.size∧R j (vs j) ((dp j).map vs) w lo hi)→∀K:Act→World→Prop,
  Shut (∀v w',St k w w'→R k v ((dp k).map vs) w' w.heap.size w'.heap.size→K ((fill a0 ops vs es).put o.dst v) w')→
  if Region.wanted o (yielded ops (fill a0 ops vs es).tmps)=true then Oper.wp P o (fill a0 ops vs es) w K Q else K ((fill a0 ops vs es).put o.dst undef) w)
 (hend:∀vs w (lo hi:Nat→Nat),G w0 w→S (fun k=> lst (listAll l0 es) k) w→(∀k∈es,R k (vs k) ((dp k).map vs) w (lo k) (hi k)∧w0.heap.size≤lo k∧hi k≤w.heap.size)→(∀j∈es,∀k∈es,j≠k→hi j≤lo k∨hi k≤lo j)→
  wpAny P .any ops Q (fuel - es.length) (listAll l0 es) (fill a0 ops vs es) w):wpAny P .any ops Q fuel l0 a0 w0:=by
 unfold edgesOk at hchk;simp only [Bool.and_eq_true,List.all_eq_true,List.mem_range,Bool.or_eq_true,Bool.not_eq_true'] at hchk;obtain ⟨c1,c2,c3,c4,c5,c6⟩:=hchk;have c5:l0.size=ops.size:=Nat.eq_of_beq_eq_true c5;have hlt:∀k∈es,k < ops.size:=fun k hk=> by have:=(c2 k hk).1;exact Nat.lt_of_lt_of_le (Nat.lt_succ_self k) (Nat.le_of_ble_eq_true this)
 have hds:∀k∈es,∀j∈es,j≠k→∀d,dsOf ops j=some d→dsOf ops k≠some d:=fun k hk j hj hne d h1 h2=> by
  rcases c4 k hk j hj with h | h
  · exact hne (Nat.eq_of_beq_eq_true h)
  · rw [h1,h2] at h
    simp at h
 have hcl0:∀k,lst l0 k=true→∀j∈afterOf ops k,lst l0 j=true:=fun k hk j hj=> by
  have hks:k < ops.size:=by
   rw [←c5];rcases Nat.lt_or_ge k l0.size with h | h
   · exact h
   · unfold lst at hk;simp [Array.getElem?_eq_none h] at hk
  rcases c1 k hks with h | h
  · rw [h] at hk;cases hk
  · exact h j hj
 have key:∀ (m:Nat) (l:Array Bool) (vs:Nat→Value) (lo hi:Nat→Nat) (w:World),(es.filter fun k=> !lst l k).length=m→l.size=ops.size→(∀k,¬k∈es→lst l k=lst l0 k)→
  (∀k,lst l k=true→∀j∈afterOf ops k,lst l j=true)→(∀k∈es,lst l k=true→R k (vs k) ((dp k).map vs) w (lo k) (hi k)∧w0.heap.size≤lo k∧hi k≤w.heap.size)→
  (∀j∈es,∀k∈es,lst l j=true→lst l k=true→j≠k→hi j≤lo k∨hi k≤lo j)→S (fun k=> lst l k) w→G w0 w→
  wpAny P .any ops Q (m+(fuel - es.length)) l (fill a0 ops vs es) w:=by
  intro m
  induction m with
  | zero=>
   intro l vs lo hi w hm hsz hsame hcl hR hdis hS hB;have hall:∀k∈es,lst l k=true:=fun k hk=> by
    cases h:lst l k with
    | true=> rfl
    | false=>
     have:k∈es.filter fun k=> !lst l k:=List.mem_filter.2 ⟨hk,by simp [h]⟩
     rw [List.eq_nil_of_length_eq_zero hm] at this;cases this
   have hLL:=eq_listAll (l:=l) (l0:=l0) (by omega) (fun j hj=> by rw [c5];exact hlt j hj) hsame hall;rw [Nat.zero_add];rw [hLL] at hS⊢;exact hend vs w lo hi hB hS (fun k hk=> hR k hk (hall k hk)) (fun j hj k hk hne=> hdis j hj k hk (hall j hj) (hall k hk) hne)
  | succ m ih=>
   intro l vs lo hi w hm hsz hsame hcl hR hdis hS hB;obtain ⟨k0,hk0,hu0⟩:∃k∈es,lst l k=false:=by
    cases hx:es.filter fun k=> !lst l k with
    | nil=> rw [hx] at hm;cases hm
    | cons k t=>
     have:k∈es.filter fun k=> !lst l k:=by rw [hx];simp
     obtain ⟨h1,h2⟩:=List.mem_filter.1 this;exact ⟨k,h1,by simpa using h2⟩
   have hf1:m+1+(fuel - es.length)=(m+(fuel - es.length))+1:=by omega
   rw [hf1];refine ⟨fun hr=> ?_,fun i hi0=> ?_⟩
   · obtain ⟨k,hk,hu,hmin⟩:=min_unlisted (l:=l) ops.size ⟨k0,hk0,hlt k0 hk0,hu0⟩;have:k∈Region.ready .any ops l:=by
      rw [ready_after hsz];refine ⟨hlt k hk,hu,fun j hj=> ?_⟩;rcases (c2 k hk).2.2 j hj with h | h
      · by_cases e:j∈es
        · have:=(c2 j e).2.1;rw [this] at h;cases h
        · rw [hsame j e];exact h
      · exact hmin j (isIn_iff.1 h.1) (Nat.lt_of_lt_of_le (Nat.lt_succ_self j) (Nat.le_of_ble_eq_true h.2))
     rw [hr] at this;cases this
   · have hi1:=hi0;rw [ready_after hsz] at hi1;obtain ⟨hilt,hiu,hia⟩:=hi1;have hie:i∈es:=by
      by_cases e:i∈es
      · exact e
      · exfalso
        rcases c3 i hilt with h | h | h
        · rw [hsame i e,h] at hiu;cases hiu
        · exact e (isIn_iff.1 h)
        · have:=h k0 hk0;unfold ahd at this;have:=anc_listed hcl ops.size i hia k0 (by simpa using this);rw [hu0] at this;cases this
     have ho:ops[i]? =some ops[i]:=by simp [hilt]
     have hd:dsOf ops i=(ops[i]).dst:=by unfold dsOf;rw [ho];rfl
     have hil:i < l.size:=by omega
     refine wpOp_step ho fun K hK=> hop i hie ops[i] ho vs (fun k=> lst l k) w hB hiu hS (fun j hj hje=> ?_) K fun v w' hb hr=> hK _ _ ?_
     · have hjl:=anc_listed hcl ops.size i hia j (by unfold ahd at hj;simpa using hj);obtain ⟨h1,h2,h3⟩:=hR j (isIn_iff.1 hje) hjl;exact ⟨lo j,hi j,h3,h1⟩
     · rw [←hd,fill_put hie c6 (fun k hk hne d h1=> hds i hie k hk hne d h1)];have hG':=hStG i hie _ _ hb;have hB':G w0 w':=hGt _ _ _ hB hG';have hSn:S (fun k=> lst (l.setIfInBounds i true) k) w':=by
        have hS2:=hSs i hie (fun k=> lst l k) _ _ hiu hB hb hS;have he:upd (fun k=> lst l k) i true=fun k=> lst (l.setIfInBounds i true) k:=funext fun k=> by rw [lst_set hil];rfl
        rw [he] at hS2;exact hS2
       refine ih (l.setIfInBounds i true) (upd vs i v) (upd lo i w.heap.size) (upd hi i w'.heap.size) w' ?_ (by simp [hsz]) (fun k hk=> ?_) (fun k hk j hj=> ?_) (fun k hk hkl=> ?_) (fun j hj k hk hjl hkl hne=> ?_) hSn hB'
       · have:=unl_step hil hiu hie c6;omega
       · rw [lst_set hil,if_neg (fun e=> hk (by rw [e];exact hie))];exact hsame k hk
       · rw [lst_set hil] at hk⊢
         by_cases e:j=i
         · rw [if_pos e]
         · rw [if_neg e]
           by_cases e2:k=i
           · subst e2;exact hia j hj
           · rw [if_neg e2] at hk;exact hcl k hk j hj
       · by_cases e:k=i
         · subst e;have hmp:(dp k).map (upd vs k v)=(dp k).map vs:=List.map_congr_left fun j hj=> upd_ne vs v (show j≠k from fun e2=> by
            have:=anc_listed hcl ops.size k hia j (by have:=(hdp k hk j hj).1;unfold ahd at this;simpa using this);rw [e2,hiu] at this;cases this)
           rw [hmp,upd_same,upd_same,upd_same];exact ⟨hr,hGs _ _ hB,Nat.le_refl _⟩
         · rw [lst_set hil,if_neg e] at hkl;obtain ⟨h1,h2,h3⟩:=hR k hk hkl;have hmp:(dp k).map (upd vs i v)=(dp k).map vs:=List.map_congr_left fun j hj=> upd_ne vs v (show j≠i from fun e2=> by
            have:=anc_listed hcl ops.size k (fun x hx=> hcl k hkl x hx) j (by have:=(hdp k hk j hj).1;unfold ahd at this;simpa using this);rw [e2,hiu] at this;cases this)
           rw [hmp,upd_ne _ _ e,upd_ne _ _ e,upd_ne _ _ e];exact ⟨hRs k hk i hie e _ _ _ _ _ _ h2 hb h3 h1,h2,Nat.le_trans h3 (hGs _ _ hG')⟩
       · rw [lst_set hil] at hjl hkl
         by_cases e:j=i
         · subst e;rw [upd_same,upd_same];have e2:k≠j:=Ne.symm hne;rw [if_neg e2] at hkl;rw [upd_ne _ _ e2,upd_ne _ _ e2];exact .inr (hR k hk hkl).2.2
         · rw [upd_ne _ _ e,upd_ne _ _ e]
           by_cases e2:k=i
           · subst e2;rw [if_neg e] at hjl;rw [upd_same,upd_same];exact .inl (hR j hj hjl).2.2
           · rw [if_neg e] at hjl;rw [if_neg e2] at hkl;rw [upd_ne _ _ e2,upd_ne _ _ e2];exact hdis j hj k hk hjl hkl hne
 have hun:∀k∈es,lst l0 k=false:=fun k hk=> (c2 k hk).2.1
 have h0:(es.filter fun k=> !lst l0 k).length=es.length:=by rw [List.filter_eq_self.2 (fun k hk=> by simp [hun k hk])]
 have:=key es.length l0 (fun k=> match dsOf ops k with | some d=> a0.tmps.getD d undef | none=> undef) (fun _=> 0) (fun _=> 0) w0 h0 c5 (fun _ _=> rfl) hcl0 (fun k hk hl=> by rw [hun k hk] at hl;cases hl) (fun j hj k _ hl=> by rw [hun j hj] at hl;cases hl) hS0 (hG0 _);rw [show fill a0 ops (fun k=> match dsOf ops k with | some d=> a0.tmps.getD d undef | none=> undef) es=a0 from fill_own,show es.length+(fuel - es.length)=fuel by omega] at this;exact this
def OwedT (P:Program) (ops:Array Oper) (Q:Exit→Act→World→Prop) (G:World→World→Prop) (St:Nat→World→World→Prop) (S:(Nat→Bool)→World→Prop) (R:RelD) (ds:List OpD) (a0:Act) (w0:World) (k:Nat) (o:Oper):Prop:=
 ∀ (vs:Nat→Value) (d:Nat→Bool) (w:World),G w0 w→d k=false→S d w→(∀j,(ahd ops j k && isIn j (nosD ds))=true→∃lo hi,hi≤w.heap.size∧R j (vs j) ((dpD ds j).map vs) w lo hi)→∀K:Act→World→Prop,
  Shut (∀v w',St k w w'→R k v ((dpD ds k).map vs) w' w.heap.size w'.heap.size→K ((fillD a0 vs ds).put o.dst v) w')→
  if Region.wanted o (yielded ops (fillD a0 vs ds).tmps)=true then Oper.wp P o (fillD a0 vs ds) w K Q else K ((fillD a0 vs ds).put o.dst undef) w
theorem wpAny_makersTD (ds:List OpD) (G:World→World→Prop) (St:Nat→World→World→Prop) (S:(Nat→Bool)→World→Prop) (R:RelD) {fuel:Nat} {l0:Array Bool} {a0:Act} {w0:World}
 (hchk:(edgesOk ops l0 (nosD ds) && (depsOk ops ds && (slotsOk ops ds && Nat.ble (nosD ds).length fuel)))=true) (hS0:S (fun k=> lst l0 k) w0)
 (hG0:∀w,G w w) (hGt:∀w w1 w2,G w w1→G w1 w2→G w w2) (hGs:∀w w',G w w'→w.heap.size≤w'.heap.size) (hStG:∀k w w',St k w w'→G w w')
 (hSs:∀k d w w',d k=false→G w0 w→St k w w'→S d w→S (upd d k true) w')
 (hRs:∀k i,k≠i→∀v xs w w' lo hi,w0.heap.size≤lo→St i w w'→hi≤w.heap.size→R k v xs w lo hi→R k v xs w' lo hi)
 (hop:Each ops (OwedT P ops Q G St S R ds a0 w0) ds)
 (hend:∀vs w (lo hi:Nat→Nat),G w0 w→S (fun k=> lst (listAll l0 (nosD ds)) k) w→(∀k,isIn k (nosD ds)=true→R k (vs k) ((dpD ds k).map vs) w (lo k) (hi k)∧w0.heap.size≤lo k∧hi k≤w.heap.size)→
  (∀j k,(isIn j (nosD ds) && (isIn k (nosD ds) && !Nat.beq j k))=true→hi j≤lo k∨hi k≤lo j)→
  wpAny P .any ops Q (fuel - (nosD ds).length) (listAll l0 (nosD ds)) (fillD a0 vs ds) w):wpAny P .any ops Q fuel l0 a0 w0:=by
 simp only [Bool.and_eq_true] at hchk;obtain ⟨h1,h2,h3,h4⟩:=hchk;unfold depsOk at h2;simp only [List.all_eq_true,Bool.and_eq_true] at h2;refine wpAny_makersT (nosD ds) G St S R (dpD ds) h1 h2 (Nat.le_of_ble_eq_true h4) hS0 hG0 hGt hGs (fun k _=> hStG k) (fun k _=> hSs k) (fun k _ i _=> hRs k i) (fun k hk o ho vs d w hb hdk hS hR K hK=> ?_) (fun vs w lo hi hb hS hR hdis=> ?_)
 · have:=Each.mem hop k hk o ho vs d w hb hdk hS (fun j hj=> by rw [Bool.and_eq_true] at hj;exact hR j hj.1 hj.2) K (by rw [←fillD_eq h3];exact hK);rw [fillD_eq h3];exact this
 · rw [fillD_eq h3];exact hend vs w lo hi hb hS (fun k hk=> hR k (isIn_iff.1 hk)) (fun j k hjk=> by
    simp only [Bool.and_eq_true,Bool.not_eq_true'] at hjk;exact hdis j (isIn_iff.1 hjk.1) k (isIn_iff.1 hjk.2.1) (fun e=> by subst e;simp at hjk))
end
theorem append_own_op {P:Program} {o:Oper} {a:Act} {w:World} {K:Act→World→Prop} {Q:Exit→Act→World→Prop}
 (hg:o.guard=none) (s x:Operand) (t:TypeId) (hop:o.op=Op.call {callee:=Callee.builtin Builtin.append,args:=#[s,x],argTypes:=#[t,t]})
 (base e size bytes:Nat) (i:TypeInfo) (z:Value) (ht:P.underlying t=some (.slice e)) (hi:P.info? e=some i) (hz:i.zero=some z)
 (hsize:i.size=size) (hby:i.bytes=bytes) (hzs:z.cells.size=size)
 (v:Value) (n:Nat) (xs:List Value) (hown:w.ownsRow base e size v n xs) (ad:Addr) (m c:Nat) (news:List Value) (hs:a.eval s=v) (hx:a.eval x=.slice (some ad) m c)
 (hl:news.length=m * size) (hnews:∀j u,news[j]? =some u→w.cell? (ad.add j)=some u) (h1:∀u∈news,u.oneCell'=true) (hm0:0 < m)
 (h63:n+m≤maxLen) (hbytes:(n+m) * bytes≤140737488355328) (hbase:base≤w.heap.size)
 (hK:∀g cap w',w'.ownsRow base e size (.slice (some ⟨g,0,none⟩) (n+m) cap) (n+m) (xs++news)→g < w'.heap.size→((v.ownBlock=some g∧w.grownBy w' (some g))∨(g=w.heap.size∧w.grownBy w' none))→
  K (a.put o.dst (.slice (some ⟨g,0,none⟩) (n+m) cap)) w'):Oper.wp P o a w K Q:=by
 have h:=step_append_own (ops:=#[]) (Q:=Q) (E:=False) hg s x t hop base e size bytes i z ht hi hz hsize hby hzs v n xs hown ad m c news hs hx hl hnews h1 hm0 h63 hbytes hbase hK;have hw:Region.wanted o (yielded #[] a.tmps)=true:=by simp [Region.wanted,hg]
 rwa [if_pos hw] at h
def OneD (x:Value) (t:Nat) (v:Value) (w:World) (lo hi:Nat):Prop:=∃b,v=.slice (some ⟨b,0,none⟩) 1 1∧lo≤b∧b < hi∧w.heap[b]? =some (.cells #[x] t (0,0))
theorem OneD.later {x:Value} {t lo hi:Nat} {v:Value} {w w':World} (h:OneD x t v w lo hi) (hb:Below w.heap.size w w'):OneD x t v w' lo hi:=by
 obtain ⟨b,h1,h2,h3,h4⟩:=h;exact ⟨b,h1,h2,h3,heap_next hb h4⟩
theorem OneD.grown {x:Value} {t lo hi g:Nat} {v:Value} {w w':World} (h:OneD x t v w lo hi) (hg:w.grownBy w' (some g)) (hl:g < lo):OneD x t v w' lo hi:=by
 obtain ⟨b,h1,h2,h3,h4⟩:=h;exact ⟨b,h1,h2,h3,heap_nextG hg (by omega) h4⟩
end
section
open Go.RowKit
theorem own_typ {w:World} {B e size n r:Nat} {v:Value} {xs:List Value} (h:w.ownsRow B e size v n xs) (hr:v.ownBlock=some r):B≤r∧∃cs,w.heap[r]? =some (.cells cs e (0,0)):=by
 rcases h.2 with ⟨rfl,_⟩ | ⟨b,c,cs,rfl,hb,hblk,_⟩
 · cases hr
 · cases hr;exact ⟨hb,_,hblk⟩
theorem typ_ne {w:World} {g h t t':Nat} {cs cs':Array Value} (hg:w.heap[g]? =some (.cells cs t (0,0))) (hh:w.heap[h]? =some (.cells cs' t' (0,0))) (hne:t≠t'):g≠h:=fun e=> by
 subst e;rw [hg] at hh;cases hh;exact hne rfl
theorem grown_any {w w':World} {r:Option Nat} (h:w.grownBy w' none):w.grownBy w' r:=⟨h.os,h.tape,h.output,h.size,fun k hk _=> h.block k hk (by simp)⟩
theorem NN.fault {w w':World} {p:Value} {l:List El} {b:Nat} {cs:Array Value} (h:NN w p l) (hx:w.heap[b]? =some (.cells cs 38 (0,0))) (hg:w.grownBy w' (some b)):NN w' p l:=by
 rcases h with h | ⟨B,g,vl,vn,vb,bn,bp,bb,hp,h⟩
 · exact .inl h
 · have row:∀ {e size n:Nat} {v:Value} {xs:List Value},w.ownsRow B e size v n xs→e≠38 →w'.ownsRow B e size v n xs:=fun ho hne=>
    kept_ne ho hg fun k hk e=> by
     cases e;obtain ⟨_,c,hc⟩:=own_typ ho hk;exact typ_ne hc hx hne rfl
   refine .inr ⟨B,g,vl,vn,vb,bn,bp,bb,hp,{h with
    blk:=heap_nextG hg (typ_ne h.blk hx (by decide)) h.blk
    ol:=row h.ol (by decide)
    on:=row h.on (by decide)
    ob:=row h.ob (by decide)
    mn:=h.mn.kept hg (by have:=h.mn.ne_blk hx;intro e;cases e;exact this rfl)
    mp:=h.mp.kept hg (by have:=h.mp.ne_blk hx;intro e;cases e;exact this rfl)
    mb:=h.mb.kept hg (by have:=h.mb.ne_blk hx;intro e;cases e;exact this rfl)}⟩
theorem NN.set {w:World} {p:Value} {l:List El} {b:Nat} {cs:Array Value} (h:NN w p l) (hx:w.heap[b]? =some (.cells cs 38 (0,0))) (o:Nat) (v:Value):
 NN (w.setCell ⟨b,o,none⟩ v) p l∧(w.setCell ⟨b,o,none⟩ v).heap[b]? =some (.cells (cs.setIfInBounds o v) 38 (0,0)):=
 ⟨h.fault hx (grown_set w b o v),blk_set hx v⟩
def EightD (x:El) (v:Value) (w:World) (lo hi:Nat):Prop:=∃b,v=.slice (some ⟨b,0,none⟩) 1 1∧lo≤b∧b < hi∧w.heap[b]? =some (.cells #[.int .u8 x.kind,.string x.name,.string x.a,.string x.b,.string x.c,.string x.d,.float .f64 x.val,.int .i64 x.ph] 47 (0,0))
theorem EightD.later {x:El} {v:Value} {w w':World} {lo hi:Nat} (h:EightD x v w lo hi) (hb:Below w.heap.size w w'):EightD x v w' lo hi:=by
 obtain ⟨b,h1,h2,h3,h4⟩:=h;exact ⟨b,h1,h2,h3,heap_next hb h4⟩
theorem news_cells {w:World} {b t:Nat} {cs:Array Value} (h:w.heap[b]? =some (.cells cs t (0,0))):∀j u,cs.toList[j]? =some u→w.cell? ((⟨b,0,none⟩:Addr).add j)=some u:=fun j u hj=> by
 have:(⟨b,0,none⟩:Addr).add j=⟨b,j,none⟩:=by
  simp only [Addr.add]
  simp
  try (intro h;exact h.symm)
 rw [this];exact (block_cells h).1 j u (by simpa using hj)
theorem nwith_net (pa:Addr) (l:List El) (x:El) (w:World) (hp:NN w (.pointer (some pa)) l) (hl:l.length≤100000) (hok:∀y∈l,y.Ok) (hx:x.Ok):
 Calls Tryz.prog 68 #[.pointer (some pa),.agg #[.int .u8 x.kind,.string x.name,.string x.a,.string x.b,.string x.c,.string x.d,.float .f64 x.val,.int .i64 x.ph]] w (RetOf NN (l++ [x]) w):=by
 obtain ⟨ie,hie,hi0,hi1,hi2⟩:=info_parts infoEa;have hb2:=((Below.refl w.heap.size w).alloc (Nat.le_refl _) (.cells #[.int .u8 x.kind,.string x.name,.string x.a,.string x.b,.string x.c,.string x.d,.float .f64 x.val,.int .i64 x.ph] 47)).alloc (by simp) (.cells #[.int .i64 0,.int .i64 0] 38);have HP:=hid (hp.below hb2 (Nat.le_refl _));have HB:=hid hb2;have HEL:Hid (((w.alloc (.cells #[.int .u8 x.kind,.string x.name,.string x.a,.string x.b,.string x.c,.string x.d,.float .f64 x.val,.int .i64 x.ph] 47)).alloc (.cells #[.int .i64 0,.int .i64 0] 38)).heap[w.heap.size]? =some (.cells #[.int .u8 x.kind,.string x.name,.string x.a,.string x.b,.string x.c,.string x.d,.float .f64 x.val,.int .i64 x.ph] 47 (0,0))):=hid ((heap_alloc_old _ _ (by simp)).trans (heap_alloc_new w (.cells #[.int .u8 x.kind,.string x.name,.string x.a,.string x.b,.string x.c,.string x.d,.float .f64 x.val,.int .i64 x.ph] 47)));have HFZ:Hid (((w.alloc (.cells #[.int .u8 x.kind,.string x.name,.string x.a,.string x.b,.string x.c,.string x.d,.float .f64 x.val,.int .i64 x.ph] 47)).alloc (.cells #[.int .i64 0,.int .i64 0] 38)).heap[w.heap.size+1]? =some (.cells #[.int .i64 0,.int .i64 0] 38 (0,0))):=hid (by have h:=heap_alloc_new (w.alloc (.cells #[.int .u8 x.kind,.string x.name,.string x.a,.string x.b,.string x.c,.string x.d,.float .f64 x.val,.int .i64 x.ph] 47)) (.cells #[.int .i64 0,.int .i64 0] 38);simpa using h);have HS1:=hid (show ((w.alloc (.cells #[.int .u8 x.kind,.string x.name,.string x.a,.string x.b,.string x.c,.string x.d,.float .f64 x.val,.int .i64 x.ph] 47)).alloc (.cells #[.int .i64 0,.int .i64 0] 38)).heap.size=w.heap.size+2 by simp)
 have HOK:=hid (show∀y∈l++ [x],y.Ok from fun y hy=> by rcases List.mem_append.1 hy with h | h;exact hok y h;have e:y=x:=(by simpa using h);rw [e];exact hx);have HLE:=hid hl;obtain ⟨g0,B0,hgb⟩:∃ (g0:Nat) (B0:Bool),pa=⟨g0,0,none⟩:=by
  rcases hp with ⟨h,_⟩ | ⟨_,g,_,_,_,_,_,_,h,_⟩
  · cases h
  · cases h;exact ⟨g,true,rfl⟩
 subst hgb;have hmd:((w.alloc (.cells #[.int .u8 x.kind,.string x.name,.string x.a,.string x.b,.string x.c,.string x.d,.float .f64 x.val,.int .i64 x.ph] 47)).alloc (.cells #[.int .i64 0,.int .i64 0] 38)).cell? ⟨g0,0,none⟩=some (.bool true):=by
  rcases HP.out with ⟨h,_⟩ | ⟨_,g,_,_,_,_,_,_,h,hh⟩
  · cases h
  · cases h;exact (block_cells hh.blk).1 0 _ rfl
 have HMD:=hid hmd;clear hp hb2 hok hx hmd;go_enter Tryz.func68,Tryz.ntmps68;go_upto_region 1 with fail;generalize (w.alloc (.cells #[.int .u8 x.kind,.string x.name,.string x.a,.string x.b,.string x.c,.string x.d,.float .f64 x.val,.int .i64 x.ph] 47)).alloc (.cells #[.int .i64 0,.int .i64 0] 38)=w1 at *;go_upto_region 3 with (go_at_call 58;refine (nis_made _ _ HMD.out).mono ?_;rintro e wn ⟨rfl,rfl⟩);clear HMD;generalize hgz:w.heap.size=gz at *;refine wp_region_any (by kernel_rfl) ?_;change wpAny _ _ _ _ _ _ _ (World.drew _);refine wpAny_makersD [⟨some 10,0, []⟩,⟨some 11,1, []⟩,⟨some 12,2, []⟩,⟨some 13,3, []⟩]
  (fun w'=> w'.heap[gz]? =some (.cells #[.int .u8 x.kind,.string x.name,.string x.a,.string x.b,.string x.c,.string x.d,.float .f64 x.val,.int .i64 x.ph] 47 (0,0))∧w'.heap[gz+1]? =some (.cells #[.int .i64 0,.int .i64 0] 38 (0,0)))
  (fun oq v _ ww lo hi=> (match oq with | 0=> v=.pointer (some ⟨g0,0,none⟩) | 1=> True | 2=> v=.agg #[.int .u8 x.kind,.string x.name,.string x.a,.string x.b,.string x.c,.string x.d,.float .f64 x.val,.int .i64 x.ph] | 3=> True | _=> True)∧(oq=1→RowD 47 8 l.length (l.flatMap ea) v ww lo hi)∧(oq=3→EightD x v ww lo hi)) (by kernel_rfl) ?hSt (fun _ _ hb h=> ⟨heap_next hb h.1,heap_next hb h.2⟩) (fun _ _ _ _ _ _ _ hb _ h=> ⟨h.1,fun e=> (h.2.1 e).later hb,fun e=> (h.2.2 e).later hb⟩) ?hopt ?hendt
 case hSt=> exact ⟨heap_next (Below.refl _ _).drew HEL.out,heap_next (Below.refl _ _).drew HFZ.out⟩
 case hopt=>
  delta Owed
  simp only [fillD,Act.put,List.setIfInBounds_toArray,lz,ls];refine Each.cons rfl ?_ (Each.cons rfl ?_ (Each.cons rfl ?_ (Each.cons rfl ?_ Each.nil)))
  all_goals intro vs w2 hb2 hS2 hR2 K hK;try simp only [lz,ls] at hK⊢
  · go_simp;exact hK.out _ _ (Below.refl _ _) ⟨rfl,(fun e=> (by cases e)),(fun e=> (by cases e))⟩
  · have h0:vs 0=_:=exR (hR2 0 (by kernel_rfl)) (fun _ _ h=> h.1);simp only [h0] at hK⊢;rw [if_pos (by rfl)];go_wp2_with (go_at_call 42;refine (nelements_any _ l _ (HP.out.below (below_drew_left hb2) (Nat.le_refl _)) HLE.out).mono ?_;rintro e w4 ⟨v0,xs,rfl,hown,rfl,hb⟩);exact hK.out _ _ hb ⟨trivial,fun _=> RowD.of hown,(fun e=> (by cases e))⟩
  · have k0:=(block_cells hS2.1).1 0 _ rfl;have k1:=(block_cells hS2.1).1 1 _ rfl;have k2:=(block_cells hS2.1).1 2 _ rfl;have k3:=(block_cells hS2.1).1 3 _ rfl;have k4:=(block_cells hS2.1).1 4 _ rfl;have k5:=(block_cells hS2.1).1 5 _ rfl;have k6:=(block_cells hS2.1).1 6 _ rfl;have k7:=(block_cells hS2.1).1 7 _ rfl;go_simp;exact hK.out _ _ (Below.refl _ _) ⟨rfl,(fun e=> (by cases e)),(fun e=> (by cases e))⟩
  · have h2:vs 2=_:=exR (hR2 2 (by kernel_rfl)) (fun _ _ h=> h.1);simp only [h2] at hK⊢;go_simp;exact hK.out _ _ ((Below.refl _ _).alloc (Nat.le_refl _) _) ⟨trivial,(fun e=> (by cases e)),fun _=> ⟨w2.heap.size,rfl,Nat.le_refl _,by simp,heap_alloc_new _ _⟩⟩
 case hendt=>
  intro vs wx lo hiv hbx hSx hRx hdx;have h0:vs 0=_:=(hRx 0 (by kernel_rfl)).1.1;have Y1:=(hRx 1 (by kernel_rfl)).1.2.1 rfl;have Z1:=(hRx 1 (by kernel_rfl)).2;have h2:vs 2=_:=(hRx 2 (by kernel_rfl)).1.1;have Y3:=(hRx 3 (by kernel_rfl)).1.2.2 rfl;have Z3:=(hRx 3 (by kernel_rfl)).2;simp only [fillD,Act.put,List.setIfInBounds_toArray,lz,ls,h0,h2];have hb:=below_drew_left hbx;obtain ⟨⟨a0,c0,h1⟩,hown,hlt1⟩:=Y1;obtain ⟨b3,h3,hlo3,hhi3,hrow3⟩:=Y3;have HB2:=hid (HB.out.trans (hb.mono (by have:=HS1.out;omega)));have HFZ2:=hid hSx.2;have HOW:=hid hown;have HROW:=hid hrow3;have HLO:=hid (show gz+2≤lo 1 by have h:=Z1.1;have h2:w1.heap.size≤lo 1:=h;have:=HS1.out;omega);have HSX:=hid (show gz+2≤wx.heap.size by have:=hb.size;have:=HS1.out;omega);clear hbx hSx hRx hdx hb hown hlt1 hlo3 hhi3 hrow3 Z1 Z3 h0 h2 HEL HFZ HP;rw [h1] at HOW;simp only [h1,h3];clear h1 h3;have HOV:=hid (own_base HOW.out HLO.out);clear HOW HLO;refine wpAny_one (i:=4) (by kernel_rfl) rfl (fun K hK=> ?_);rw [if_pos (by rfl)];refine append_own_op rfl _ _ _ rfl (gz+2) 47 8 104 ie (.agg #[.int .u8 0,.string ⟨#[]⟩,.string ⟨#[]⟩,.string ⟨#[]⟩,.string ⟨#[]⟩,.string ⟨#[]⟩,.float .f64 0,.int .i64 0]) Tryz.underlying45 hie hi0 hi1 hi2 rfl _ l.length _ HOV.out ⟨b3,0,none⟩ 1 1 (ea x) (by rfl) (by rfl) rfl (news_cells HROW.out) (ea_one x) (by decide) (by have:=HLE.out;unfold maxLen;omega) (by have:=HLE.out;omega) HSX.out ?_;intro g6 cap6 w6 hown6 hlt6 htwo;refine hK.out _ _ ?_;clear hK;have hgr:wx.grownBy w6 (Value.slice a0 l.length c0).ownBlock:=by
   rcases htwo with ⟨e,h⟩ | ⟨_,h⟩
   · rw [e];exact h
   · exact grown_any h
  have HGE:=hid (show∀r,(Value.slice a0 l.length c0).ownBlock=some r→gz+2≤r from fun r e=> (World.ownsRow.lt HOV.out r e).1);have HB6:=hid (HB2.out.grown hgr (by have:=HSX.out;omega) (fun r e=> by have:=HGE.out r e;omega));have HFZ6:=hid ((hgr.block _ (Array.getElem?_eq_some_iff.1 HFZ2.out).1 (fun e=> by have:=HGE.out _ e.symm;omega)).trans HFZ2.out);have HS6:=hid (show gz+2≤w6.heap.size from Nat.le_trans HSX.out hgr.size);obtain ⟨n1,hn1⟩:∃n1,l.length+1=n1:=⟨_,rfl⟩;obtain ⟨L,hL⟩:∃L,l++ [x]=L:=⟨_,rfl⟩;have HLL:=hid hL;have HSL:=hid (show IsSl w6 8 (.slice (some ⟨g6,0,none⟩) n1 cap6) L.length (L.flatMap ea) by have h:=IsSl.of_own hown6;rw [←hn1,←hL];simpa using h);have HLN:=hid (show L.length≤100001 by rw [←hL];have:=HLE.out;simp;omega);rw [hL] at HOK;rw [hn1];clear hgr hown6 hlt6 htwo HB2 HFZ2 HOV HROW HSX HGE hn1 hL;refine wpAny_one (i:=5) (by kernel_rfl) rfl (fun K hK=> ?_);rw [if_pos (by rfl)];go_wp2_with (go_at_call 11;refine (nof_any _ L _ HSL.out HOK.out (by have:=HLN.out;omega)).mono ?_;rintro e w7 ⟨p',rfl,hpp,hb⟩;have HPP:=hid hpp;clear hpp;have HB7:=hid (HB6.out.trans (hb.mono (by have:=HS6.out;omega)));have HFZ7:=hid (heap_next hb HFZ6.out);clear hb HB6 HFZ6);refine hK.out _ _ ?_;clear hK;have z0:=(block_cells HFZ7.out).1 0 _ rfl;have z1:=(block_cells HFZ7.out).1 1 _ rfl;have f0:=(block_cells HFZ7.out).2 0;have f1:=(block_cells HFZ7.out).2 1;refine wpAny_two (i:=6) (j:=7) (by kernel_rfl) rfl rfl (fun K hK=> ?_) (fun K hK=> ?_)
  all_goals go_simp
  all_goals refine hK.out _ _ ?_
  all_goals clear hK
  rotate_left
  refine wpAny_one (i:=6) (by kernel_rfl) rfl (fun K hK=> ?_)
  rotate_left
  refine wpAny_one (i:=7) (by kernel_rfl) rfl (fun K hK=> ?_)
  all_goals go_simp
  all_goals refine hK.out _ _ ?_
  all_goals clear hK
  all_goals
   refine wpAny_one (i:=8) (by kernel_rfl) rfl (fun K hK=> ?_);go_simp;refine hK.out _ _ ?_;clear hK;refine wpAny_one (i:=9) (by kernel_rfl) rfl (fun K hK=> ?_);go_simp;refine hK.out _ _ ?_;clear hK;refine wpAny_done (by kernel_rfl) ?_ _;go_wp2
   (try simp only [Exit.inBlock,Exit.then])
   refine bodyPost_ret (v:=.tuple #[p',.agg #[.int .i64 (ofL L).2.1,.int .i64 (ofL L).2.2]]) ?_ rfl ⟨p',by rw [HLL.out],?_,?_⟩
   · rw [results_tmp_cell rfl];go_simp
   · rw [HLL.out];rcases HPP.out with h | ⟨h1,h2,h3⟩
     · exact .inl h
     · exact .inr ⟨h1,h2,(NN.set (NN.set h3 HFZ7.out _ _).1 (NN.set h3 HFZ7.out _ _).2 _ _).1⟩
   · subst hgz
     repeat (first | with_reducible exact HB7.out | with_reducible refine Below.setCell ?_ (by dsimp only;omega) _)
theorem nwith_any (pa:Addr) (l:List El) (x:El) (w:World) (hp:NN w (.pointer (some pa)) l) (hl:l.length≤100000) (hok:∀y∈l,y.Ok) (hx:x.Ok):
 Calls Tryz.prog 68 #[.pointer (some pa),.agg #[.int .u8 x.kind,.string x.name,.string x.a,.string x.b,.string x.c,.string x.d,.float .f64 x.val,.int .i64 x.ph]] w fun e w'=> (∃p':Value,e=.returned (.tuple #[p',.agg #[.int .i64 (ofL (l++ [x])).2.1,.int .i64 (ofL (l++ [x])).2.2]]))∧Below w.heap.size w w':=
 (nwith_net pa l x w hp hl hok hx).mono fun _ _ ⟨p',h,_,hb⟩=> ⟨⟨p',h⟩,hb⟩
end
end Go.Proofs.YtaegmlhfecfgkaaGreatDoor
