/- a part of the proof of the last text -/
import Derived.Test.YtejooaeppcjhjaaGreatZMFindE15
import Derived.Maps.OwnSet
namespace Go.Proofs.YtejooaeppcjhjaaGreat
set_option linter.all false
set_option maxHeartbeats 4000000
set_option maxRecDepth 100000
section
open Go.RowKit
def zFw (x:El):Bool:=x.kind !=4 && x.kind !=6
def gIx (l:List El) (s:ByteArray):Nat:=if has (nds l) s=true then (plI (nds l) s).toNat+1 else 0
def rootF (up:List Nat):Nat→Nat→Nat
 | 0,k=> k
 | f+1,k=> if up.getD k 0=k then k else rootF up f (up.getD k 0)
def Fine (up:List Nat):Prop:=∀k,k < up.length→up.getD k 0≤k
def zBo (up:List Nat) (k:Nat):Nat:=rootF up (k+1) k
theorem rootF_more {up:List Nat} (h:Fine up):∀ (f g k:Nat),k < up.length→k < f→k < g→rootF up f k=rootF up g k
 | 0,_,_,_,h1,_=> by omega
 | _,0,_,_,_,h2=> by omega
 | f+1,g+1,k,hk,h1,h2=> by
  unfold rootF
  split
  · rfl
  · have:=h k hk;exact rootF_more h f g _ (by omega) (by omega) (by omega)
theorem zFv {up:List Nat} (h:Fine up) {k:Nat} (hk:k < up.length):zBo up k=if up.getD k 0=k then k else zBo up (up.getD k 0):=by
 have h1:=h k hk;show rootF up (k+1) k=_;unfold rootF
 split
 · rfl
 · exact rootF_more h _ _ _ (by omega) (by omega) (by omega)
theorem root_le {up:List Nat} (h:Fine up):∀ (k:Nat),k < up.length→zBo up k≤k:=by
 intro k
 induction k using Nat.strongRecOn with
 | _ k ih=>
  intro hk;rw [zFv h hk]
  split
  · omega
  · have:=h k hk;have:=ih (up.getD k 0) (by omega) (by omega)
    omega
theorem root_fix {up:List Nat} (h:Fine up):∀ (k:Nat),k < up.length→up.getD (zBo up k) 0=zBo up k:=by
 intro k
 induction k using Nat.strongRecOn with
 | _ k ih=>
  intro hk;rw [zFv h hk]
  split
  · assumption
  · have:=h k hk;exact ih _ (by omega) (by omega)
theorem getD_set {up:List Nat} {i j k:Nat} (hi:i < up.length):(up.set i j).getD k 0=if k=i then j else up.getD k 0:=by
 rw [List.getD_eq_getElem?_getD,List.getD_eq_getElem?_getD]
 by_cases e:k=i
 · subst e;rw [List.getElem?_set_self hi,if_pos rfl];rfl
 · rw [List.getElem?_set_ne (Ne.symm e),if_neg e]
theorem fine_set {up:List Nat} {i j:Nat} (h:Fine up) (hi:i < up.length) (hj:j≤i):Fine (up.set i j):=fun k hk=> by
 rw [getD_set hi]
 split
 · omega
 · exact h k (by simpa using hk)
theorem root_set {up:List Nat} {i j:Nat} (h:Fine up) (hi:i < up.length) (hj:j≤i) (fi:up.getD i 0=i) (fj:up.getD j 0=j):
 ∀ (k:Nat),k < up.length→zBo (up.set i j) k=if zBo up k=i then j else zBo up k:=by
 have h':=fine_set h hi hj;have hlen:(up.set i j).length=up.length:=by simp
 have hroot_j:zBo (up.set i j) j=j:=by
  rw [zFv h' (by omega),getD_set hi]
  by_cases e:j=i
  · rw [if_pos e,if_pos rfl]
  · rw [if_neg e,if_pos fj]
 intro k
 induction k using Nat.strongRecOn with
 | _ k ih=>
  intro hk;rw [zFv h' (by omega),zFv h hk,getD_set hi]
  by_cases e:k=i
  · subst e;rw [if_pos rfl,if_pos fi,if_pos rfl]
    by_cases e2:j=k
    · rw [if_pos e2,e2]
    · rw [if_neg e2,hroot_j]
  · rw [if_neg e]
    by_cases e2:up.getD k 0=k
    · rw [if_pos e2,if_pos e2,if_neg e]
    · rw [if_neg e2,if_neg e2];have:=h k hk;exact ih _ (by omega) (by omega)
def joinU (up:List Nat) (a b:Nat):List Nat:=up.set (max (zBo up a) (zBo up b)) (min (zBo up a) (zBo up b))
theorem joinU_ok {up:List Nat} (h:Fine up) {a b:Nat} (ha:a < up.length) (hb:b < up.length):Fine (joinU up a b)∧(joinU up a b).length=up.length∧
 ∀k,k < up.length→zBo (joinU up a b) k=if zBo up k=max (zBo up a) (zBo up b) then min (zBo up a) (zBo up b) else zBo up k:=by
 have r1:=root_le h a ha;have r2:=root_le h b hb;have f1:=root_fix h a ha;have f2:=root_fix h b hb;have hmx:up.getD (max (zBo up a) (zBo up b)) 0=max (zBo up a) (zBo up b):=by
  rcases Nat.le_total (zBo up a) (zBo up b) with e | e
  · rw [Nat.max_eq_right e];exact f2
  · rw [Nat.max_eq_left e];exact f1
 have hmn:up.getD (min (zBo up a) (zBo up b)) 0=min (zBo up a) (zBo up b):=by
  rcases Nat.le_total (zBo up a) (zBo up b) with e | e
  · rw [Nat.min_eq_left e];exact f1
  · rw [Nat.min_eq_right e];exact f2
 exact ⟨fine_set h (by omega) (by omega),by simp [joinU],fun k hk=> root_set h (by omega) (by omega) hmx hmn k hk⟩
def joinP (p:List Nat) (a b:Nat):List Nat:=p.map fun x=> if x=p.getD a 0 then p.getD b 0 else x
theorem joinP_get {p:List Nat} {a b k:Nat} (hk:k < p.length):(joinP p a b).getD k 0=if p.getD k 0=p.getD a 0 then p.getD b 0 else p.getD k 0:=by
 unfold joinP;rw [List.getD_eq_getElem?_getD,List.getElem?_map,List.getElem?_eq_getElem hk,List.getD_eq_getElem?_getD (l:=p) (i:=k),List.getElem?_eq_getElem hk];rfl
structure Alike (up p:List Nat):Prop where
 fine:Fine up
 len:p.length=up.length
 same:∀a b,a < up.length→b < up.length→(zBo up a=zBo up b ↔ p.getD a 0=p.getD b 0)
theorem Alike.join {up p:List Nat} (h:Alike up p) {a b:Nat} (ha:a < up.length) (hb:b < up.length):Alike (joinU up a b) (joinP p a b):=by
 obtain ⟨h1,h2,h3⟩:=joinU_ok h.fine ha hb;refine ⟨h1,by simp [joinP,h2,h.len],fun x y hx hy=> ?_⟩;rw [h2] at hx hy;rw [h3 x hx,h3 y hy,joinP_get (by rw [h.len];exact hx),joinP_get (by rw [h.len];exact hy)];have xa:=h.same x a hx ha;have xb:=h.same x b hx hb;have ya:=h.same y a hy ha;have yb:=h.same y b hy hb;have xy:=h.same x y hx hy;generalize zBo up x=rx at *;generalize zBo up y=ry at *;generalize zBo up a=ra at *;generalize zBo up b=rb at *;generalize p.getD x 0=px at *;generalize p.getD y 0=py at *;generalize p.getD a 0=pa at *;generalize p.getD b 0=pb at *;have L1:∀r:Nat,(if r=max ra rb then min ra rb else r)=(if r=ra∨r=rb then min ra rb else r):=fun r=> by split <;> split <;> omega
 have L2:∀q:Nat,(if q=pa then pb else q)=(if q=pa∨q=pb then pb else q):=fun q=> by split <;> split <;> omega
 rw [L1,L1,L2,L2];have cx:(rx=ra∨rx=rb) ↔ (px=pa∨px=pb):=or_congr xa xb;have cy:(ry=ra∨ry=rb) ↔ (py=pa∨py=pb):=or_congr ya yb
 by_cases hx1:rx=ra∨rx=rb <;> by_cases hy1:ry=ra∨ry=rb
 · rw [if_pos hx1,if_pos hy1,if_pos (cx.1 hx1),if_pos (cy.1 hy1)];simp
 · have hy2:=fun h=> hy1 (cy.2 h)
   rw [if_pos hx1,if_neg hy1,if_pos (cx.1 hx1),if_neg hy2]
   constructor <;> intro h <;> omega
 · have hx2:=fun h=> hx1 (cx.2 h)
   rw [if_neg hx1,if_pos hy1,if_neg hx2,if_pos (cy.1 hy1)]
   constructor <;> intro h <;> omega
 · rw [if_neg hx1,if_neg hy1,if_neg (fun h=> hx1 (cx.2 h)),if_neg (fun h=> hy1 (cy.2 h))];exact xy
def upK (l:List El):Nat→List Nat
 | 0=> List.range ((nds l).length+1)
 | k+1=> match l[k]? with
  | some x=> if zFw x=true then joinU (upK l k) (gIx l x.a) (gIx l x.b) else upK l k
  | none=> upK l k
def ptK (l:List El):Nat→List Nat
 | 0=> List.range ((nds l).length+1)
 | k+1=> match l[k]? with
  | some x=> if zFw x=true then joinP (ptK l k) (gIx l x.a) (gIx l x.b) else ptK l k
  | none=> ptK l k
theorem gIx_lt (l:List El) (s:ByteArray):gIx l s < (nds l).length+1:=by
 unfold gIx
 split
 · rename_i h;unfold plI;rw [if_pos h];have:(nds l).findIdx (fun t=> t.toList==s.toList) < (nds l).length:=by
    rw [List.findIdx_lt_length];unfold has at h
    simpa using h
   omega
 · omega
theorem range_getD {n k:Nat} (h:k < n):(List.range n).getD k 0=k:=by
 rw [List.getD_eq_getElem?_getD,List.getElem?_range h];rfl
theorem fine_range (n:Nat):Fine (List.range n):=fun k hk=> by rw [range_getD (by simpa using hk)];exact Nat.le_refl _
theorem root_range {n k:Nat} (h:k < n):zBo (List.range n) k=k:=by
 rw [zFv (fine_range n) (by simpa using h),range_getD h,if_pos rfl]
theorem upK_len (l:List El):∀k,Alike (upK l k) (ptK l k)∧(upK l k).length=(nds l).length+1
 | 0=> ⟨⟨fine_range _,by simp [upK,ptK],fun a b ha hb=> by
  simp only [upK,List.length_range] at ha hb;simp only [upK,ptK];rw [root_range ha,root_range hb,range_getD ha,range_getD hb]⟩,by simp [upK]⟩
 | k+1=> by
  obtain ⟨h1,h2⟩:=upK_len l k;unfold upK ptK;cases hx:l[k]? with
  | none=> exact ⟨h1,h2⟩
  | some x=>
   simp only
   split
   · have ha:gIx l x.a < (upK l k).length:=by rw [h2];exact gIx_lt l _
     have hb:gIx l x.b < (upK l k).length:=by rw [h2];exact gIx_lt l _
     exact ⟨h1.join ha hb,by rw [(joinU_ok h1.fine ha hb).2.1,h2]⟩
   · exact ⟨h1,h2⟩
def grdU (l:List El):Option Nat:=(List.range (nds l).length).find? fun i=> zBo (upK l l.length) (i+1) !=0
def grdP (l:List El):Option Nat:=(List.range (nds l).length).find? fun i=> (ptK l l.length).getD (i+1) 0 !=(ptK l l.length).getD 0 0
theorem grd_same (l:List El):grdU l=grdP l:=by
 obtain ⟨h1,h2⟩:=upK_len l l.length;unfold grdU grdP;have key:∀i∈List.range (nds l).length,(zBo (upK l l.length) (i+1) !=0)=((ptK l l.length).getD (i+1) 0 !=(ptK l l.length).getD 0 0):=fun i hi=> by
  have hi:=List.mem_range.1 hi;have h0:=root_le h1.fine 0 (by omega);have:=h1.same (i+1) 0 (by omega) (by omega);rw [show zBo (upK l l.length) 0=0 by omega] at this;rw [Bool.eq_iff_iff];simp only [bne_iff_ne,ne_eq,this]
 have gen:∀ (m:List Nat) {p q:Nat→Bool},(∀i∈m,p i=q i)→m.find? p=m.find? q:=fun m=> by
  induction m with
  | nil=> intro p q _;rfl
  | cons a m ih=>
   intro p q h;rw [List.find?_cons,List.find?_cons,h a (by simp),ih (fun i hi=> h i (by simp [hi]))]
 exact gen _ key
def grdS (b:Bool) (l:List El):Int × Int:=if b=true then (1,-1) else match grdU l with
 | some i=> (11,i)
 | none=> (0,0)
end
section
open Go.RowKit
abbrev DU:=DataW Unit
def kls (s:ByteArray):Lit:=.string s.data.toList
def plD (i:Int):DU:=.lit (.int .i64 i)
theorem zEa (s:ByteArray):s.toList=s.data.toList:=by
 first | exact ByteArray.toList_eq s | exact ByteArray.toList_data s | simp [ByteArray.toList_eq] | rfl
theorem zEh (s t:ByteArray):(s.toList==t.toList)=true ↔ s=t:=by
 rw [beq_iff_eq,zEa,zEa];exact ⟨fun h=> ByteArray.ext (Array.toList_inj.1 h),fun h=> by rw [h]⟩
theorem kls_ne {s t:ByteArray} (h:¬s=t):kls s≠kls t:=fun e=> h (ByteArray.ext (Array.toList_inj.1 (by injection e)))
theorem kls_key (s:ByteArray):WideAt.IsKeyLit (kls s):=trivial
theorem has_iff (l:List ByteArray) (s:ByteArray):has l s=true ↔ s∈l:=by
 unfold has;rw [List.any_eq_true]
 constructor
 · rintro ⟨t,ht,h⟩;rw [zEh] at h;exact h ▸ ht
 · intro h;exact ⟨s,h,by simp⟩
def MapIs (D:DU) (l:List ByteArray):Prop:=Maps.IsMap D∧∀s,D.atKey (kls s) (plD 0)=plD (plI l s)∧Maps.has D (kls s)=has l s
theorem mapIs_empty:MapIs (.map []) []:=⟨Maps.isMap_empty,fun _=> ⟨rfl,rfl⟩⟩
theorem has_app (l:List ByteArray) (s t:ByteArray):has (l++ [s]) t=(has l t || (s.toList==t.toList)):=by simp [has]
theorem plI_old {l:List ByteArray} {s t:ByteArray} (h:¬s=t):plI (l++ [s]) t=plI l t:=by
 have hf:(s.toList==t.toList)=false:=by
  cases e:(s.toList==t.toList)
  · rfl
  · exact absurd ((zEh s t).1 e) h
 unfold plI;rw [has_app,hf,Bool.or_false];cases hh:has l t
 · simp
 · simp only [if_true];rw [List.findIdx_append];have:l.findIdx (fun u=> u.toList==t.toList) < l.length:=List.findIdx_lt_length.2 (by
    obtain ⟨u,hu,hu2⟩:=List.any_eq_true.1 hh;exact ⟨u,hu,hu2⟩)
   rw [if_pos this]
theorem plI_new {l:List ByteArray} {s:ByteArray} (h:has l s=false):plI (l++ [s]) s=l.length∧has (l++ [s]) s=true:=by
 have:=plI_at (l:=l++ [s]) (s:=s) (t:=s) (k:=l.length) (by rw [List.take_left' rfl];exact h) (by simp) (by simp);exact ⟨this.2,this.1⟩
theorem zGu {D:DU} {l:List ByteArray} {s:ByteArray} (h:MapIs D l) (hs:has l s=false):MapIs (D.put (kls s) (plD l.length)) (l++ [s]):=by
 refine ⟨h.1.put _ _,fun t=> ?_⟩
 by_cases e:s=t
 · subst e;obtain ⟨h1,h2⟩:=plI_new hs;rw [Maps.atKey_put_same h.1 (kls_key s),Maps.has_put_same h.1 (kls_key s),h1,h2];exact ⟨rfl,rfl⟩
 · have hf:(s.toList==t.toList)=false:=by
    cases e2:(s.toList==t.toList)
    · rfl
    · exact absurd ((zEh s t).1 e2) e
   rw [Maps.atKey_put_other (kls_ne fun x=> e x.symm),Maps.has_put_other (kls_ne fun x=> e x.symm),plI_old e,has_app,hf,Bool.or_false];exact h.2 t
end
section
open Go.RowKit
theorem zeroInt (w:World):(zeroValue 3).run Tryz.prog w=.ok (.int .i64 0) w:=by kernel_rfl
def zHn (w:World) (b:Nat) (ns:List ByteArray):Prop:=∃D:DU,w.ownsMap Tryz.prog 9 (plainElem Tryz.prog 3) b ns.length D∧MapIs D ns
theorem zHn.kept {w w':World} {b:Nat} {ns:List ByteArray} {row:Option Nat} (h:zHn w b ns) (hg:w.grownBy w' row) (hne:some b≠row):zHn w' b ns:=by
 obtain ⟨D,h1,h2⟩:=h;exact ⟨D,h1.kept hg hne,h2⟩
theorem zHn.ne_row {w:World} {b B e size n:Nat} {ns:List ByteArray} {v:Value} {xs:List Value} (h:zHn w b ns) (ho:w.ownsRow B e size v n xs):v.ownBlock≠some b:=by
 intro hv;obtain ⟨D,⟨es,clock,hb,_⟩,_⟩:=h;rcases ho.2 with ⟨rfl,_⟩ | ⟨g,cap,cur,rfl,_,hg,_⟩
 · cases hv
 · cases hv;rw [hb] at hg;cases hg
theorem zHn.ne_blk {w:World} {b g:Nat} {ns:List ByteArray} {cs:Array Value} {t:TypeId} {f:Nat × Nat} (h:zHn w b ns) (hg:w.heap[g]? =some (.cells cs t f)):g≠b:=by
 intro e;subst e;obtain ⟨D,⟨es,clock,hb,_⟩,_⟩:=h;rw [hb] at hg;cases hg
structure NetAt (B:Nat) (w:World) (g:Nat) (vl vn vb:Value) (bn bp bb:Nat) (l:List El) (ns N Np bs Bp:List ByteArray):Prop where
 gB:B≤g
 blk:w.heap[g]? =some (.cells #[.bool true,vl,.map (some bn),vn,.map (some bp),vb,.map (some bb)] 60)
 ol:w.ownsRow B 48 8 vl l.length (l.flatMap ea)
 on:w.ownsRow B 9 1 vn N.length (sts N)
 ob:w.ownsRow B 9 1 vb bs.length (sts bs)
 lg:vl.ownBlock≠some g
 ng:vn.ownBlock≠some g
 bg:vb.ownBlock≠some g
 ln:∀r,vl.ownBlock=some r→vn.ownBlock≠some r
 lb:∀r,vl.ownBlock=some r→vb.ownBlock≠some r
 nb:∀r,vn.ownBlock=some r→vb.ownBlock≠some r
 bnB:B≤bn
 bpB:B≤bp
 bbB:B≤bb
 np:bn≠bp
 nbb:bn≠bb
 pb:bp≠bb
 mn:zHn w bn ns
 mp:zHn w bp Np
 mb:zHn w bb Bp
def zFi (w w':World) (v:Value) (r:Nat):Prop:=(v.ownBlock=some r∧w.grownBy w' (some r))∨(w.heap.size≤r∧w.grownBy w' none)
theorem fresh_ne {w w':World} {r B e size n:Nat} {v u:Value} {xs:List Value} (h:zFi w w' v r) (hne:∀k,v.ownBlock=some k→u.ownBlock≠some k) (hu:w.ownsRow B e size u n xs):u.ownBlock≠some r:=by
 rcases h with ⟨h1,_⟩ | ⟨h1,_⟩
 · exact hne r h1
 · intro x;have:=(hu.lt _ x).2
   omega
theorem fresh_blk {w w':World} {r g:Nat} {v:Value} (h:zFi w w' v r) (hne:v.ownBlock≠some g) (hg:g < w.heap.size):g≠r:=by
 rcases h with ⟨h1,_⟩ | ⟨h1,_⟩
 · intro e;subst e;exact hne h1
 · omega
theorem zFr {w w':World} {r B e size n:Nat} {v u:Value} {xs:List Value} (h:zFi w w' v r) (hne:∀k,v.ownBlock=some k→u.ownBlock≠some k) (hu:w.ownsRow B e size u n xs):w'.ownsRow B e size u n xs:=by
 rcases h with ⟨h1,h2⟩ | ⟨_,h2⟩
 · exact hu.kept h2 (.inr (hne r h1))
 · exact hu.kept h2 (by cases u.ownBlock <;> simp)
theorem zDm {w w':World} {r B e size n b:Nat} {v:Value} {xs:List Value} {ns:List ByteArray} (h:zFi w w' v r) (hv:w.ownsRow B e size v n xs) (hm:zHn w b ns):zHn w' b ns:=by
 rcases h with ⟨h1,h2⟩ | ⟨_,h2⟩
 · exact hm.kept h2 (fun x=> hm.ne_row hv (h1.trans x.symm))
 · exact hm.kept h2 (by simp)
theorem zFs {w w':World} {r g:Nat} {v:Value} {o:Obj} (h:zFi w w' v r) (hne:v.ownBlock≠some g) (hg:w.heap[g]? =some o):w'.heap[g]? =some o:=by
 have hlt:=(Array.getElem?_eq_some_iff.1 hg).1;rcases h with ⟨h1,h2⟩ | ⟨_,h2⟩
 · exact (h2.block g hlt (fun x=> hne (h1.trans x.symm))).trans hg
 · exact (h2.block g hlt (by simp)).trans hg
theorem grown_set (w:World) (g o:Nat) (v:Value):w.grownBy (w.setCell ⟨g,o,none⟩ v) (some g):=
 ⟨rfl,rfl,rfl,by simp [World.setCell],fun k _ hne=> Below.heap_setCell _ _ _ _ (fun e=> hne (by rw [e]))⟩
theorem blk_set {w:World} {g o:Nat} {cs:Array Value} {t:TypeId} {f:Nat × Nat} (h:w.heap[g]? =some (.cells cs t f)) (v:Value):(w.setCell ⟨g,o,none⟩ v).heap[g]? =some (.cells (cs.setIfInBounds o v) t f):=by
 unfold World.setCell
 simp [Array.getElem?_modify,h]
section
variable {B g bn bp bb:Nat} {w w':World} {vl vn vb:Value} {l:List El} {ns N Np bs Bp:List ByteArray}
theorem NetAt.names (h:NetAt B w g vl vn vb bn bp bb l ns N Np bs Bp) (hg:w.grownBy w' (some bn)) {ns':List ByteArray} (hm:zHn w' bn ns'):NetAt B w' g vl vn vb bn bp bb l ns' N Np bs Bp:=
 {h with
  blk:=(hg.block g (Array.getElem?_eq_some_iff.1 h.blk).1 (by simpa using h.mn.ne_blk h.blk)).trans h.blk
  ol:=h.ol.kept hg (.inr (h.mn.ne_row h.ol))
  on:=h.on.kept hg (.inr (h.mn.ne_row h.on))
  ob:=h.ob.kept hg (.inr (h.mn.ne_row h.ob))
  mn:=hm
  mp:=h.mp.kept hg (by simpa using h.np.symm)
  mb:=h.mb.kept hg (by simpa using h.nbb.symm)}
theorem NetAt.places (h:NetAt B w g vl vn vb bn bp bb l ns N Np bs Bp) (hg:w.grownBy w' (some bp)) {Np':List ByteArray} (hm:zHn w' bp Np'):NetAt B w' g vl vn vb bn bp bb l ns N Np' bs Bp:=
 {h with
  blk:=(hg.block g (Array.getElem?_eq_some_iff.1 h.blk).1 (by simpa using h.mp.ne_blk h.blk)).trans h.blk
  ol:=h.ol.kept hg (.inr (h.mp.ne_row h.ol))
  on:=h.on.kept hg (.inr (h.mp.ne_row h.on))
  ob:=h.ob.kept hg (.inr (h.mp.ne_row h.ob))
  mn:=h.mn.kept hg (by simpa using h.np)
  mp:=hm
  mb:=h.mb.kept hg (by simpa using h.pb.symm)}
theorem NetAt.branch (h:NetAt B w g vl vn vb bn bp bb l ns N Np bs Bp) (hg:w.grownBy w' (some bb)) {Bp':List ByteArray} (hm:zHn w' bb Bp'):NetAt B w' g vl vn vb bn bp bb l ns N Np bs Bp':=
 {h with
  blk:=(hg.block g (Array.getElem?_eq_some_iff.1 h.blk).1 (by simpa using h.mb.ne_blk h.blk)).trans h.blk
  ol:=h.ol.kept hg (.inr (h.mb.ne_row h.ol))
  on:=h.on.kept hg (.inr (h.mb.ne_row h.on))
  ob:=h.ob.kept hg (.inr (h.mb.ne_row h.ob))
  mn:=h.mn.kept hg (by simpa using h.nbb)
  mp:=h.mp.kept hg (by simpa using h.pb)
  mb:=hm}
theorem NetAt.kept (h:NetAt B w g vl vn vb bn bp bb l ns N Np bs Bp) (hg:w.grownBy w' none):NetAt B w' g vl vn vb bn bp bb l ns N Np bs Bp:=
 {h with
  blk:=(hg.block g (Array.getElem?_eq_some_iff.1 h.blk).1 (by simp)).trans h.blk
  ol:=zBa h.ol hg
  on:=zBa h.on hg
  ob:=zBa h.ob hg
  mn:=h.mn.kept hg (by simp)
  mp:=h.mp.kept hg (by simp)
  mb:=h.mb.kept hg (by simp)}
theorem NetAt.alloc (h:NetAt B w g vl vn vb bn bp bb l ns N Np bs Bp) (o:Obj):NetAt B (w.alloc o) g vl vn vb bn bp bb l ns N Np bs Bp:=h.kept (World.grownBy_alloc w o none)
theorem NetAt.drew (h:NetAt B w g vl vn vb bn bp bb l ns N Np bs Bp):NetAt B w.drew g vl vn vb bn bp bb l ns N Np bs Bp:=h.kept ⟨rfl,rfl,rfl,Nat.le_refl _,fun _ _ _=> rfl⟩
theorem NetAt.pushL (h:NetAt B w g vl vn vb bn bp bb l ns N Np bs Bp) {r n c:Nat} {e:El} (ho:w'.ownsRow B 48 8 (.slice (some ⟨r,0,none⟩) n c) (l.length+1) (l.flatMap ea++ea e)) (hp:zFi w w' vl r):
 NetAt B (w'.setCell ⟨g,1,none⟩ (.slice (some ⟨r,0,none⟩) n c)) g (.slice (some ⟨r,0,none⟩) n c) vn vb bn bp bb (l++ [e]) ns N Np bs Bp:=by
 have hgl:=(Array.getElem?_eq_some_iff.1 h.blk).1;have hgr:=fresh_blk hp h.lg hgl;have hs:=grown_set w' g 1 (.slice (some ⟨r,0,none⟩) n c);have hb:=zFs hp h.lg h.blk;exact
 {h with
  blk:=blk_set hb _
  ol:=by rw [flat_snoc,List.length_append];exact ho.kept hs (.inr (fun x=> hgr (Option.some.inj x).symm))
  on:=(zFr hp h.ln h.on).kept hs (.inr h.ng)
  ob:=(zFr hp h.lb h.ob).kept hs (.inr h.bg)
  lg:=fun x=> hgr (Option.some.inj x).symm
  ln:=fun k hk=> by cases hk;exact fresh_ne hp h.ln h.on
  lb:=fun k hk=> by cases hk;exact fresh_ne hp h.lb h.ob
  mn:=(zDm hp h.ol h.mn).kept hs (fun x=> h.mn.ne_blk h.blk (Option.some.inj x).symm)
  mp:=(zDm hp h.ol h.mp).kept hs (fun x=> h.mp.ne_blk h.blk (Option.some.inj x).symm)
  mb:=(zDm hp h.ol h.mb).kept hs (fun x=> h.mb.ne_blk h.blk (Option.some.inj x).symm)}
theorem NetAt.pushN (h:NetAt B w g vl vn vb bn bp bb l ns N Np bs Bp) {r n c:Nat} {s:ByteArray} (ho:w'.ownsRow B 9 1 (.slice (some ⟨r,0,none⟩) n c) (N.length+1) (sts N++ [.string s])) (hp:zFi w w' vn r):
 NetAt B (w'.setCell ⟨g,3,none⟩ (.slice (some ⟨r,0,none⟩) n c)) g vl (.slice (some ⟨r,0,none⟩) n c) vb bn bp bb l ns (N++ [s]) Np bs Bp:=by
 have hgl:=(Array.getElem?_eq_some_iff.1 h.blk).1;have hgr:=fresh_blk hp h.ng hgl;have hs:=grown_set w' g 3 (.slice (some ⟨r,0,none⟩) n c);have hb:=zFs hp h.ng h.blk;have hnl:∀k,vn.ownBlock=some k→vl.ownBlock≠some k:=fun k hk hl=> h.ln k hl hk
 exact
 {h with
  blk:=blk_set hb _
  ol:=(zFr hp hnl h.ol).kept hs (.inr h.lg)
  on:=by rw [sts_snoc,List.length_append];exact ho.kept hs (.inr (fun x=> hgr (Option.some.inj x).symm))
  ob:=(zFr hp h.nb h.ob).kept hs (.inr h.bg)
  ng:=fun x=> hgr (Option.some.inj x).symm
  ln:=fun k hk x=> fresh_ne hp hnl h.ol (hk.trans x.symm)
  nb:=fun k hk=> by cases hk;exact fresh_ne hp h.nb h.ob
  mn:=(zDm hp h.on h.mn).kept hs (fun x=> h.mn.ne_blk h.blk (Option.some.inj x).symm)
  mp:=(zDm hp h.on h.mp).kept hs (fun x=> h.mp.ne_blk h.blk (Option.some.inj x).symm)
  mb:=(zDm hp h.on h.mb).kept hs (fun x=> h.mb.ne_blk h.blk (Option.some.inj x).symm)}
theorem NetAt.pushB (h:NetAt B w g vl vn vb bn bp bb l ns N Np bs Bp) {r n c:Nat} {s:ByteArray} (ho:w'.ownsRow B 9 1 (.slice (some ⟨r,0,none⟩) n c) (bs.length+1) (sts bs++ [.string s])) (hp:zFi w w' vb r):
 NetAt B (w'.setCell ⟨g,5,none⟩ (.slice (some ⟨r,0,none⟩) n c)) g vl vn (.slice (some ⟨r,0,none⟩) n c) bn bp bb l ns N Np (bs++ [s]) Bp:=by
 have hgl:=(Array.getElem?_eq_some_iff.1 h.blk).1;have hgr:=fresh_blk hp h.bg hgl;have hs:=grown_set w' g 5 (.slice (some ⟨r,0,none⟩) n c);have hb:=zFs hp h.bg h.blk;have hbl:∀k,vb.ownBlock=some k→vl.ownBlock≠some k:=fun k hk hl=> h.lb k hl hk
 have hbn:∀k,vb.ownBlock=some k→vn.ownBlock≠some k:=fun k hk hl=> h.nb k hl hk
 exact
 {h with
  blk:=blk_set hb _
  ol:=(zFr hp hbl h.ol).kept hs (.inr h.lg)
  on:=(zFr hp hbn h.on).kept hs (.inr h.ng)
  ob:=by rw [sts_snoc,List.length_append];exact ho.kept hs (.inr (fun x=> hgr (Option.some.inj x).symm))
  bg:=fun x=> hgr (Option.some.inj x).symm
  lb:=fun k hk x=> fresh_ne hp hbl h.ol (hk.trans x.symm)
  nb:=fun k hk x=> fresh_ne hp hbn h.on (hk.trans x.symm)
  mn:=(zDm hp h.ob h.mn).kept hs (fun x=> h.mn.ne_blk h.blk (Option.some.inj x).symm)
  mp:=(zDm hp h.ob h.mp).kept hs (fun x=> h.mp.ne_blk h.blk (Option.some.inj x).symm)
  mb:=(zDm hp h.ob h.mb).kept hs (fun x=> h.mb.ne_blk h.blk (Option.some.inj x).symm)}
end
end
section
open Go.RowKit Go.Maps
def brN (bs:List ByteArray) (e:El):List ByteArray:=if isBr e=true then bs++ [e.name] else bs
theorem brN_yes {bs:List ByteArray} {e:El} (h:isBr e=true):brN bs e=bs++ [e.name]:=by unfold brN;rw [if_pos h]
theorem brN_no {bs:List ByteArray} {e:El} (h:isBr e=false):brN bs e=bs:=by unfold brN;rw [if_neg (by rw [h];decide)]
theorem fr_ok {e:El} (h:e.Ok) {s:ByteArray} (hs:s∈fr e):s.size≤maxLen:=by
 simp only [fr,List.mem_cons,List.not_mem_nil,or_false] at hs;rcases hs with rfl | rfl | rfl | rfl
 · exact h.a
 · exact h.b
 · exact h.c
 · exact h.d
theorem zCi {w w1:World} {o:Obj} {v:Value} {g:Nat} (h:(v.ownBlock=some g∧(w.alloc o).grownBy w1 (some g))∨(g=(w.alloc o).heap.size∧(w.alloc o).grownBy w1 none)):zFi w w1 v g:=
 h.imp (fun x=> ⟨x.1,zBt x.2⟩) (fun x=> ⟨by have:=x.1;simp at this;omega,zBt x.2⟩)
theorem drew_or {w w1:World} {v:Value} {g:Nat} (h:(v.ownBlock=some g∧w.drew.grownBy w1 (some g))∨(g=w.drew.heap.size∧w.drew.grownBy w1 none)):(v.ownBlock=some g∧w.grownBy w1 (some g))∨(g=w.heap.size∧w.grownBy w1 none):=
 h.imp (fun x=> ⟨x.1,zCa x.2⟩) (fun x=> ⟨x.1,zCa x.2⟩)
theorem pushed_grown {w w1:World} {v:Value} {g:Nat} (h:zFi w w1 v g):w.grownBy w1 v.ownBlock:=by
 rcases h with ⟨h1,h2⟩ | ⟨_,h2⟩
 · rw [h1];exact h2
 · exact ⟨h2.os,h2.tape,h2.output,h2.size,fun k hk _=> h2.block k hk (by simp)⟩
theorem pushed_drew {w w1:World} {v:Value} {g:Nat} (h:zFi w.drew w1 v g):zFi w w1 v g:=
 h.imp (fun x=> ⟨x.1,zCa x.2⟩) (fun x=> ⟨x.1,zCa x.2⟩)
theorem put_any (e:El) (w:World) {B g bn bp bb:Nat} {vl vn vb:Value} {l:List El} {ns N bs:List ByteArray} (h:NetAt B w g vl vn vb bn bp bb l ns N N bs bs)
 (hB:B≤w.heap.size) (he:e.Ok) (hl:l.length≤100000) (hns:ns.length=l.length) (hN:N.length≤400000) (hbs:bs.length≤100000) (hn:has ns e.name=false) (hb:has bs e.name=false):
 Calls Tryz.prog 19 #[.pointer (some ⟨g,0,none⟩),.agg #[.int .u8 e.kind,.string e.name,.string e.a,.string e.b,.string e.c,.string e.d,.float .f64 e.val,.int .i64 e.ph]] w fun en w'=> en=.returned (.tuple #[])∧Below B w w'∧
  ∃vl' vn' vb',NetAt B w' g vl' vn' vb' bn bp bb (l++ [e]) (ns++ [e.name]) (nd4 N e) (nd4 N e) (brN bs e) (brN bs e):=by
 obtain ⟨i0,hi,hz0,hz1,hz2⟩:=info_parts infoSt;obtain ⟨iu,hiu,hu0,hu1,hu2⟩:=info_parts zFh;have law:Keyed Tryz.prog 9 :=string_keyed Tryz.underlying9;have hmm:=@run_makeMap Tryz.prog;obtain ⟨al,cl,rfl⟩:=(IsSl.of_own h.ol).form;obtain ⟨an,cn,rfl⟩:=(IsSl.of_own h.on).form;obtain ⟨ab,cb,rfl⟩:=(IsSl.of_own h.ob).form;go_enter Tryz.func19,Tryz.ntmps19;go_upto_region 1 with fail;have h1:=h.alloc (.cells #[.int .u8 e.kind,.string e.name,.string e.a,.string e.b,.string e.c,.string e.d,.float .f64 e.val,.int .i64 e.ph] 48);have hA:=heap_alloc_new w (.cells #[.int .u8 e.kind,.string e.name,.string e.a,.string e.b,.string e.c,.string e.d,.float .f64 e.val,.int .i64 e.ph] 48);have hB1:Below B w (w.alloc (.cells #[.int .u8 e.kind,.string e.name,.string e.a,.string e.b,.string e.c,.string e.d,.float .f64 e.val,.int .i64 e.ph] 48)):=(Below.refl _ w).alloc hB _;generalize w.alloc (.cells #[.int .u8 e.kind,.string e.name,.string e.a,.string e.b,.string e.c,.string e.d,.float .f64 e.val,.int .i64 e.ph] 48)=w1 at *;obtain ⟨hgc,_⟩:=zAb h1.blk;obtain ⟨hac,_⟩:=zAb hA;have g1:=hgc 1 _ rfl;have g2:=hgc 2 _ rfl;have a1:=hac 1 _ rfl;have HH:=hid h1;have HA:=hid hA;have HB1:=hid hB1;have HE:=hid he;have HGW:=hid (show g≠w.heap.size from Nat.ne_of_lt (Array.getElem?_eq_some_iff.1 h.blk).1);have HNB:=hid (show (Value.slice al l.length cl).ownBlock≠some w.heap.size from fun x=> Nat.lt_irrefl _ (h.ol.lt _ x).2);have HNN:=hid (show (Value.slice an N.length cn).ownBlock≠some w.heap.size from fun x=> Nat.lt_irrefl _ (h.on.lt _ x).2);have HNC:=hid (show (Value.slice ab bs.length cb).ownBlock≠some w.heap.size from fun x=> Nat.lt_irrefl _ (h.ob.lt _ x).2);obtain ⟨D,hown,hD⟩:=h1.mn;have HD:=hid hD;have HOWN:=hid hown;clear hgc hac hA hB1 hown hD h h1
 go_still_tail 11,(by kernel_rfl)
 change wpList _ _ _ _ _ w1.drew;go_upto_region 2 with (at_mapUpdate;go_loud (refine wpList_mapUpdate_own _ rfl _ _ _ 58 rfl 9 3 law Tryz.underlying58 _ bn ns.length D rfl HOWN.out.drew (by unfold maxLen;omega) _ _ _ rfl rfl (WideMaps.keyOf_string_mk Tryz.underlying9 HE.out.name) _ [] (plainElem_int Tryz.underlying3 (WalkArith.wf_i64 ⟨by omega,by omega⟩)) ?_;intro w2 hown2 hgr2));have h2:NetAt B w2 g (.slice al l.length cl) (.slice an N.length cn) (.slice ab bs.length cb) bn bp bb l (ns++ [e.name]) N N bs bs:=HH.out.drew.names hgr2 ⟨_,by rw [List.length_append];exact hown2,by have:=zGu HD.out hn;rwa [hns] at this⟩;have hA2:w2.heap[w.heap.size]? =some (.cells #[.int .u8 e.kind,.string e.name,.string e.a,.string e.b,.string e.c,.string e.d,.float .f64 e.val,.int .i64 e.ph] 48):=(hgr2.block _ (Array.getElem?_eq_some_iff.1 HA.out).1 (by simpa using HH.out.mn.ne_blk HA.out)).trans HA.out;have hB2:Below B w w2:=(HB1.out.drew).grown hgr2 (Nat.le_trans hB HB1.out.size) (by intro k x;cases x;exact HH.out.bnB);clear hown2 hgr2 HOWN HD HA HB1 HH g1 g2 a1;obtain ⟨hgc2,fg2⟩:=zAb h2.blk;obtain ⟨hac2,_⟩:=zAb hA2;have c1:=hgc2 1 _ rfl;have b0:=hac2 0 _ rfl;have b1:=hac2 1 _ rfl;have b2:=hac2 2 _ rfl;have b3:=hac2 3 _ rfl;have b4:=hac2 4 _ rfl;have b5:=hac2 5 _ rfl;have b6:=hac2 6 _ rfl;have b7:=hac2 7 _ rfl;have H2:=hid h2;have HA2:=hid hA2;have HB2:=hid hB2;have ca:∀o:Obj,(w2.alloc o).cell? ⟨g,1,none⟩=some (.slice al l.length cl):=fun o=> (World.cell?_alloc_some w2 ⟨g,1,none⟩ o (by rw [c1];rfl)).trans c1
 have n1:=World.new_ne w2 ⟨g,1,none⟩ c1;have n2:=World.new_ne w2 ⟨w.heap.size,0,none⟩ b0;have n3:¬g=w2.heap.size:=by have:=(Array.getElem?_eq_some_iff.1 h2.blk).1;omega
 have n4:¬w.heap.size=w2.heap.size:=by have:=(Array.getElem?_eq_some_iff.1 hA2).1;omega
 clear hgc2 hac2 h2 hA2 hB2
 (try simp only [Act.put])
 go_cut [26] (fun s26 wx=> NetAt B wx g s26 (.slice an N.length cn) (.slice ab bs.length cb) bn bp bb (l++ [e]) (ns++ [e.name]) N N bs bs∧Below B w wx∧wx.heap[w.heap.size]? =some (.cells #[.int .u8 e.kind,.string e.name,.string e.a,.string e.b,.string e.c,.string e.d,.float .f64 e.val,.int .i64 e.ph] 48))
 case first=>
  go_region_law
   ((refine zDe rfl _ _ _ rfl B 48 8 104 iu (.agg #[.int .u8 0,.string ⟨#[]⟩,.string ⟨#[]⟩,.string ⟨#[]⟩,.string ⟨#[]⟩,.string ⟨#[]⟩,.float .f64 0,.int .i64 0]) Tryz.underlying26 hiu hu0 hu1 hu2 rfl _ l.length _ (by exact World.ownsRow.alloc H2.out.ol _) _ 1 1 (ea e) rfl rfl rfl (by exact news_new) (ea_one e) (by decide) (by simp [maxLen];omega) (by omega) (by have:=HB2.out.size;simp;omega) ?_;intro r1 cap1 w3 hown3 hlt3 hgr3;have HG3:=hid (show w2.grownBy w3 (Value.slice al l.length cl).ownBlock from (by first | exact zBt (zCa (zBu (v:=Value.slice al l.length cl) hgr3)) | exact zCa (zBt (zBu (v:=Value.slice al l.length cl) hgr3)) | exact zBt (zBu (v:=Value.slice al l.length cl) hgr3)));have HK3:=(HG3.out.block g (Array.getElem?_eq_some_iff.1 H2.out.blk).1 (fun x=> H2.out.lg x.symm)).trans H2.out.blk;have fz:=(zAb HK3).2 1;have z1:=(zAb HK3).1 1 _ rfl;clear HK3;have HO3:=hid hown3;have HP:=hid (show zFi w2 w3 (Value.slice al l.length cl) r1 from (by first | exact zCi hgr3 | exact zCi (drew_or hgr3) | exact pushed_drew (zCi hgr3)));clear hgr3 hown3))
  all_goals (go_wp2_with fail)
  all_goals go_meet
  all_goals
   exact ⟨H2.out.pushL (e:=e) HO3.out HP.out,(HB2.out.grown HG3.out (by have:=HB2.out.size;omega) (fun k x=> (H2.out.ol.lt _ x).1)).setCell H2.out.gB _,
    (Below.heap_setCell _ _ _ _ (fun x=> HGW.out x.symm)).trans ((HG3.out.block _ (Array.getElem?_eq_some_iff.1 HA2.out).1 (fun x=> HNB.out x.symm)).trans HA2.out)⟩
 case rest=>
  obtain ⟨hN2,hB3,hA3⟩:=hcut;obtain ⟨al2,cl2,h26⟩:=(IsSl.of_own hN2.ol).form;obtain ⟨nl2,hn2⟩:∃n2,n2=(l++ [e]).length:=⟨_,rfl⟩;rw [←hn2] at h26;clear hn2;subst h26;have hgl:=Array.getElem?_eq_some_iff.1 hN2.blk |>.1;obtain ⟨hac3,_⟩:=zAb hA3;have b2':=hac3 2 _ rfl;have b3':=hac3 3 _ rfl;have b4':=hac3 4 _ rfl;have b5':=hac3 5 _ rfl;clear hac3 c1 b0 b1 b2 b3 b4 b5 b6 b7 ca n1 n2 n3 n4 fg2 H2 HA2 HB2;go_upto_region 4 with fail;have hF:(wc.alloc (.cells #[.string e.a,.string e.b,.string e.c,.string e.d] 9)).heap[wc.heap.size]? =_:=heap_alloc_new wc _;have hN3:=hN2.alloc (.cells #[.string e.a,.string e.b,.string e.c,.string e.d] 9);have hB4:=hB3.alloc (Nat.le_trans hB hB3.size) (.cells #[.string e.a,.string e.b,.string e.c,.string e.d] 9);have hA4:=heap_past_of (o':=.cells #[.string e.a,.string e.b,.string e.c,.string e.d] 9) hA3;have hgf:g≠wc.heap.size:=Nat.ne_of_lt hgl;have hbf:w.heap.size≠wc.heap.size:=Nat.ne_of_lt (Array.getElem?_eq_some_iff.1 hA3).1;have hnf:(Value.slice an N.length cn).ownBlock≠some wc.heap.size:=fun x=> Nat.lt_irrefl _ (hN2.on.lt _ x).2
  generalize wc.alloc (.cells #[.string e.a,.string e.b,.string e.c,.string e.d] 9)=w5 at *;generalize wc.heap.size=gf at *;have H0:=hid hN3;have HB0:=hid hB4;have HA0:=hid hA4;have HF0:=hid hF;have HGF:=hid hgf;have HBF:=hid hbf;have HNF:=hid hnf;clear hN2 hB3 hA3 hN3 hB4 hA4 hF hgf hbf hnf b2' b3' b4' b5' hgl
  go_loopw [39] (fun i wr=> ∃ (q:Nat) (vn':Value),q≤4∧i=.int .i64 q∧NetAt B wr g (.slice al2 nl2 cl2) vn' (.slice ab bs.length cb) bn bp bb (l++ [e]) (ns++ [e.name]) (((fr e).take q).foldl nd1 N) (((fr e).take q).foldl nd1 N) bs bs∧Below B w wr∧wr.heap[w.heap.size]? =some (.cells #[.int .u8 e.kind,.string e.name,.string e.a,.string e.b,.string e.c,.string e.d,.float .f64 e.val,.int .i64 e.ph] 48)∧wr.heap[gf]? =some (.cells #[.string e.a,.string e.b,.string e.c,.string e.d] 9)∧vn'.ownBlock≠some gf∧vn'.ownBlock≠some w.heap.size) (fun i _=> 4 - (intOf i).toNat)
  case atStart=> exact ⟨0,_,Nat.zero_le _,rfl,H0.out,HB0.out,HA0.out,HF0.out,HNF.out,HNN.out⟩
  case round=>
   obtain ⟨q,vn',hq,rfl,hN,hBr,hAr,hFr,hnf,hnb⟩:=hrel;obtain ⟨wo,rfl⟩:∃wo:World,wo=wr:=⟨_,rfl⟩;obtain ⟨an2,cn2,rfl⟩:=(IsSl.of_own hN.on).form
   by_cases hlt:q < 4
   · obtain ⟨s,hs⟩:∃s,(fr e)[q]? =some s:=⟨_,List.getElem?_eq_getElem (by rw [fr_len];omega)⟩;have hcq:=(zAb hFr).1 q (.string s) (by rw [←Array.getElem?_toList];show (sts (fr e))[q]? =_;rw [sts,List.getElem?_map,hs];rfl);have hsz:=fr_ok HE.out (List.mem_of_getElem? hs);have hd:decide ((q:Int) < 4)=true:=by simp;omega
     have hfold:=fold_snoc hs N;have hlen2:(((fr e).take q).foldl nd1 N).length≤N.length+4:=by
      have h1:=fold_len ((fr e).take q) N;have h2:((fr e).take q).length≤4:=by rw [List.length_take];omega
      omega
     generalize ((fr e).take q).foldl nd1 N=M at *;obtain ⟨D,hown,hD⟩:=hN.mp;have hm:=hD.2 s;obtain ⟨hgc,_⟩:=zAb hN.blk;have g4:=hgc 4 _ rfl;go_upto_region 7 with (at_lookup;go_loud (refine wpList_lookup_own_ok_int _ rfl _ _ 58 rfl 9 3 .i64 law Tryz.underlying58 Tryz.underlying3 (zeroInt _) bp _ D rfl hown _ _ rfl (WideMaps.keyOf_string_mk Tryz.underlying9 hsz) ?_;intro c hat hwc));have hh:Maps.has D (Lit.string s.data.toList)=has M s:=hm.2;rw [hh];have HFOLD:=hid hfold;clear hh hm hown hD hfold hat hwc;have HN:=hid hN;have HBR:=hid hBr;have HAR:=hid hAr;have HFR:=hid hFr;have HNF2:=hid hnf;have HNB2:=hid hnb;clear hBr hAr hFr hnf hnb hgc hN;cases hb:has M s
     · have HH:=hid hb;clear hb;rcases gnd_ways s with ⟨h1,h0⟩ | ⟨h1,g1,h2,h0⟩ | ⟨h1,g1,h2,g2',h0⟩
       · have H0:=hid h0;clear h0;go_wp2_with fail;go_roundw
         case rel=> exact ⟨q+1,_,by omega,by go_num,by rw [HFOLD.out,nd1_yes (by rw [H0.out];rfl)];exact HN.out,HBR.out,HAR.out,HFR.out,HNF2.out,HNB2.out⟩
         case measure=> simp [intOf];omega
       · have H0:=hid h0;clear h0;go_wp2_with fail;go_roundw
         case rel=> exact ⟨q+1,_,by omega,by go_num,by rw [HFOLD.out,nd1_yes (by rw [H0.out];rfl)];exact HN.out,HBR.out,HAR.out,HFR.out,HNF2.out,HNB2.out⟩
         case measure=> simp [intOf];omega
       · have H0:=hid h0;clear h0;go_upto_region 8 with fail;obtain ⟨D2,hown2,hD2⟩:=HN.out.mp;have HOWN2:=hid hown2;have HD2:=hid hD2;have g3:=(zAb HN.out.blk).1 3 _ rfl;clear hown2 hD2
         go_still_tail 10,(by kernel_rfl)
         change wpList _ _ _ _ _ wo.drew;go_upto_region 9 with (at_mapUpdate;go_loud (refine wpList_mapUpdate_own _ rfl _ _ _ 58 rfl 9 3 law Tryz.underlying58 _ bp M.length D2 rfl HOWN2.out.drew (by unfold maxLen;omega) _ _ _ rfl rfl (WideMaps.keyOf_string_mk Tryz.underlying9 hsz) _ [] (plainElem_int Tryz.underlying3 (WalkArith.wf_i64 ⟨by omega,by omega⟩)) ?_;intro w6 hown6 hgr6));have h6:NetAt B w6 g (.slice al2 nl2 cl2) (.slice an2 M.length cn2) (.slice ab bs.length cb) bn bp bb (l++ [e]) (ns++ [e.name]) M (M++ [s]) bs bs:=HN.out.drew.places hgr6 ⟨_,by rw [List.length_append];exact hown6,zGu HD2.out HH.out⟩;have hA6:=(hgr6.block _ (Array.getElem?_eq_some_iff.1 HAR.out).1 (by simpa using HN.out.mp.ne_blk HAR.out)).trans HAR.out;have hF6:=(hgr6.block _ (Array.getElem?_eq_some_iff.1 HFR.out).1 (by simpa using HN.out.mp.ne_blk HFR.out)).trans HFR.out;have hB6:Below B w w6:=(HBR.out.drew).grown hgr6 (Nat.le_trans hB HBR.out.size) (by intro k x;cases x;exact HN.out.bpB);clear hown6 hgr6 HOWN2 HD2 HAR HFR HBR HN g3 g4 hcq;obtain ⟨hgc6,_⟩:=zAb h6.blk;have c3:=hgc6 3 _ rfl;have H6:=hid h6;have HA6:=hid hA6;have HF6:=hid hF6;have HB6:=hid hB6;have hown6:=h6.on;have hsz6:B≤w6.heap.size:=Nat.le_trans hB hB6.size;clear h6 hA6 hF6 hB6 hgc6
         (try simp only [Act.put])
         go_wp2_with (refine zBj rfl rfl _ rfl _ _ _ rfl rfl B 9 1 16 i0 (.string ⟨#[]⟩) Tryz.underlying45 hi hz0 hz1 hz2 rfl (by decide) (by decide) _ M.length _ hown6 hsz6 (.string s) rfl rfl (by intro u hu;simp [Value.cells] at hu;subst hu;rfl) rfl rfl (by simp [maxLen];omega) (by omega) ?_;intro r1 cap1 w3 hown3 hlt3 htwo;have HO3:=hid hown3;have HP:=hid (show zFi w6 w3 (Value.slice an2 M.length cn2) r1 from htwo);have HK3:=zFs HP.out H6.out.ng H6.out.blk;have fz:=(zAb HK3).2 3;have z1:=(zAb HK3).1 3 _ rfl;clear HK3 htwo hown3);go_roundw
         case rel=>
          exact ⟨q+1,.slice (some ⟨r1,0,none⟩) (M.length+1) cap1,by omega,by go_num,by rw [HFOLD.out,nd1_no (by rw [H0.out,HH.out];rfl)];exact H6.out.pushN HO3.out HP.out,(HB6.out.grown (pushed_grown HP.out) (Nat.le_trans hB HB6.out.size) (fun k x=> (H6.out.on.lt _ x).1)).setCell H6.out.gB _,
           (Below.heap_setCell _ _ _ _ (fun x=> HGW.out x.symm)).trans (zFs HP.out HNB2.out HA6.out),
           (Below.heap_setCell _ _ _ _ (fun x=> HGF.out x.symm)).trans (zFs HP.out HNF2.out HF6.out),
           fun x=> fresh_blk HP.out HNF2.out (Array.getElem?_eq_some_iff.1 HF6.out).1 (Option.some.inj x).symm,fun x=> fresh_blk HP.out HNB2.out (Array.getElem?_eq_some_iff.1 HA6.out).1 (Option.some.inj x).symm⟩
         case measure=> simp [intOf];omega
     · have HH:=hid hb;clear hb;go_wp2_with fail;go_roundw
       case rel=> exact ⟨q+1,_,by omega,by go_num,by rw [HFOLD.out,nd1_yes (by rw [HH.out];simp)];exact HN.out,HBR.out,HAR.out,HFR.out,HNF2.out,HNB2.out⟩
       case measure=> simp [intOf];omega
   · obtain rfl:q=4:=by omega
     obtain ⟨vn4,hN4⟩:∃v,NetAt B wo g (.slice al2 nl2 cl2) v (.slice ab bs.length cb) bn bp bb (l++ [e]) (ns++ [e.name]) (nd4 N e) (nd4 N e) bs bs:=⟨_,hN⟩;obtain ⟨hac4,_⟩:=zAb hAr;have b0:=hac4 0 _ rfl;have b1:=hac4 1 _ rfl;obtain ⟨hgc4,_⟩:=zAb hN4.blk;have c5:=hgc4 5 _ rfl;have c6:=hgc4 6 _ rfl;obtain ⟨D3,hown3,hD3⟩:=hN4.mb;have HN:=hid hN4;have HBR:=hid hBr;have HAR:=hid hAr;have HOWN3:=hid hown3;have HD3:=hid hD3;clear hN4 hN hBr hAr hFr hnf hnb hac4 hgc4 hown3 hD3;rcases br_ways e with ⟨h1,h0⟩ | ⟨h1,h2,h0⟩ | ⟨h1,h2,h0⟩
     · skip;have H0:=hid h0;clear h0;go_upto_region 12 with fail
       go_still_tail 11,(by kernel_rfl)
       change wpList _ _ _ _ _ wo.drew;go_upto_region 13 with (at_mapUpdate;go_loud (refine wpList_mapUpdate_own _ rfl _ _ _ 58 rfl 9 3 law Tryz.underlying58 _ bb bs.length D3 rfl HOWN3.out.drew (by unfold maxLen;omega) _ _ _ rfl rfl (WideMaps.keyOf_string_mk Tryz.underlying9 HE.out.name) _ [] (plainElem_int Tryz.underlying3 (WalkArith.wf_i64 ⟨by omega,by omega⟩)) ?_;intro w7 hown7 hgr7));have h7:NetAt B w7 g (.slice al2 nl2 cl2) vn4 (.slice ab bs.length cb) bn bp bb (l++ [e]) (ns++ [e.name]) (nd4 N e) (nd4 N e) bs (bs++ [e.name]):=HN.out.drew.branch hgr7 ⟨_,by rw [List.length_append];exact hown7,zGu HD3.out hb⟩;have hA7:=(hgr7.block _ (Array.getElem?_eq_some_iff.1 HAR.out).1 (by simpa using HN.out.mb.ne_blk HAR.out)).trans HAR.out;have hB7:Below B w w7:=(HBR.out.drew).grown hgr7 (Nat.le_trans hB HBR.out.size) (by intro k x;cases x;exact HN.out.bbB);clear hown7 hgr7 HOWN3 HD3 HAR HBR HN b0 b1 c5 c6;obtain ⟨hgc7,_⟩:=zAb h7.blk;have c5:=hgc7 5 _ rfl;have b1:=(zAb hA7).1 1 _ rfl;have ca:∀o:Obj,(w7.alloc o).cell? ⟨g,5,none⟩=some (.slice ab bs.length cb):=fun o=> (World.cell?_alloc_some w7 ⟨g,5,none⟩ o (by rw [c5];rfl)).trans c5
       have n1:=World.new_ne w7 ⟨g,5,none⟩ c5;have n2':=World.new_ne w7 ⟨w.heap.size,1,none⟩ b1;have n3:¬g=w7.heap.size:=by have:=(Array.getElem?_eq_some_iff.1 h7.blk).1;omega
       have n4:¬w.heap.size=w7.heap.size:=by have:=(Array.getElem?_eq_some_iff.1 hA7).1;omega
       have H7:=hid h7;have HB7:=hid hB7;clear h7 hA7 hB7 hgc7
       (try simp only [Act.put])
       go_region_law
        ((refine zDe rfl _ _ _ rfl B 9 1 16 i0 (.string ⟨#[]⟩) Tryz.underlying45 hi hz0 hz1 hz2 rfl _ bs.length _ (by exact World.ownsRow.alloc H7.out.ob _) _ 1 1 [.string e.name] rfl rfl rfl (by exact news_new) (by intro u hu;rw [List.mem_singleton.1 hu];rfl) (by decide) (by simp [maxLen];omega) (by omega) (by have:=HB7.out.size;simp;omega) ?_;intro r1 cap1 w3 hown3 hlt3 hgr3;have HG3:=hid (show w7.grownBy w3 (Value.slice ab bs.length cb).ownBlock from (by first | exact zBt (zCa (zBu (v:=Value.slice ab bs.length cb) hgr3)) | exact zCa (zBt (zBu (v:=Value.slice ab bs.length cb) hgr3)) | exact zBt (zBu (v:=Value.slice ab bs.length cb) hgr3)));have HK3:=(HG3.out.block g (Array.getElem?_eq_some_iff.1 H7.out.blk).1 (fun x=> H7.out.bg x.symm)).trans H7.out.blk;have fz:=(zAb HK3).2 5;have z1:=(zAb HK3).1 5 _ rfl;clear HK3;have HO3:=hid hown3;have HP:=hid (show zFi w7 w3 (Value.slice ab bs.length cb) r1 from (by first | exact zCi hgr3 | exact zCi (drew_or hgr3) | exact pushed_drew (zCi hgr3)));clear hgr3 hown3))
       all_goals (go_wp2_with fail)
       all_goals go_end0
       all_goals
        have hfin:=H7.out.pushB (s:=e.name) HO3.out HP.out;rw [←brN_yes (bs:=bs) H0.out] at hfin;have hbw:Below B w w3:=HB7.out.grown HG3.out (Nat.le_trans hB HB7.out.size) (fun k x=> (H7.out.ob.lt _ x).1);exact ⟨rfl,hbw.setCell H7.out.gB _,_,_,_,hfin⟩
     · skip;have H0:=hid h0;clear h0;go_upto_region 12 with fail
       go_still_tail 11,(by kernel_rfl)
       change wpList _ _ _ _ _ wo.drew;go_upto_region 13 with (at_mapUpdate;go_loud (refine wpList_mapUpdate_own _ rfl _ _ _ 58 rfl 9 3 law Tryz.underlying58 _ bb bs.length D3 rfl HOWN3.out.drew (by unfold maxLen;omega) _ _ _ rfl rfl (WideMaps.keyOf_string_mk Tryz.underlying9 HE.out.name) _ [] (plainElem_int Tryz.underlying3 (WalkArith.wf_i64 ⟨by omega,by omega⟩)) ?_;intro w7 hown7 hgr7));have h7:NetAt B w7 g (.slice al2 nl2 cl2) vn4 (.slice ab bs.length cb) bn bp bb (l++ [e]) (ns++ [e.name]) (nd4 N e) (nd4 N e) bs (bs++ [e.name]):=HN.out.drew.branch hgr7 ⟨_,by rw [List.length_append];exact hown7,zGu HD3.out hb⟩;have hA7:=(hgr7.block _ (Array.getElem?_eq_some_iff.1 HAR.out).1 (by simpa using HN.out.mb.ne_blk HAR.out)).trans HAR.out;have hB7:Below B w w7:=(HBR.out.drew).grown hgr7 (Nat.le_trans hB HBR.out.size) (by intro k x;cases x;exact HN.out.bbB);clear hown7 hgr7 HOWN3 HD3 HAR HBR HN b0 b1 c5 c6;obtain ⟨hgc7,_⟩:=zAb h7.blk;have c5:=hgc7 5 _ rfl;have b1:=(zAb hA7).1 1 _ rfl;have ca:∀o:Obj,(w7.alloc o).cell? ⟨g,5,none⟩=some (.slice ab bs.length cb):=fun o=> (World.cell?_alloc_some w7 ⟨g,5,none⟩ o (by rw [c5];rfl)).trans c5
       have n1:=World.new_ne w7 ⟨g,5,none⟩ c5;have n2':=World.new_ne w7 ⟨w.heap.size,1,none⟩ b1;have n3:¬g=w7.heap.size:=by have:=(Array.getElem?_eq_some_iff.1 h7.blk).1;omega
       have n4:¬w.heap.size=w7.heap.size:=by have:=(Array.getElem?_eq_some_iff.1 hA7).1;omega
       have H7:=hid h7;have HB7:=hid hB7;clear h7 hA7 hB7 hgc7
       (try simp only [Act.put])
       go_region_law
        ((refine zDe rfl _ _ _ rfl B 9 1 16 i0 (.string ⟨#[]⟩) Tryz.underlying45 hi hz0 hz1 hz2 rfl _ bs.length _ (by exact World.ownsRow.alloc H7.out.ob _) _ 1 1 [.string e.name] rfl rfl rfl (by exact news_new) (by intro u hu;rw [List.mem_singleton.1 hu];rfl) (by decide) (by simp [maxLen];omega) (by omega) (by have:=HB7.out.size;simp;omega) ?_;intro r1 cap1 w3 hown3 hlt3 hgr3;have HG3:=hid (show w7.grownBy w3 (Value.slice ab bs.length cb).ownBlock from (by first | exact zBt (zCa (zBu (v:=Value.slice ab bs.length cb) hgr3)) | exact zCa (zBt (zBu (v:=Value.slice ab bs.length cb) hgr3)) | exact zBt (zBu (v:=Value.slice ab bs.length cb) hgr3)));have HK3:=(HG3.out.block g (Array.getElem?_eq_some_iff.1 H7.out.blk).1 (fun x=> H7.out.bg x.symm)).trans H7.out.blk;have fz:=(zAb HK3).2 5;have z1:=(zAb HK3).1 5 _ rfl;clear HK3;have HO3:=hid hown3;have HP:=hid (show zFi w7 w3 (Value.slice ab bs.length cb) r1 from (by first | exact zCi hgr3 | exact zCi (drew_or hgr3) | exact pushed_drew (zCi hgr3)));clear hgr3 hown3))
       all_goals (go_wp2_with fail)
       all_goals go_end0
       all_goals
        have hfin:=H7.out.pushB (s:=e.name) HO3.out HP.out;rw [←brN_yes (bs:=bs) H0.out] at hfin;have hbw:Below B w w3:=HB7.out.grown HG3.out (Nat.le_trans hB HB7.out.size) (fun k x=> (H7.out.ob.lt _ x).1);exact ⟨rfl,hbw.setCell H7.out.gB _,_,_,_,hfin⟩
     · have H0:=hid h0;clear h0;go_wp2_with fail
       go_end0
       exact ⟨rfl,HBR.out,_,_,_,by rw [brN_no H0.out];exact HN.out⟩
end
end Go.Proofs.YtejooaeppcjhjaaGreat
