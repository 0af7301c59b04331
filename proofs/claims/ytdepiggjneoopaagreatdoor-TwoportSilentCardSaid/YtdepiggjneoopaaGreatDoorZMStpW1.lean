/- a part of the proof of the last text -/
import Derived.Test.YtdepiggjneoopaaGreatDoorZFits
namespace Go.Proofs.YtdepiggjneoopaaGreatDoor
set_option linter.all false
set_option maxHeartbeats 4000000
set_option maxRecDepth 100000
section
open Go.RowKit
def joinsE (x:El):Bool:=x.kind !=4 && x.kind !=6
def gIx (l:List El) (s:ByteArray):Nat:=if has (nds l) s=true then (plI (nds l) s).toNat+1 else 0
def rootF (up:List Nat):Nat→Nat→Nat
 | 0,k=> k
 | f+1,k=> if up.getD k 0=k then k else rootF up f (up.getD k 0)
def Fine (up:List Nat):Prop:=∀k,k < up.length→up.getD k 0≤k
def zBa (up:List Nat) (k:Nat):Nat:=rootF up (k+1) k
theorem rootF_more {up:List Nat} (h:Fine up):∀ (f g k:Nat),k < up.length→k < f→k < g→rootF up f k=rootF up g k
 | 0,_,_,_,h1,_=> by omega
 | _,0,_,_,_,h2=> by omega
 | f+1,g+1,k,hk,h1,h2=> by
  unfold rootF
  split
  · rfl
  · have:=h k hk;exact rootF_more h f g _ (by omega) (by omega) (by omega)
theorem zEj {up:List Nat} (h:Fine up) {k:Nat} (hk:k < up.length):zBa up k=if up.getD k 0=k then k else zBa up (up.getD k 0):=by
 have h1:=h k hk;show rootF up (k+1) k=_;unfold rootF
 split
 · rfl
 · exact rootF_more h _ _ _ (by omega) (by omega) (by omega)
theorem root_le {up:List Nat} (h:Fine up):∀ (k:Nat),k < up.length→zBa up k≤k:=by
 intro k
 induction k using Nat.strongRecOn with
 | _ k ih=>
  intro hk;rw [zEj h hk]
  split
  · omega
  · have:=h k hk;have:=ih (up.getD k 0) (by omega) (by omega)
    omega
theorem root_fix {up:List Nat} (h:Fine up):∀ (k:Nat),k < up.length→up.getD (zBa up k) 0=zBa up k:=by
 intro k
 induction k using Nat.strongRecOn with
 | _ k ih=>
  intro hk;rw [zEj h hk]
  split
  · assumption
  · have:=h k hk;exact ih _ (by omega) (by omega)
theorem getD_set {up:List Nat} {i j k:Nat} (hi:i < up.length):(up.set i j).getD k 0=if k=i then j else up.getD k 0:=by
 rw [List.getD_eq_getElem?_getD,List.getD_eq_getElem?_getD]
 by_cases e:k=i
 · subst e;rw [List.getElem?_set_self hi,if_pos rfl];rfl
 · rw [List.getElem?_set_ne (Ne.symm e),if_neg e]
theorem fine_set {up:List Nat} {i j:Nat} (h:Fine up) (hi:i < up.length) (hj:j≤i):Fine (up.set i j):=fun k hk=> by
 rw [getD_set hi]
 split
 · omega
 · exact h k (by simpa using hk)
theorem root_set {up:List Nat} {i j:Nat} (h:Fine up) (hi:i < up.length) (hj:j≤i) (fi:up.getD i 0=i) (fj:up.getD j 0=j):
 ∀ (k:Nat),k < up.length→zBa (up.set i j) k=if zBa up k=i then j else zBa up k:=by
 have h':=fine_set h hi hj;have hlen:(up.set i j).length=up.length:=by simp
 have hroot_j:zBa (up.set i j) j=j:=by
  rw [zEj h' (by omega),getD_set hi]
  by_cases e:j=i
  · rw [if_pos e,if_pos rfl]
  · rw [if_neg e,if_pos fj]
 intro k
 induction k using Nat.strongRecOn with
 | _ k ih=>
  intro hk;rw [zEj h' (by omega),zEj h hk,getD_set hi]
  by_cases e:k=i
  · subst e;rw [if_pos rfl,if_pos fi,if_pos rfl]
    by_cases e2:j=k
    · rw [if_pos e2,e2]
    · rw [if_neg e2,hroot_j]
  · rw [if_neg e]
    by_cases e2:up.getD k 0=k
    · rw [if_pos e2,if_pos e2,if_neg e]
    · rw [if_neg e2,if_neg e2];have:=h k hk;exact ih _ (by omega) (by omega)
def joinU (up:List Nat) (a b:Nat):List Nat:=up.set (max (zBa up a) (zBa up b)) (min (zBa up a) (zBa up b))
theorem joinU_ok {up:List Nat} (h:Fine up) {a b:Nat} (ha:a < up.length) (hb:b < up.length):Fine (joinU up a b)∧(joinU up a b).length=up.length∧
 ∀k,k < up.length→zBa (joinU up a b) k=if zBa up k=max (zBa up a) (zBa up b) then min (zBa up a) (zBa up b) else zBa up k:=by
 have r1:=root_le h a ha;have r2:=root_le h b hb;have f1:=root_fix h a ha;have f2:=root_fix h b hb;have hmx:up.getD (max (zBa up a) (zBa up b)) 0=max (zBa up a) (zBa up b):=by
  rcases Nat.le_total (zBa up a) (zBa up b) with e | e
  · rw [Nat.max_eq_right e];exact f2
  · rw [Nat.max_eq_left e];exact f1
 have hmn:up.getD (min (zBa up a) (zBa up b)) 0=min (zBa up a) (zBa up b):=by
  rcases Nat.le_total (zBa up a) (zBa up b) with e | e
  · rw [Nat.min_eq_left e];exact f1
  · rw [Nat.min_eq_right e];exact f2
 exact ⟨fine_set h (by omega) (by omega),by simp [joinU],fun k hk=> root_set h (by omega) (by omega) hmx hmn k hk⟩
def joinP (p:List Nat) (a b:Nat):List Nat:=p.map fun x=> if x=p.getD a 0 then p.getD b 0 else x
theorem joinP_get {p:List Nat} {a b k:Nat} (hk:k < p.length):(joinP p a b).getD k 0=if p.getD k 0=p.getD a 0 then p.getD b 0 else p.getD k 0:=by
 unfold joinP;rw [List.getD_eq_getElem?_getD,List.getElem?_map,List.getElem?_eq_getElem hk,List.getD_eq_getElem?_getD (l:=p) (i:=k),List.getElem?_eq_getElem hk];rfl
structure Alike (up p:List Nat):Prop where
 fine:Fine up
 len:p.length=up.length
 same:∀a b,a < up.length→b < up.length→(zBa up a=zBa up b ↔ p.getD a 0=p.getD b 0)
theorem Alike.join {up p:List Nat} (h:Alike up p) {a b:Nat} (ha:a < up.length) (hb:b < up.length):Alike (joinU up a b) (joinP p a b):=by
 obtain ⟨h1,h2,h3⟩:=joinU_ok h.fine ha hb;refine ⟨h1,by simp [joinP,h2,h.len],fun x y hx hy=> ?_⟩;rw [h2] at hx hy;rw [h3 x hx,h3 y hy,joinP_get (by rw [h.len];exact hx),joinP_get (by rw [h.len];exact hy)];have xa:=h.same x a hx ha;have xb:=h.same x b hx hb;have ya:=h.same y a hy ha;have yb:=h.same y b hy hb;have xy:=h.same x y hx hy;generalize zBa up x=rx at *;generalize zBa up y=ry at *;generalize zBa up a=ra at *;generalize zBa up b=rb at *;generalize p.getD x 0=px at *;generalize p.getD y 0=py at *;generalize p.getD a 0=pa at *;generalize p.getD b 0=pb at *;have L1:∀r:Nat,(if r=max ra rb then min ra rb else r)=(if r=ra∨r=rb then min ra rb else r):=fun r=> by split <;> split <;> omega
 have L2:∀q:Nat,(if q=pa then pb else q)=(if q=pa∨q=pb then pb else q):=fun q=> by split <;> split <;> omega
 rw [L1,L1,L2,L2];have cx:(rx=ra∨rx=rb) ↔ (px=pa∨px=pb):=or_congr xa xb;have cy:(ry=ra∨ry=rb) ↔ (py=pa∨py=pb):=or_congr ya yb
 by_cases hx1:rx=ra∨rx=rb <;> by_cases kL:ry=ra∨ry=rb
 · rw [if_pos hx1,if_pos kL,if_pos (cx.1 hx1),if_pos (cy.1 kL)];simp
 · have hy2:=fun h=> kL (cy.2 h)
   rw [if_pos hx1,if_neg kL,if_pos (cx.1 hx1),if_neg hy2]
   constructor <;> intro h <;> omega
 · have oX:=fun h=> hx1 (cx.2 h)
   rw [if_neg hx1,if_pos kL,if_neg oX,if_pos (cy.1 kL)]
   constructor <;> intro h <;> omega
 · rw [if_neg hx1,if_neg kL,if_neg (fun h=> hx1 (cx.2 h)),if_neg (fun h=> kL (cy.2 h))];exact xy
def upK (l:List El):Nat→List Nat
 | 0=> List.range ((nds l).length+1)
 | k+1=> match l[k]? with
  | some x=> if joinsE x=true then joinU (upK l k) (gIx l x.a) (gIx l x.b) else upK l k
  | none=> upK l k
def ptK (l:List El):Nat→List Nat
 | 0=> List.range ((nds l).length+1)
 | k+1=> match l[k]? with
  | some x=> if joinsE x=true then joinP (ptK l k) (gIx l x.a) (gIx l x.b) else ptK l k
  | none=> ptK l k
theorem gIx_lt (l:List El) (s:ByteArray):gIx l s < (nds l).length+1:=by
 unfold gIx
 split
 · rename_i h;unfold plI;rw [if_pos h];have:(nds l).findIdx (fun t=> t.toList==s.toList) < (nds l).length:=by
    rw [List.findIdx_lt_length];unfold has at h
    simpa using h
   omega
 · omega
theorem range_getD {n k:Nat} (h:k < n):(List.range n).getD k 0=k:=by
 rw [List.getD_eq_getElem?_getD,List.getElem?_range h];rfl
theorem fine_range (n:Nat):Fine (List.range n):=fun k hk=> by rw [range_getD (by simpa using hk)];exact Nat.le_refl _
theorem root_range {n k:Nat} (h:k < n):zBa (List.range n) k=k:=by
 rw [zEj (fine_range n) (by simpa using h),range_getD h,if_pos rfl]
theorem upK_len (l:List El):∀k,Alike (upK l k) (ptK l k)∧(upK l k).length=(nds l).length+1
 | 0=> ⟨⟨fine_range _,by simp [upK,ptK],fun a b ha hb=> by
  simp only [upK,List.length_range] at ha hb;simp only [upK,ptK];rw [root_range ha,root_range hb,range_getD ha,range_getD hb]⟩,by simp [upK]⟩
 | k+1=> by
  obtain ⟨h1,h2⟩:=upK_len l k;unfold upK ptK;cases hx:l[k]? with
  | none=> exact ⟨h1,h2⟩
  | some x=>
   simp only
   split
   · have ha:gIx l x.a < (upK l k).length:=by rw [h2];exact gIx_lt l _
     have hb:gIx l x.b < (upK l k).length:=by rw [h2];exact gIx_lt l _
     exact ⟨h1.join ha hb,by rw [(joinU_ok h1.fine ha hb).2.1,h2]⟩
   · exact ⟨h1,h2⟩
def grdU (l:List El):Option Nat:=(List.range (nds l).length).find? fun i=> zBa (upK l l.length) (i+1) !=0
def grdS (b:Bool) (l:List El):Int × Int:=if b=true then (1,-1) else match grdU l with
 | some i=> (11,i)
 | none=> (0,0)
end
section
open Go.RowKit
def gnds (l:List El):List ByteArray:=⟨#[48]⟩::nds l
theorem zDe (l:List El):(gnds l).length=(nds l).length+1:=by simp [gnds]
theorem gnds_take {l:List El} {k:Nat} {t:ByteArray} (h:(nds l)[k]? =some t):(gnds l).take (k+2)=(gnds l).take (k+1)++ [t]:=by
 unfold gnds;rw [List.take_succ_cons,List.take_succ_cons,List.take_add_one,h];rfl
theorem nd1_gnd {acc:List ByteArray} {s t:ByteArray} (hs:gnd s=true) (h:has acc s=false):has (nd1 acc t) s=false:=by
 unfold nd1
 split
 · exact h
 · rename_i h2;rw [has_app,h,Bool.false_or];cases e:(t.toList==s.toList)
   · rfl
   · exfalso
     rw [(zEw t s).1 e,hs] at h2
     simp at h2
theorem fold_gnd {s:ByteArray} (hs:gnd s=true):∀ (r acc:List ByteArray),has acc s=false→has (r.foldl nd1 acc) s=false
 | [],_,h=> h
 | t::r,_,h=> fold_gnd hs r _ (nd1_gnd hs h)
theorem nds_gnd {s:ByteArray} (hs:gnd s=true):∀ (l:List El) (acc:List ByteArray),has acc s=false→has (l.foldl nd4 acc) s=false
 | [],_,h=> h
 | x::l,_,h=> nds_gnd hs l _ (fold_gnd hs (fr x) _ h)
theorem gIx_at {l:List El} {s:ByteArray} (h:s=⟨#[48]⟩∨has (nds l) s=true):has (gnds l) s=true∧plI (gnds l) s=gIx l s:=by
 by_cases e:s=⟨#[48]⟩
 · subst e;have h0:has (nds l) ⟨#[48]⟩=false:=nds_gnd (by unfold gnd;rw [zEi];rfl) l [] rfl;have hg:has (gnds l) ⟨#[48]⟩=true:=by unfold gnds has;rw [List.any_cons];simp
   refine ⟨hg,?_⟩;unfold plI gIx;rw [if_pos hg,h0];unfold gnds;rw [List.findIdx_cons]
   simp
 · have hn:has (nds l) s=true:=h.resolve_left e;have aK:((⟨#[48]⟩:ByteArray).toList==s.toList)=false:=by
    cases e2:((⟨#[48]⟩:ByteArray).toList==s.toList)
    · rfl
    · exact absurd ((zEw _ _).1 e2).symm e
   have hg:has (gnds l) s=true:=by
    have h1:=hn;unfold has at h1;unfold gnds has;rw [List.any_cons,h1,Bool.or_true]
   refine ⟨hg,?_⟩;unfold plI gIx;rw [if_pos hg,if_pos hn];unfold plI;rw [if_pos hn];unfold gnds;rw [List.findIdx_cons,aK]
   simp
theorem gIx_none {l:List El} {s:ByteArray} (h:has (nds l) s=false):plI (gnds l) s=gIx l s:=by
 by_cases e:s=⟨#[48]⟩
 · exact (gIx_at (.inl e)).2
 · have aK:((⟨#[48]⟩:ByteArray).toList==s.toList)=false:=by
    cases e2:((⟨#[48]⟩:ByteArray).toList==s.toList)
    · rfl
    · exact absurd ((zEw _ _).1 e2).symm e
   have hg:has (gnds l) s=false:=by
    have h1:=h;unfold has at h1;unfold gnds has;rw [List.any_cons,h1,Bool.or_false,aK]
   unfold plI gIx;rw [if_neg (by rw [hg];simp),if_neg (by rw [h];simp)];rfl
theorem gIx_all (l:List El) (s:ByteArray):plI (gnds l) s=gIx l s:=by
 cases h:has (nds l) s with
 | true=> exact (gIx_at (.inr h)).2
 | false=> exact gIx_none h
end
section
open Go.RowKit
def acrS (b:Bool) (l:List El) (xs:List Cx) (na:Nat) (t:ByteArray):Cx × Int:=
 if zFb b xs.length na (nds l).length (brs l).length≠0 then ((0,0),zFb b xs.length na (nds l).length (brs l).length)
 else match zBs l t with
  | none=> ((0,0),10)
  | some x=> (csub (ck (vltS b l xs na x.a).1) (ck (vltS b l xs na x.b).1),0)
theorem acr_bad {b:Bool} {l:List El} {xs:List Cx} {na:Nat} {t:ByteArray} {fe:Int} (h:zFb b xs.length na (nds l).length (brs l).length=fe) (h0:¬fe=0):acrS b l xs na t=((0,0),fe):=by unfold acrS;rw [h,if_pos h0]
theorem acr_none {b:Bool} {l:List El} {xs:List Cx} {na:Nat} {t:ByteArray} (h:zFb b xs.length na (nds l).length (brs l).length=0) (h2:zBs l t=none):acrS b l xs na t=((0,0),10):=by unfold acrS;rw [h,if_neg (fun h=> h rfl),h2]
theorem acr_some {b:Bool} {l:List El} {xs:List Cx} {na:Nat} {t:ByteArray} {x:El} (h:zFb b xs.length na (nds l).length (brs l).length=0) (h2:zBs l t=some x):acrS b l xs na t=(csub (ck (vltS b l xs na x.a).1) (ck (vltS b l xs na x.b).1),0):=by unfold acrS;rw [h,if_neg (fun h=> h rfl),h2]
def RetCE (S:Cx × Int) (w:World) (e:Ending) (w':World):Prop:=∃r i,e=.returned (.tuple #[.complex .f64 r i,.int .i64 S.2])∧(fc r,fc i)=S.1∧Below w.heap.size w w'
theorem RetCE.of {S:Cx × Int} {w w':World} {r i:Nat} {k:Int} (h:S=((fc r,fc i),k)) (hb:Below w.heap.size w w'):RetCE S w (.returned (.tuple #[.complex .f64 r i,.int .i64 k])) w':=⟨r,i,by rw [h],by rw [h],hb⟩
theorem ck0:((0:Nat),(0:Nat))=(fc 0,fc 0):=by rw [fc_zero]
end
section
open Go.RowKit
theorem copyelements_any (v:Value) (l:List El) (w:World) (hv:IsSl w 8 v l.length (l.flatMap ea)) (hl:l.length * 104≤140737488355328):
 Calls Tryz.prog 26 #[v] w (RetRow 35 8 l.length (fun xs=> xs=l.flatMap ea) w):=by
 obtain ⟨a,c,rfl⟩:=hv.form;obtain ⟨i0,hi,cG,bD,cB⟩:=info_parts zEo;go_enter Tryz.func26,Tryz.ntmps26;go_wp2_with (refine zBy rfl _ _ _ rfl w.heap.size 35 8 104 i0 (.agg #[.int .u8 0,.string ⟨#[]⟩,.string ⟨#[]⟩,.string ⟨#[]⟩,.string ⟨#[]⟩,.string ⟨#[]⟩,.float .f64 0,.int .i64 0]) Tryz.underlying31 hi cG bD cB rfl (by decide) _ 0 [] (World.ownsRow_nil _ _ _ _) (Nat.le_refl _) _ _ _ hv rfl rfl (by intro u hu;obtain ⟨z,_,hz⟩:=List.mem_flatMap.1 hu;exact ea_one z u hz) (by simp [maxLen];omega) (by omega) ?_;intro v1 w1 aS fX pC);go_ret;refine ⟨_,_,rfl,?_,rfl,(Below.refl _ _).grown fX (Nat.le_refl _) (by intro k e;cases e)⟩
 simpa using aS
theorem retof_goodR {l:List El} {w w':World} {e:Ending} (h:RetOf RN l w e w') (h0:(ofL l).1=true):∃g:Nat,e=.returned (.tuple #[.pointer (some ⟨g,0,none⟩),.agg #[.int .i64 0,.int .i64 0]])∧RN w' (.pointer (some ⟨g,0,none⟩)) l∧Below w.heap.size w w':=by
 obtain ⟨p,rfl,h,hb⟩:=h;rcases h with ⟨h1,_⟩ | ⟨_,h2,h3⟩
 · rw [h0] at h1;cases h1
 · rw [ofL_zero h0];rcases h3 with ⟨h4,_⟩ | ⟨g,v,rfl,h4⟩
   · exact absurd h4 h2
   · exact ⟨g,rfl,.inr ⟨g,v,rfl,h4⟩,hb⟩
def RetRd (l:List El) (w:World) (e:Ending) (w':World):Prop:=
 ∃p q b,e=.returned (.tuple #[p,q,.bool b])∧Below w.heap.size w w'∧(b=true→l.length≤40∧(ofL l).1=true∧szL l≤16∧NN w' p l∧RN w' q l∧zBp p=false∧zBp q=false)
end
section
open Go.RowKit
theorem szL_eq (l:List El):((nds l).length:Int)+((brs l).length:Int)=((szL l:Nat):Int):=by unfold szL;simp
theorem read23_any (v:Value) (l:List El) (w:World) (hv:InSl w 8 v l.length (l.flatMap ez)) (aY:∀e∈l,e.Ok):
 Calls Tryz.prog 6 #[v] w (RetRd l w):=by
 obtain ⟨a,c,rfl⟩:=hv.form;have HV:=hid hv;have cH:=hid aY;have eP:=hid (Below.refl w.heap.size w);clear hv aY
 by_cases rK:40 < l.length
 · have h41:(40:Int) < (l.length:Int):=by omega
   clear rK;go_enter Tryz.func6,Tryz.ntmps6;go_wp2
   (try rw [Exit.noGoto_ret])
   refine bodyPost_ret (v:=.tuple #[.pointer none,.pointer none,.bool false]) ?_ rfl ⟨_,_,_,rfl,eP.out,fun h=> by cases h⟩;rw [results_tmp3 rfl];rfl
 have h41:¬(40:Int) < (l.length:Int):=by omega
 have uE:=hid (show l.length≤40 by omega);clear rK;cases eB:(ofL l).1
 · have fN:=hid eB;clear eB;go_enter Tryz.func6,Tryz.ntmps6;go_upto_region 4 with (go_at_call 25;refine (elements_any _ l _ HV.out (by have:=uE.out;omega)).mono ?_;rintro e w1 ⟨vo,xs,rfl,aC,rfl,hb⟩;have aL:=hid (zAd eP.out hb);have HO:=hid (IsSl.of_own aC);obtain ⟨ao,co,rfl⟩:=HO.out.form;clear aC;clear hb);clear eP HV;go_upto_region 5 with (first | (go_at_call 26;refine (copyelements_any _ l _ HO.out (by have:=uE.out;omega)).mono ?_;rintro e w2 ⟨vo2,xs2,rfl,aC,rfl,hb⟩;have mN:=hid (HO.out.below hb (Nat.le_refl _));have aG:=hid (zAd aL.out hb);have HC:=hid (IsSl.of_own aC);obtain ⟨ac,cc,rfl⟩:=HC.out.form;clear aC;clear hb) | (go_at_call 10;refine (nof_any _ l _ HC.out cH.out (by have:=uE.out;omega)).mono ?_;intro e w3 hr;obtain ⟨fxN,fyN,rfl,hfxN,hb⟩:=retof_bad hr fN.out;have kJ:=hid (mN.out.below hb (Nat.le_refl _));have HC3:=hid (HC.out.below hb (Nat.le_refl _));have aT:=hid (zAd aG.out hb);clear hb hr));clear HO aL mN HC aG;have nS:=hid (kJ.out.below ((Below.refl w3.heap.size w3).alloc (Nat.le_refl _) (.cells #[.int .i64 fxN,.int .i64 fyN] 38)) (Nat.le_refl _));have bI:=hid (zAd aT.out ((Below.refl w3.heap.size w3).alloc (Nat.le_refl _) (.cells #[.int .i64 fxN,.int .i64 fyN] 38)));have HF:=hid (heap_alloc_new w3 (.cells #[.int .i64 fxN,.int .i64 fyN] 38));clear kJ aT;generalize w3.alloc (.cells #[.int .i64 fxN,.int .i64 fyN] 38)=w4 at *;obtain ⟨gf,gZ⟩:∃gf,w3.heap.size=gf:=⟨_,rfl⟩;rw [gZ] at HF⊢;clear gZ;go_upto_region 6 with (go_at_call 27;refine (rof_any15 _ l _ nS.out cH.out (by have:=uE.out;omega)).mono ?_;intro e w5 hr;obtain ⟨fxR,fyR,rfl,hfxR,hb⟩:=retof_bad hr fN.out;have HO5:=hid (nS.out.below hb (Nat.le_refl _));have HF5:=hid (zAa hb HF.out);have cL:=hid (zAd bI.out hb);clear hb hr)
   clear nS HF bI;have sK:=hid (zAa ((Below.refl w5.heap.size w5).alloc (Nat.le_refl _) (.cells #[.int .i64 fxR,.int .i64 fyR] 38)) HF5.out);have cJ:=hid (zAd cL.out ((Below.refl w5.heap.size w5).alloc (Nat.le_refl _) (.cells #[.int .i64 fxR,.int .i64 fyR] 38)));have HG:=hid (heap_alloc_new w5 (.cells #[.int .i64 fxR,.int .i64 fyR] 38));clear HF5 cL;generalize w5.alloc (.cells #[.int .i64 fxR,.int .i64 fyR] 38)=w6 at *;obtain ⟨gg,oI⟩:∃gg,w5.heap.size=gg:=⟨_,rfl⟩;rw [oI] at HG⊢;clear oI;have aE:=zAc sK.out;have z0:=aE.1 0 _ rfl;have z1:=aE.1 1 _ rfl;clear aE;have aE:=zAc HG.out;have y0:=aE.1 0 _ rfl;have y1:=aE.1 1 _ rfl;clear aE;have q1:(fxN==0)=false:=by simpa using hfxN
   go_wp2
   (try rw [Exit.noGoto_ret])
   refine bodyPost_ret (v:=.tuple #[.pointer none,.pointer none,.bool false]) ?_ rfl ⟨_,_,_,rfl,cJ.out,fun h=> by cases h⟩;rw [results_tmp3 rfl];rfl
 · have fN:=hid eB;clear eB;go_enter Tryz.func6,Tryz.ntmps6;go_upto_region 4 with (go_at_call 25;refine (elements_any _ l _ HV.out (by have:=uE.out;omega)).mono ?_;rintro e w1 ⟨vo,xs,rfl,aC,rfl,hb⟩;have aL:=hid (zAd eP.out hb);have HO:=hid (IsSl.of_own aC);obtain ⟨ao,co,rfl⟩:=HO.out.form;clear aC;clear hb);clear eP HV;go_upto_region 5 with (first | (go_at_call 26;refine (copyelements_any _ l _ HO.out (by have:=uE.out;omega)).mono ?_;rintro e w2 ⟨vo2,xs2,rfl,aC,rfl,hb⟩;have mN:=hid (HO.out.below hb (Nat.le_refl _));have aG:=hid (zAd aL.out hb);have HC:=hid (IsSl.of_own aC);obtain ⟨ac,cc,rfl⟩:=HC.out.form;clear aC;clear hb) | (go_at_call 10;refine (nof_any _ l _ HC.out cH.out (by have:=uE.out;omega)).mono ?_;intro e w3 hr;obtain ⟨gN,rfl,fU,hb⟩:=retof_good hr fN.out;have kJ:=hid (mN.out.below hb (Nat.le_refl _));have HC3:=hid (HC.out.below hb (Nat.le_refl _));have aT:=hid (zAd aG.out hb);clear hb hr;have HN:=hid fU;clear fU));clear HO aL mN HC aG;have nS:=hid (kJ.out.below ((Below.refl w3.heap.size w3).alloc (Nat.le_refl _) (.cells #[.int .i64 0,.int .i64 0] 38)) (Nat.le_refl _));have vH:=hid (HN.out.below' ((Below.refl w3.heap.size w3).alloc (Nat.le_refl _) (.cells #[.int .i64 0,.int .i64 0] 38)));have bI:=hid (zAd aT.out ((Below.refl w3.heap.size w3).alloc (Nat.le_refl _) (.cells #[.int .i64 0,.int .i64 0] 38)));have HF:=hid (heap_alloc_new w3 (.cells #[.int .i64 0,.int .i64 0] 38));clear kJ HN aT;generalize w3.alloc (.cells #[.int .i64 0,.int .i64 0] 38)=w4 at *;obtain ⟨gf,gZ⟩:∃gf,w3.heap.size=gf:=⟨_,rfl⟩;rw [gZ] at HF⊢;clear gZ;go_upto_region 6 with (go_at_call 27;refine (rof_any15 _ l _ nS.out cH.out (by have:=uE.out;omega)).mono ?_;intro e w5 hr;obtain ⟨gR,rfl,fU,hb⟩:=retof_goodR hr fN.out;have HO5:=hid (nS.out.below hb (Nat.le_refl _));have sF:=hid (vH.out.below' hb);have HF5:=hid (zAa hb HF.out);have cL:=hid (zAd bI.out hb);clear hb hr;have HR:=hid fU;clear fU)
   clear nS vH HF bI;have vG:=hid (sF.out.below' ((Below.refl w5.heap.size w5).alloc (Nat.le_refl _) (.cells #[.int .i64 0,.int .i64 0] 38)));have sK:=hid (zAa ((Below.refl w5.heap.size w5).alloc (Nat.le_refl _) (.cells #[.int .i64 0,.int .i64 0] 38)) HF5.out);have HR6:=hid (HR.out.below' ((Below.refl w5.heap.size w5).alloc (Nat.le_refl _) (.cells #[.int .i64 0,.int .i64 0] 38)));have cJ:=hid (zAd cL.out ((Below.refl w5.heap.size w5).alloc (Nat.le_refl _) (.cells #[.int .i64 0,.int .i64 0] 38)));have HG:=hid (heap_alloc_new w5 (.cells #[.int .i64 0,.int .i64 0] 38));clear sF HF5 HR cL;generalize w5.alloc (.cells #[.int .i64 0,.int .i64 0] 38)=w6 at *;obtain ⟨gg,oI⟩:∃gg,w5.heap.size=gg:=⟨_,rfl⟩;rw [oI] at HG⊢;clear oI;have aE:=zAc sK.out;have z0:=aE.1 0 _ rfl;have z1:=aE.1 1 _ rfl;clear aE;have aE:=zAc HG.out;have y0:=aE.1 0 _ rfl;have y1:=aE.1 1 _ rfl;clear aE;have hsz:=szL_eq l;have nU:=hid (show l.length≤100000 by have:=uE.out;omega);go_wp2_with (go_at_call 28;refine (rorder_any _ l _ HR6.out nU.out).mono ?_;rintro e w7 ⟨rfl,hb⟩;have HN7:=hid (vG.out.below' hb);have HF7:=hid (zAa hb sK.out);have HR7:=hid (HR6.out.below' hb);have HG7:=hid (zAa hb HG.out);have cT:=hid (zAd cJ.out hb);rw [hsz];clear hb)
   (try rw [Exit.noGoto_ret])
   refine bodyPost_ret (v:=.tuple #[.pointer (some ⟨gN,0,none⟩),.pointer (some ⟨gR,0,none⟩),.bool (decide ((szL l:Int)≤16))]) ?_ rfl ⟨_,_,_,rfl,cT.out,fun h=> ⟨uE.out,fN.out,by have:=of_decide_eq_true h;omega,HN7.out,HR7.out,rfl,rfl⟩⟩;rw [results_tmp3 rfl];rfl
end
section
open Go.RowKit
end
section
open Go.RowKit
def nats (l:List Nat):List Value:=l.map fun (k:Nat)=> Value.int .i64 (k:Int)
theorem nats_snoc (l:List Nat) (k:Nat):nats (l++ [k])=nats l++ [.int .i64 k]:=by simp [nats]
theorem infoI:(Tryz.prog.info? 3).map (fun i=> (i.zero,i.size,i.bytes))=some (some (.int .i64 0),1,8):=by kernel_rfl
end
section
open Go.RowKit
end
section
open Go.RowKit
def zAz (p:Value) (nd n:Nat) (ov:Bool) (M:List Cx):Array Value:=(p::.int .i64 nd::.int .i64 n::.bool ov::M.map mkC).toArray
theorem board_0 {p:Value} {nd n:Nat} {ov:Bool} {M:List Cx}:(zAz p nd n ov M)[0]? =some p:=by simp [zAz]
theorem board_1 {p:Value} {nd n:Nat} {ov:Bool} {M:List Cx}:(zAz p nd n ov M)[1]? =some (.int .i64 nd):=by simp [zAz]
theorem board_2 {p:Value} {nd n:Nat} {ov:Bool} {M:List Cx}:(zAz p nd n ov M)[2]? =some (.int .i64 n):=by simp [zAz]
theorem zDu {p:Value} {nd n:Nat} {ov:Bool} {M:List Cx}:(zAz p nd n ov M)[3]? =some (.bool ov):=by simp [zAz]
theorem board_z {p:Value} {nd n k:Nat} {ov:Bool} {M:List Cx} (h:k < M.length):(zAz p nd n ov M)[4+k]? =some (mkC (M.getD k (0,0))):=by
 unfold zAz;rw [List.getElem?_toArray,show 4+k=k+1+1+1+1 by omega];simp only [List.getElem?_cons_succ,List.getElem?_map,List.getD_eq_getElem?_getD];rw [List.getElem?_eq_getElem h];rfl
theorem board_set_z {p:Value} {nd n k:Nat} {ov:Bool} {M:List Cx} (z:Cx):(zAz p nd n ov M).setIfInBounds (4+k) (mkC z)=zAz p nd n ov (M.set k z):=by
 unfold zAz;rw [List.setIfInBounds_toArray,show 4+k=k+1+1+1+1 by omega];simp only [List.set_cons_succ,List.map_set]
theorem board_set_ov {p:Value} {nd n:Nat} {ov b:Bool} {M:List Cx}:(zAz p nd n ov M).setIfInBounds 3 (.bool b)=zAz p nd n b M:=by
 unfold zAz;rw [List.setIfInBounds_toArray];rfl
def zEz (w:World) (g:Nat) (p:Value) (nd n:Nat) (m:Nat→Cx) (ov:Bool) (M:List Cx):Prop:=
 M.length=4096∧w.heap[g]? =some (.cells (zAz p nd n ov M) 198 (0,0))∧∀k,k < 4096→ck (M.getD k (0,0))=m k
def BoardR (w:World) (g:Nat) (p:Value) (nd n:Nat) (s:StS):Prop:=∃M,zEz w g p nd n s.1 s.2 M
theorem zEz.below {w w':World} {g nd n:Nat} {p:Value} {m:Nat→Cx} {ov:Bool} {M:List Cx} (h:zEz w g p nd n m ov M) (hb:Below w.heap.size w w'):zEz w' g p nd n m ov M:=
 ⟨h.1,zAs hb h.2.1,h.2.2⟩
theorem BoardR.below {w w':World} {g nd n:Nat} {p:Value} {s:StS} (h:BoardR w g p nd n s) (hb:Below w.heap.size w w'):BoardR w' g p nd n s:=by
 obtain ⟨M,hM⟩:=h;exact ⟨M,hM.below hb⟩
theorem BoardR.lt {w:World} {g nd n:Nat} {p:Value} {s:StS} (h:BoardR w g p nd n s):g < w.heap.size:=by
 obtain ⟨M,h1,h2,h3⟩:=h;exact (Array.getElem?_eq_some_iff.1 h2).1
theorem zEz.put {w:World} {g nd n k:Nat} {p:Value} {m:Nat→Cx} {ov:Bool} {M:List Cx} (h:zEz w g p nd n m ov M) (hk:k < 4096) (z:Cx):
 zEz (w.setCell ⟨g,4+k,none⟩ (mkC z)) g p nd n (upd m k (ck z)) ov (M.set k z):=by
 obtain ⟨h1,h2,h3⟩:=h;refine ⟨by rw [List.length_set,h1],?_,fun j hj=> ?_⟩
 · have h4:=blk_setS (o:=4+k) h2 (mkC z);rw [board_set_z] at h4;exact h4
 · by_cases e:j=k
   · subst e;rw [zAm,List.getD_eq_getElem?_getD,List.getElem?_set_self (by omega)];rfl
   · rw [zAp _ _ e,←h3 j hj,List.getD_eq_getElem?_getD,List.getD_eq_getElem?_getD,List.getElem?_set_ne (Ne.symm e)]
theorem zEz.mark {w:World} {g nd n:Nat} {p:Value} {m:Nat→Cx} {ov:Bool} {M:List Cx} (h:zEz w g p nd n m ov M) (b:Bool):
 zEz (w.setCell ⟨g,3,none⟩ (.bool b)) g p nd n m b M:=by
 obtain ⟨h1,h2,h3⟩:=h;have h4:=blk_setS (o:=3) h2 (.bool b);rw [board_set_ov] at h4;exact ⟨h1,h4,h3⟩
def RetBd (g:Nat) (p:Value) (nd n:Nat) (s:StS) (w:World) (en:Ending) (w':World):Prop:=en=.returned (.tuple #[])∧BoardR w' g p nd n s∧w.grownBy w' (some g)
end
section
open Go.RowKit
theorem zFu (g nd n:Nat) (p:Value) (s:StS) (i j:Int) (a b:Nat) (w:World) (h:BoardR w g p nd n s) (hn:n≤64) (hi:i < n) (hj:j < n):
 Calls Tryz.prog 171 #[.pointer (some ⟨g,0,none⟩),.int .i64 i,.int .i64 j,.complex .f64 a b] w (RetBd g p nd n (st1 n s ⟨false,i,j,(fc a,fc b)⟩) w):=by
 by_cases kG:i < 0
 · have H:=hid h;clear h;go_enter Tryz.func171,Tryz.ntmps171;go_wp2
   (try rw [Exit.noGoto_ret])
   go_end0
   exact ⟨rfl,by rw [st1_no (.inl kG)];exact H.out,World.grownBy.refl _ _⟩
 by_cases hj0:j < 0
 · have H:=hid h;clear h;go_enter Tryz.func171,Tryz.ntmps171;go_wp2
   (try rw [Exit.noGoto_ret])
   go_end0
   exact ⟨rfl,by rw [st1_no (.inr hj0)];exact H.out,World.grownBy.refl _ _⟩
 rw [st1_yes (show¬(i < 0∨j < 0) by omega)];obtain ⟨i,rfl⟩:=Int.eq_ofNat_of_zero_le (show 0≤i by omega);obtain ⟨j,rfl⟩:=Int.eq_ofNat_of_zero_le (show 0≤j by omega);have hk:i * n+j < 4096:=by
  have h1:i≤63:=by omega
  have h2:i * n≤63 * n:=Nat.mul_le_mul_right n h1
  omega
 have aZ:(((i:Nat):Int) * (n:Int)+((j:Nat):Int)).toNat=i * n+j:=by
  rw [show (i:Int) * (n:Int)=((i * n:Nat):Int) by simp];omega
 have lF:=hid aZ;obtain ⟨q,hq⟩:∃q,i * n=q:=⟨_,rfl⟩;obtain ⟨k,uO⟩:∃k,q+j=k:=⟨_,rfl⟩;rw [hq,uO] at hk;have hw1:IntKind.i64.wrap ((i:Int) * (n:Int))=(q:Int):=by
  rw [show (i:Int) * (n:Int)=((i * n:Nat):Int) by simp,hq];rw [IntWalk.i64_in _ ⟨by omega,by omega⟩]
 have cA:IntKind.i64.wrap ((q:Int)+(j:Int))=(k:Int):=by
  rw [IntWalk.i64_in _ ⟨by omega,by omega⟩];omega
 have hkz:(k:Int) < 4096:=by omega
 have HQ:=hid hq;have vK:=hid uO;rw [hq,uO] at lF;clear aZ hq uO;obtain ⟨M,hM⟩:=h;have HM:=hid hM;have HK:=hid hk;have aE:=zAb HM.out.2.1;have c2:=aE.1 2 _ board_2;clear aE hM hk;go_enter Tryz.func171,Tryz.ntmps171;go_upto_region 1 with fail
 go_still_tail 12,(by kernel_rfl)
 change wpList _ _ _ _ _ w.drew;have HD:=hid (HM.out.below (Below.refl _ _).drew);have HG:=hid (zAe ((Below.refl w.heap.size w).drew) (some g));clear HM c2;obtain ⟨hz,hfz⟩:=zAb HD.out.2.1;have cz:=hz (4+k) _ (board_z (by have:=HD.out.1;have:=HK.out;omega));have HFZ:=hid hfz;clear hz hfz;have HZE:=hid (HD.out.2.2 k HK.out);generalize w.drew=w1 at *;generalize M.getD k (0,0)=z at *;obtain ⟨z1,z2⟩:=z;go_upto_region 3 with (go_at_call 66;refine (padd_any z1 z2 a b _).mono ?_;rintro e w2 ⟨v,nn,rfl,he,r1,r2,rfl,aP⟩;have aV:Below w1.heap.size w1 w2:=(by rw [he];exact zAg (Below.refl _ _) nn);have uC:=hid (HD.out.below aV);have eM:=hid (zAf HG.out (zAe aV (some g)));have pF:=hid aP;have fz:=(zAb uC.out.2.1).2 (4+k);have cz2:=(aV.cell (p:=⟨g,4+k,none⟩) (Array.getElem?_eq_some_iff.1 HD.out.2.1).1).trans cz;clear HD HG aP HFZ he aV cz);have kA:=hid (uC.out.put HK.out (r1,r2));have eL:=hid (zAf eM.out (zEh w2 g (4+k) (.complex .f64 r1 r2)));clear uC eM fz cz2;have pT:Hid (zEz (w2.setCell ⟨g,4+k,none⟩ (.complex .f64 r1 r2)) g p nd n (upd s.1 k (ck (r1,r2))) s.2 (M.set k (r1,r2))):=kA;clear kA;have aQ:=hid (show stZ n s.1 ⟨false,(i:Int),(j:Int),(fc a,fc b)⟩=ck (r1,r2) by
  unfold stZ;simp only [lF.out,Bool.false_eq_true,if_false];rw [←HZE.out];exact pF.out.symm)
 generalize w2.setCell ⟨g,4+k,none⟩ (.complex .f64 r1 r2)=w3 at *;have aE:=zAb pT.out.2.1;have o3:=aE.1 3 _ zDu;have wS:=hid (aE.1 (4+k) _ (board_z (by have:=pT.out.1;have:=HK.out;omega)));have z3:w3.cell? ⟨g,4+k,none⟩=some (.complex .f64 r1 r2):=by
  have h1:=wS.out;rw [List.getD_eq_getElem?_getD,List.getElem?_set_self (by have:=pT.out.1;rw [List.length_set] at this;have:=HK.out;omega)] at h1;exact h1
 have f3:=aE.2 3;clear aE wS;rcases hov:s.2 with _ | _
 · rw [hov] at o3;go_wp2_with (go_at_call 41;refine (zBk r1 r2 _).mono ?_;rintro e w4 ⟨v,nn4,rfl,he,rfl⟩;have cI:Below w3.heap.size w3 w4:=(by rw [he];exact zAg (Below.refl _ _) nn4);have sQ:=hid (pT.out.below cI);have HG5:=hid (zAf eL.out (zAe cI (some g)));have o4:=(zAb sQ.out.2.1).1 3 _ zDu;have f4:=(zAb sQ.out.2.1).2 3;clear pT eL he cI o3 f3 z3)
   (try rw [Exit.noGoto_ret])
   go_end0
   refine ⟨rfl,⟨M.set k (r1,r2),?_⟩,zAf HG5.out (zEh _ _ _ _)⟩;rw [aQ.out,lF.out];rw [hov,Bool.false_or];exact sQ.out.mark _
 · rw [hov] at o3;go_wp2
   (try rw [Exit.noGoto_ret])
   go_end0
   refine ⟨rfl,⟨M.set k (r1,r2),?_⟩,zAf eL.out (zEh _ _ _ _)⟩;rw [aQ.out,lF.out];rw [hov,Bool.true_or];exact pT.out.mark _
theorem zFt (g nd n:Nat) (p:Value) (s:StS) (i j:Int) (a b:Nat) (w:World) (h:BoardR w g p nd n s) (hn:n≤64) (hi:i < n) (hj:j < n):
 Calls Tryz.prog 172 #[.pointer (some ⟨g,0,none⟩),.int .i64 i,.int .i64 j,.complex .f64 a b] w (RetBd g p nd n (st1 n s ⟨true,i,j,(fc a,fc b)⟩) w):=by
 by_cases kG:i < 0
 · have H:=hid h;clear h;go_enter Tryz.func172,Tryz.ntmps172;go_wp2
   (try rw [Exit.noGoto_ret])
   go_end0
   exact ⟨rfl,by rw [st1_no (.inl kG)];exact H.out,World.grownBy.refl _ _⟩
 by_cases hj0:j < 0
 · have H:=hid h;clear h;go_enter Tryz.func172,Tryz.ntmps172;go_wp2
   (try rw [Exit.noGoto_ret])
   go_end0
   exact ⟨rfl,by rw [st1_no (.inr hj0)];exact H.out,World.grownBy.refl _ _⟩
 rw [st1_yes (show¬(i < 0∨j < 0) by omega)];obtain ⟨i,rfl⟩:=Int.eq_ofNat_of_zero_le (show 0≤i by omega);obtain ⟨j,rfl⟩:=Int.eq_ofNat_of_zero_le (show 0≤j by omega);have hk:i * n+j < 4096:=by
  have h1:i≤63:=by omega
  have h2:i * n≤63 * n:=Nat.mul_le_mul_right n h1
  omega
 have aZ:(((i:Nat):Int) * (n:Int)+((j:Nat):Int)).toNat=i * n+j:=by
  rw [show (i:Int) * (n:Int)=((i * n:Nat):Int) by simp];omega
 have lF:=hid aZ;obtain ⟨q,hq⟩:∃q,i * n=q:=⟨_,rfl⟩;obtain ⟨k,uO⟩:∃k,q+j=k:=⟨_,rfl⟩;rw [hq,uO] at hk;have hw1:IntKind.i64.wrap ((i:Int) * (n:Int))=(q:Int):=by
  rw [show (i:Int) * (n:Int)=((i * n:Nat):Int) by simp,hq];rw [IntWalk.i64_in _ ⟨by omega,by omega⟩]
 have cA:IntKind.i64.wrap ((q:Int)+(j:Int))=(k:Int):=by
  rw [IntWalk.i64_in _ ⟨by omega,by omega⟩];omega
 have hkz:(k:Int) < 4096:=by omega
 have HQ:=hid hq;have vK:=hid uO;rw [hq,uO] at lF;clear aZ hq uO;obtain ⟨M,hM⟩:=h;have HM:=hid hM;have HK:=hid hk;have aE:=zAb HM.out.2.1;have c2:=aE.1 2 _ board_2;clear aE hM hk;go_enter Tryz.func172,Tryz.ntmps172;go_upto_region 1 with fail
 go_still_tail 12,(by kernel_rfl)
 change wpList _ _ _ _ _ w.drew;have HD:=hid (HM.out.below (Below.refl _ _).drew);have HG:=hid (zAe ((Below.refl w.heap.size w).drew) (some g));clear HM c2;obtain ⟨hz,hfz⟩:=zAb HD.out.2.1;have cz:=hz (4+k) _ (board_z (by have:=HD.out.1;have:=HK.out;omega));have HFZ:=hid hfz;clear hz hfz;have HZE:=hid (HD.out.2.2 k HK.out);generalize w.drew=w1 at *;generalize M.getD k (0,0)=z at *;obtain ⟨z1,z2⟩:=z;go_upto_region 3 with (go_at_call 45;refine (psub_any z1 z2 a b _).mono ?_;rintro e w2 ⟨v,nn,rfl,he,r1,r2,rfl,aP⟩;have aV:Below w1.heap.size w1 w2:=(by rw [he];exact zAg (Below.refl _ _) nn);have uC:=hid (HD.out.below aV);have eM:=hid (zAf HG.out (zAe aV (some g)));have pF:=hid aP;have fz:=(zAb uC.out.2.1).2 (4+k);have cz2:=(aV.cell (p:=⟨g,4+k,none⟩) (Array.getElem?_eq_some_iff.1 HD.out.2.1).1).trans cz;clear HD HG aP HFZ he aV cz);have kA:=hid (uC.out.put HK.out (r1,r2));have eL:=hid (zAf eM.out (zEh w2 g (4+k) (.complex .f64 r1 r2)));clear uC eM fz cz2;have pT:Hid (zEz (w2.setCell ⟨g,4+k,none⟩ (.complex .f64 r1 r2)) g p nd n (upd s.1 k (ck (r1,r2))) s.2 (M.set k (r1,r2))):=kA;clear kA;have aQ:=hid (show stZ n s.1 ⟨true,(i:Int),(j:Int),(fc a,fc b)⟩=ck (r1,r2) by
  unfold stZ;simp only [lF.out,if_true];rw [←HZE.out];exact pF.out.symm)
 generalize w2.setCell ⟨g,4+k,none⟩ (.complex .f64 r1 r2)=w3 at *;have aE:=zAb pT.out.2.1;have o3:=aE.1 3 _ zDu;have wS:=hid (aE.1 (4+k) _ (board_z (by have:=pT.out.1;have:=HK.out;omega)));have z3:w3.cell? ⟨g,4+k,none⟩=some (.complex .f64 r1 r2):=by
  have h1:=wS.out;rw [List.getD_eq_getElem?_getD,List.getElem?_set_self (by have:=pT.out.1;rw [List.length_set] at this;have:=HK.out;omega)] at h1;exact h1
 have f3:=aE.2 3;clear aE wS;rcases hov:s.2 with _ | _
 · rw [hov] at o3;go_wp2_with (go_at_call 41;refine (zBk r1 r2 _).mono ?_;rintro e w4 ⟨v,nn4,rfl,he,rfl⟩;have cI:Below w3.heap.size w3 w4:=(by rw [he];exact zAg (Below.refl _ _) nn4);have sQ:=hid (pT.out.below cI);have HG5:=hid (zAf eL.out (zAe cI (some g)));have o4:=(zAb sQ.out.2.1).1 3 _ zDu;have f4:=(zAb sQ.out.2.1).2 3;clear pT eL he cI o3 f3 z3)
   (try rw [Exit.noGoto_ret])
   go_end0
   refine ⟨rfl,⟨M.set k (r1,r2),?_⟩,zAf HG5.out (zEh _ _ _ _)⟩;rw [aQ.out,lF.out];rw [hov,Bool.false_or];exact sQ.out.mark _
 · rw [hov] at o3;go_wp2
   (try rw [Exit.noGoto_ret])
   go_end0
   refine ⟨rfl,⟨M.set k (r1,r2),?_⟩,zAf eL.out (zEh _ _ _ _)⟩;rw [aQ.out,lF.out];rw [hov,Bool.true_or];exact pT.out.mark _
end
end Go.Proofs.YtdepiggjneoopaaGreatDoor
