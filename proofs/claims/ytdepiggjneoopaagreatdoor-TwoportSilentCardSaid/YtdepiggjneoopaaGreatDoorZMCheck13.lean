/- a part of the proof of the last text -/
import Derived.Test.YtdepiggjneoopaaGreatDoorZApart
import Derived.Test.YtdepiggjneoopaaGreatDoorZMNumbers2
import Derived.StillTailTactics
namespace Go.Proofs.YtdepiggjneoopaaGreatDoor
set_option linter.all false
set_option maxHeartbeats 4000000
set_option maxRecDepth 100000
section
open Go.RowKit
theorem zAt {w w':World} (h:Below w.drew.heap.size w.drew w'):Below w.heap.size w w':=⟨h.os,h.tape,h.output,h.size,h.block⟩
def Dis (a b:Value):Prop:=∀g,a.ownBlock=some g→b.ownBlock≠some g
theorem Dis.symm {a b:Value} (h:Dis a b):Dis b a:=fun g hb ha=> h g ha hb
structure ORow where
 v:Value
 e:Nat
 size:Nat
 n:Nat
 xs:List Value
def ORow.ok (B:Nat) (w:World) (o:ORow):Prop:=w.ownsRow B o.e o.size o.v o.n o.xs
structure Owns (B:Nat) (dom:Nat × Nat→Prop) (row:Nat × Nat→ORow) (w:World):Prop where
 size:B≤w.heap.size
 ok:∀i,dom i→(row i).ok B w
 dis:∀i j,dom i→dom j→i≠j→Dis (row i).v (row j).v
section
variable {B:Nat} {dom dom':Nat × Nat→Prop} {row row':Nat × Nat→ORow} {w w1:World}
theorem Owns.none (h:B≤w.heap.size) (row:Nat × Nat→ORow):Owns B (fun _=> False) row w:=⟨h,fun _ h=> h.elim,fun _ _ h=> h.elim⟩
theorem Owns.lt (h:Owns B dom row w) {i:Nat × Nat} (hi:dom i) {g:Nat} (hg:(row i).v.ownBlock=some g):B≤g∧g < w.heap.size:=World.ownsRow.lt (h.ok i hi) g hg
theorem zAe (hb:Below w.heap.size w w1) (r:Option Nat):w.grownBy w1 r:=⟨hb.os,hb.tape,hb.output,hb.size,fun k hk _=> hb.block k hk⟩
theorem below_of_grown (hg:w.grownBy w1 Option.none):Below w.heap.size w w1:=⟨hg.os,hg.tape,hg.output,hg.size,fun k hk=> hg.block k hk (by simp)⟩
theorem Owns.later (h:Owns B dom row w) (hb:Below w.heap.size w w1):Owns B dom row w1:=
 ⟨Nat.le_trans h.size hb.size,fun i hi=> zBf (h.ok i hi) (zAe hb _),h.dis⟩
theorem Owns.drewN (h:Owns B dom row w) (n:Nat):Owns B dom row (w.drewN n):=⟨h.size,h.ok,h.dis⟩
theorem Owns.drew (h:Owns B dom row w):Owns B dom row w.drew:=⟨h.size,h.ok,h.dis⟩
theorem Owns.sub (h:Owns B dom row w) (hd:∀j,dom' j→dom j∧row' j=row j):Owns B dom' row' w:=
 ⟨h.size,fun i hi=> by rw [(hd i hi).2];exact h.ok i (hd i hi).1,fun i j hi hj wM=> by rw [(hd i hi).2,(hd j hj).2];exact h.dis i j (hd i hi).1 (hd j hj).1 wM⟩
theorem Owns.new (h:Owns B dom row w) (hb:Below w.heap.size w w1) (i:Nat × Nat) (hr:(row' i).ok w.heap.size w1) (hd:∀j,dom' j→j=i∨(dom j∧row' j=row j)):Owns B dom' row' w1:=by
 have hl:=h.later hb;have fresh:∀j,dom j→Dis (row' i).v (row j).v:=fun j hj g hg e=> by
  have h1:=(World.ownsRow.lt hr g hg).1;have h2:=(h.lt hj e).2
  omega
 refine ⟨hl.size,fun j hj=> ?_,fun j k hj hk iH=> ?_⟩
 · rcases hd j hj with rfl | ⟨h1,h2⟩
   · exact ⟨hr.1,hr.2.imp id fun ⟨g,cap,cur,hv,hg,r⟩=> ⟨g,cap,cur,hv,Nat.le_trans h.size hg,r⟩⟩
   · rw [h2];exact hl.ok j h1
 · rcases hd j hj with rfl | ⟨h1,h2⟩
   · rcases hd k hk with rfl | ⟨h3,h4⟩
     · exact absurd rfl iH
     · rw [h4];exact fresh k h3
   · rcases hd k hk with rfl | ⟨h3,h4⟩
     · rw [h2];exact (fresh j h1).symm
     · rw [h2,h4];exact h.dis j k h1 h3 iH
theorem Owns.write (h:Owns B dom row w) (i:Nat × Nat) (hi:dom i) (aF:w.grownBy w1 (row i).v.ownBlock) (hv:(row' i).v=(row i).v)
 (hr:(row' i).ok B w1) (hd:∀j,dom' j→j=i∨(dom j∧row' j=row j)):Owns B dom' row' w1:=by
 refine ⟨Nat.le_trans h.size aF.size,fun j hj=> ?_,fun j k hj hk iH=> ?_⟩
 · by_cases lI:j=i
   · subst lI;exact hr
   · rcases hd j hj with e | ⟨h1,e⟩
     · exact absurd e lI
     · rw [e];refine (h.ok j h1).kept aF ?_;cases hb:(row j).v.ownBlock with
       | none=> exact .inl rfl
       | some g=> exact .inr fun e'=> h.dis j i h1 hi lI g hb e'.symm
 · have hvv:∀j,dom' j→(row' j).v=(row j).v∧dom j:=fun j hj=> by
    by_cases lI:j=i
    · subst lI;exact ⟨hv,hi⟩
    · rcases hd j hj with e | ⟨h1,e⟩
      · exact absurd e lI
      · rw [e];exact ⟨rfl,h1⟩
   rw [(hvv j hj).1,(hvv k hk).1];exact h.dis j k (hvv j hj).2 (hvv k hk).2 iH
end
end
section
open Go.RowKit
end
section
open Go.RowKit
theorem infoEz:(Tryz.prog.info? 95).map (fun i=> (i.zero,i.size,i.bytes))=some (some (.agg #[.int .u8 0,.string ⟨#[]⟩,.string ⟨#[]⟩,.string ⟨#[]⟩,.string ⟨#[]⟩,.string ⟨#[]⟩,.int .u64 0,.int .i64 0]),8,104):=by kernel_rfl
theorem zEo:(Tryz.prog.info? 35).map (fun i=> (i.zero,i.size,i.bytes))=some (some (.agg #[.int .u8 0,.string ⟨#[]⟩,.string ⟨#[]⟩,.string ⟨#[]⟩,.string ⟨#[]⟩,.string ⟨#[]⟩,.float .f64 0,.int .i64 0]),8,104):=by kernel_rfl
def agE (e:El):Value:=.agg #[.int .u8 e.kind,.string e.name,.string e.a,.string e.b,.string e.c,.string e.d,.float .f64 e.val,.int .i64 e.ph]
theorem zEc (w:World) (o1 o2:Obj):((w.alloc o1).alloc o2).heap[w.heap.size]? =some o1∧((w.alloc o1).alloc o2).heap[w.heap.size+1]? =some o2∧Below w.heap.size w ((w.alloc o1).alloc o2):=by
 have h1:(w.alloc o1).heap.size=w.heap.size+1:=by simp
 have h2:=heap_alloc_new (w.alloc o1) o2;rw [h1] at h2;exact ⟨(heap_alloc_old (w.alloc o1) o2 (by simp)).trans (heap_alloc_new w o1),h2,((Below.refl _ w).alloc (Nat.le_refl _) _).alloc (by simp) _⟩
theorem element_any (e:El) (w:World):
 Calls Tryz.prog 52 #[.agg #[.int .u8 e.kind,.string e.name,.string e.a,.string e.b,.string e.c,.string e.d,.int .u64 e.val,.int .i64 e.ph]] w fun en w'=> en=.returned (agE e)∧Below w.heap.size w w':=by
 have b2:=zDt;go_enter Tryz.func52,Tryz.ntmps52;go_upto_region 1 with fail;obtain ⟨hA,hR,hB⟩:=zEc w (.cells #[.int .u8 e.kind,.string e.name,.string e.a,.string e.b,.string e.c,.string e.d,.int .u64 e.val,.int .i64 e.ph] 95) (.cells #[.int .u8 0,.string ⟨#[]⟩,.string ⟨#[]⟩,.string ⟨#[]⟩,.string ⟨#[]⟩,.string ⟨#[]⟩,.float .f64 0,.int .i64 0] 35);generalize hW:(w.alloc (.cells #[.int .u8 e.kind,.string e.name,.string e.a,.string e.b,.string e.c,.string e.d,.int .u64 e.val,.int .i64 e.ph] 95)).alloc (.cells #[.int .u8 0,.string ⟨#[]⟩,.string ⟨#[]⟩,.string ⟨#[]⟩,.string ⟨#[]⟩,.string ⟨#[]⟩,.float .f64 0,.int .i64 0] 35)=W at *;obtain ⟨hc,_⟩:=zAc hA;have c0:=hc 0 _ rfl;have c1:=hc 1 _ rfl;have c2:=hc 2 _ rfl;have c3:=hc 3 _ rfl;have c4:=hc 4 _ rfl;have c5:=hc 5 _ rfl;have c6:=hc 6 _ rfl;have c7:=hc 7 _ rfl;have HB:=hid hB;have HR:=hid hR;have HW:=hid hW;clear hc hA hR hB hW
 go_still_tail 18,(by kernel_rfl)
 change wpList _ _ _ _ _ W.drew;rw [←HW.out];go_wp2;refine bodyPost_ret (v:=.agg #[.int .u8 e.kind,.string e.name,.string e.a,.string e.b,.string e.c,.string e.d,.float .f64 e.val,.int .i64 e.ph]) ?_ rfl ⟨rfl,?_⟩
 · first | (rw [results_cell rfl];go_simp;done) | (unfold results;go_simp;done) | (go_simp;done) | skip
 exact (((Below.refl _ w).alloc (Nat.le_refl _) _).alloc (by simp) _).drew
theorem ea_len (e:El):(ea e).length=8:=rfl
theorem ez_len (e:El):(ez e).length=8:=rfl
theorem elements_any (v:Value) (l:List El) (w:World) (hv:InSl w 8 v l.length (l.flatMap ez)) (hl:l.length * 104≤140737488351232):
 Calls Tryz.prog 25 #[v] w (RetRow 35 8 l.length (fun xs=> xs=l.flatMap ea) w):=by
 obtain ⟨a,c,rfl⟩:=hv.form;obtain ⟨i0,hi,cG,bD,cB⟩:=info_parts zEo;obtain ⟨iu,dU,kD,lS,oY⟩:=info_parts infoEz;go_enter Tryz.func25,Tryz.ntmps25;go_wp2
 go_loopw [3,4] (fun out i wr=> ∃k:Nat,k≤l.length∧i=.int .i64 k∧wr.ownsRow w.heap.size 35 8 out k ((l.take k).flatMap ea)∧Below w.heap.size w wr) (fun _ i _=> l.length - (intOf i).toNat)
 case atStart=> exact ⟨0,Nat.zero_le _,rfl,World.ownsRow_nil _ _ _ _,Below.refl _ _⟩
 case round=>
  obtain ⟨k,hk,rfl,aC,hb⟩:=hrel
  by_cases aM:k < l.length
  · obtain ⟨g,o,x,aZ,hg,hx,aA⟩:=InSl.atF Tryz.underlying22 dU lS ez_len (hv.below hb (Nat.le_refl _)) rfl aM;have c0:=aA 0 _ rfl;have c1:=aA 1 _ rfl;have c2:=aA 2 _ rfl;have c3:=aA 3 _ rfl;have c4:=aA 4 _ rfl;have c5:=aA 5 _ rfl;have c6:=aA 6 _ rfl;have c7:=aA 7 _ rfl;rw [Nat.add_zero] at c0;have HX:=hid hx;have HB:=hid hb;have HO:=hid aC;clear hx hb aC aA;go_wp2_with fail;refine (element_any x _).mono ?_;rintro en w1 ⟨rfl,aI⟩;have aL:=hid (zBh HB.out aI);have hsz:=aL.out.size;have aC:w1.ownsRow w.heap.size 35 8 u3 k ((l.take k).flatMap ea):=zBf HO.out (zAe aI _);go_wp2_with (refine zBq rfl rfl _ rfl _ _ _ rfl rfl w.heap.size 35 8 104 i0 (.agg #[.int .u8 0,.string ⟨#[]⟩,.string ⟨#[]⟩,.string ⟨#[]⟩,.string ⟨#[]⟩,.string ⟨#[]⟩,.float .f64 0,.int .i64 0]) Tryz.underlying31 hi cG bD cB rfl (by decide) (by decide) _ k _ aC hsz (.agg #[.int .u8 x.kind,.string x.name,.string x.a,.string x.b,.string x.c,.string x.d,.float .f64 x.val,.int .i64 x.ph]) rfl rfl (ea_one x) rfl rfl (by simp [maxLen];omega) (by omega) ?_;intro g1 cap1 w2 aS fM bU);go_roundw
    case rel=>
     refine ⟨k+1,by omega,by go_num,?_,?_⟩
     · rw [flat_take l k x HX.out];exact aS
     · rcases bU with ⟨h1,h2⟩ | ⟨_,h2⟩
       · exact zBo aL.out h2 fun _ e=> by cases e;exact (aC.lt _ h1).1
       · exact zBo aL.out h2 fun _ e=> by cases e
    case measure=> simp [intOf];omega
  · go_wp2;go_ret;obtain rfl:k=l.length:=by omega
    exact ⟨_,_,rfl,aC,by simp,hb⟩
end
section
open Go.RowKit
def RN (w:World) (p:Value) (l:List El):Prop:=
 (p=.pointer none∧l= [])∨∃g v,p=.pointer (some ⟨g,0,none⟩)∧w.cell? ⟨g,0,none⟩=some v∧w.cell? ⟨g,1,none⟩=some (.bool true)∧IsSl w 8 v l.length (l.flatMap ea)
theorem RN.below {w w':World} {B:Nat} {p:Value} {l:List El} (h:RN w p l) (hb:Below B w w') (hB:w.heap.size≤B):RN w' p l:=by
 rcases h with h | ⟨g,v,hp,h0,h1,hs⟩
 · exact .inl h
 · exact .inr ⟨g,v,hp,(hb.cell (p:=⟨g,0,none⟩) (Nat.lt_of_lt_of_le (cell_lt h0) hB)).trans h0,(hb.cell (p:=⟨g,1,none⟩) (Nat.lt_of_lt_of_le (cell_lt h1) hB)).trans h1,hs.below hb hB⟩
theorem infoSt:(Tryz.prog.info? 9).map (fun i=> (i.zero,i.size,i.bytes))=some (some (.string ⟨#[]⟩),1,16):=by kernel_rfl
def sts (l:List ByteArray):List Value:=l.map Value.string
theorem none_nil (w:World):Calls Tryz.prog 112 #[.pointer none] w fun e w'=> e=.returned (.bool true)∧w=w':=by
 go_enter Tryz.func112,Tryz.ntmps112;go_wp2;go_ret;exact ⟨rfl,rfl⟩
theorem none_made (g:Nat) (w:World) (h1:w.cell? ⟨g,1,none⟩=some (.bool true)):Calls Tryz.prog 112 #[.pointer (some ⟨g,0,none⟩)] w fun e w'=> e=.returned (.bool false)∧w=w':=by
 go_enter Tryz.func112,Tryz.ntmps112;go_wp2;go_ret;exact ⟨rfl,rfl⟩
theorem relements_any (p:Value) (l:List El) (w:World) (hp:RN w p l) (hl:l.length * 104≤140737488351232):
 Calls Tryz.prog 90 #[p] w (RetRow 35 8 l.length (fun xs=> xs=l.flatMap ea) w):=by
 obtain ⟨i0,hi,cG,bD,cB⟩:=info_parts zEo;rcases hp with ⟨rfl,rfl⟩ | ⟨g,v,rfl,h0,h1,hs⟩
 · go_enter Tryz.func90,Tryz.ntmps90;go_wp2_with (go_at_call 112;refine (none_nil _).mono ?_;rintro e w1 ⟨rfl,rfl⟩)
   (try rw [Exit.noGoto_ret])
   go_ret;exact ⟨_,_,rfl,World.ownsRow_nil _ _ _ _,rfl,Below.refl _ _⟩
 · have H1:=hid h1;have HS:=hid hs;clear h1 hs;go_enter Tryz.func90,Tryz.ntmps90;go_wp2_with (first | (go_at_call 112;refine (none_made _ _ H1.out).mono ?_;rintro e w1 ⟨rfl,rfl⟩) | (refine zBy rfl _ _ _ rfl w.heap.size 35 8 104 i0 (.agg #[.int .u8 0,.string ⟨#[]⟩,.string ⟨#[]⟩,.string ⟨#[]⟩,.string ⟨#[]⟩,.string ⟨#[]⟩,.float .f64 0,.int .i64 0]) Tryz.underlying31 hi cG bD cB rfl (by decide) _ 0 [] (World.ownsRow_nil _ _ _ _) (Nat.le_refl _) _ _ _ HS.out rfl rfl (by intro u hu;obtain ⟨z,_,hz⟩:=List.mem_flatMap.1 hu;exact ea_one z u hz) (by simp [maxLen];omega) (by omega) ?_;intro v1 w1 aS fX pC));go_ret;refine ⟨_,_,rfl,?_,rfl,(Below.refl _ _).grown fX (Nat.le_refl _) (by intro k e;cases e)⟩
   simpa using aS
theorem zEx {w:World} {B B' e size n:Nat} {v:Value} {xs:List Value} (h:w.ownsRow B' e size v n xs) (hB:B≤B'):w.ownsRow B e size v n xs:=by
 obtain ⟨h1,h2⟩:=h;refine ⟨h1,?_⟩;rcases h2 with h | ⟨g,cap,cur,ha,hb,hc⟩
 · exact .inl h
 · exact .inr ⟨g,cap,cur,ha,Nat.le_trans hB hb,hc⟩
def isBr (e:El):Bool:=e.kind==5 || e.kind==7
def brs (l:List El):List ByteArray:=(l.filter isBr).map (·.name)
theorem brs_yes {l:List El} {k:Nat} {x:El} (h:l[k]? =some x) (hx:isBr x=true):brs (l.take (k+1))=brs (l.take k)++ [x.name]:=by
 obtain ⟨hk,e⟩:=List.getElem?_eq_some_iff.1 h;subst e;unfold brs;rw [List.take_succ_eq_append_getElem hk,List.filter_append,List.map_append]
 simp [hx]
theorem brs_no {l:List El} {k:Nat} {x:El} (h:l[k]? =some x) (hx:isBr x=false):brs (l.take (k+1))=brs (l.take k):=by
 obtain ⟨hk,e⟩:=List.getElem?_eq_some_iff.1 h;subst e;unfold brs;rw [List.take_succ_eq_append_getElem hk,List.filter_append,List.map_append]
 simp [hx]
theorem brs_len (l:List El):(brs l).length≤l.length:=by
 unfold brs;rw [List.length_map];exact List.length_filter_le _ _
theorem brs_take_len (l:List El) (k:Nat):(brs (l.take k)).length≤k:=Nat.le_trans (brs_len _) (by rw [List.length_take];omega)
theorem sts_snoc (l:List ByteArray) (s:ByteArray):sts (l++ [s])=sts l++ [.string s]:=by simp [sts]
theorem sts_one {l:List ByteArray} {u:Value} (h:u∈sts l):u.oneCell'=true:=by
 obtain ⟨s,_,rfl⟩:=List.mem_map.1 h
 rfl
theorem br_ways (x:El):((x.kind==5)=true∧isBr x=true)∨((x.kind==5)=false∧(x.kind==7)=true∧isBr x=true)∨((x.kind==5)=false∧(x.kind==7)=false∧isBr x=false):=by
 unfold isBr;cases (x.kind==5) <;> cases (x.kind==7) <;> simp
theorem pushed {w wr w2:World} {e size n g:Nat} {v:Value} {xs:List Value} (hb:Below w.heap.size w wr) (ho:wr.ownsRow w.heap.size e size v n xs)
 (h:(v.ownBlock=some g∧wr.grownBy w2 (some g))∨(wr.heap.size≤g∧wr.grownBy w2 none)):Below w.heap.size w w2:=by
 rcases h with ⟨h1,h2⟩ | ⟨_,h2⟩
 · exact zBo hb h2 fun _ e=> by cases e;exact (ho.lt _ h1).1
 · exact zBo hb h2 fun _ e=> by cases e
theorem rbranches_any (p:Value) (l:List El) (w:World) (hp:RN w p l) (hl:l.length≤100000):
 Calls Tryz.prog 55 #[p] w (RetRow 9 1 (brs l).length (fun xs=> xs=sts (brs l)) w):=by
 obtain ⟨i0,hi,cG,bD,cB⟩:=info_parts infoSt;obtain ⟨iu,dU,kD,lS,oY⟩:=info_parts zEo;go_enter Tryz.func55,Tryz.ntmps55;go_wp2_with (go_at_call 90;refine (relements_any _ l _ hp (by omega)).mono ?_;rintro e w0 ⟨v0,xs,rfl,fT,rfl,kP⟩;obtain ⟨a,c,rfl⟩:=(IsSl.of_own fT).form);have HI:=hid (IsSl.of_own fT);have oB:=hid kP;clear kP fT hp
 go_loopw [3,5] (fun out i wr=> ∃k:Nat,k≤l.length∧i=.int .i64 k∧wr.ownsRow w0.heap.size 9 1 out (brs (l.take k)).length (sts (brs (l.take k)))∧Below w0.heap.size w0 wr) (fun _ i _=> l.length - (intOf i).toNat)
 case atStart=> exact ⟨0,Nat.zero_le _,rfl,World.ownsRow_nil _ _ _ _,Below.refl _ _⟩
 case round=>
  obtain ⟨k,hk,rfl,aC,hb⟩:=hrel
  by_cases aM:k < l.length
  · obtain ⟨g,o,x,aZ,hg,hx,aA⟩:=IsSl.atF Tryz.underlying31 dU lS ea_len (HI.out.below hb (Nat.le_refl _)) rfl aM;have c0:=aA 0 _ rfl;have c1:=aA 1 _ rfl;rw [Nat.add_zero] at c0;have HX:=hid hx;have HB:=hid hb;have HO:=hid aC;have hlen:=brs_take_len l k;clear hx hb aC aA;rcases br_ways x with ⟨h5,h0⟩ | ⟨h5,h7,h0⟩ | ⟨h5,h7,h0⟩
    · have gA:=hid h0;clear h0;have aC:=HO.out;have hsz:=HB.out.size;go_wp2_with (refine zBq rfl rfl _ rfl _ _ _ rfl rfl w0.heap.size 9 1 16 i0 (.string ⟨#[]⟩) Tryz.underlying70 hi cG bD cB rfl (by decide) (by decide) _ (brs (l.take k)).length _ aC hsz (.string x.name) rfl rfl (by intro u hu;simp [Value.cells] at hu;subst hu;rfl) rfl rfl (by simp [maxLen];omega) (by omega) ?_;intro g1 cap1 w2 aS fM bU);go_roundw
      case rel=>
       refine ⟨k+1,by omega,by go_num,?_,?_⟩
       · rw [brs_yes HX.out gA.out,List.length_append,sts_snoc];exact aS
       · exact pushed HB.out HO.out bU
      case measure=> simp [intOf];omega
    · have gA:=hid h0;clear h0;have aC:=HO.out;have hsz:=HB.out.size;go_wp2_with (refine zBq rfl rfl _ rfl _ _ _ rfl rfl w0.heap.size 9 1 16 i0 (.string ⟨#[]⟩) Tryz.underlying70 hi cG bD cB rfl (by decide) (by decide) _ (brs (l.take k)).length _ aC hsz (.string x.name) rfl rfl (by intro u hu;simp [Value.cells] at hu;subst hu;rfl) rfl rfl (by simp [maxLen];omega) (by omega) ?_;intro g1 cap1 w2 aS fM bU);go_roundw
      case rel=>
       refine ⟨k+1,by omega,by go_num,?_,?_⟩
       · rw [brs_yes HX.out gA.out,List.length_append,sts_snoc];exact aS
       · exact pushed HB.out HO.out bU
      case measure=> simp [intOf];omega
    · have gA:=hid h0;clear h0;go_wp2_with fail;go_roundw
      case rel=>
       refine ⟨k+1,by omega,by go_num,?_,HB.out⟩;rw [brs_no HX.out gA.out];exact HO.out
      case measure=> simp [intOf];omega
  · go_wp2;go_ret;obtain rfl:k=l.length:=by omega
    rw [List.take_length] at aC;exact ⟨_,_,rfl,zEx aC oB.out.size,rfl,zAd oB.out hb⟩
end
section
open Go.RowKit
def has (l:List ByteArray) (s:ByteArray):Bool:=l.any fun t=> t.toList==s.toList
def gnd (s:ByteArray):Bool:=(s.toList== []) || (s.toList== [48])
def nd1 (acc:List ByteArray) (s:ByteArray):List ByteArray:=if (gnd s || has acc s)=true then acc else acc++ [s]
def fr (e:El):List ByteArray:= [e.a,e.b,e.c,e.d]
def nd4 (acc:List ByteArray) (e:El):List ByteArray:=(fr e).foldl nd1 acc
def nds (l:List El):List ByteArray:=l.foldl nd4 []
theorem nd1_len (acc:List ByteArray) (s:ByteArray):(nd1 acc s).length≤acc.length+1:=by
 unfold nd1
 split <;> simp
theorem fold_len:∀ (l acc:List ByteArray),(l.foldl nd1 acc).length≤acc.length+l.length
 | [],acc=> by simp
 | s::l,acc=> by
  rw [List.foldl_cons,List.length_cons];have h1:=fold_len l (nd1 acc s);have h2:=nd1_len acc s
  omega
theorem nds_len_aux:∀ (l:List El) (acc:List ByteArray),(l.foldl nd4 acc).length≤acc.length+4 * l.length
 | [],acc=> by simp
 | e::l,acc=> by
  rw [List.foldl_cons,List.length_cons];have h1:=nds_len_aux l (nd4 acc e);have h2:(nd4 acc e).length≤acc.length+4:=fold_len (fr e) acc
  omega
theorem nds_len (l:List El):(nds l).length≤4 * l.length:=by have:=nds_len_aux l [];simpa [nds] using this
theorem nds_take_len (l:List El) (k:Nat):(nds (l.take k)).length≤4 * k:=Nat.le_trans (nds_len _) (by rw [List.length_take];omega)
theorem nds_snoc {l:List El} {k:Nat} {x:El} (h:l[k]? =some x):nds (l.take (k+1))=nd4 (nds (l.take k)) x:=by
 obtain ⟨hk,e⟩:=List.getElem?_eq_some_iff.1 h;subst e;unfold nds;rw [List.take_succ_eq_append_getElem hk,List.foldl_append]
 rfl
theorem fold_snoc {l:List ByteArray} {k:Nat} {s:ByteArray} (h:l[k]? =some s) (acc:List ByteArray):(l.take (k+1)).foldl nd1 acc=nd1 ((l.take k).foldl nd1 acc) s:=by
 obtain ⟨hk,e⟩:=List.getElem?_eq_some_iff.1 h;subst e;rw [List.take_succ_eq_append_getElem hk,List.foldl_append]
 rfl
theorem has_snoc {l:List ByteArray} {k:Nat} {t:ByteArray} (h:l[k]? =some t) (s:ByteArray):has (l.take (k+1)) s=(has (l.take k) s || (t.toList==s.toList)):=by
 obtain ⟨hk,e⟩:=List.getElem?_eq_some_iff.1 h;subst e;unfold has;rw [List.take_succ_eq_append_getElem hk,List.any_append]
 simp
theorem sts_get {l:List ByteArray} {k:Nat} {x:Value} (h:(sts l)[k]? =some x):∃s,l[k]? =some s∧x=.string s:=map_getElem? h
theorem fr_len (e:El):(fr e).length=4:=rfl
theorem sl_laid {w:World} {n size:Nat} {cs:Array Value} {t:TypeId} {xs:List Value} (h:cs.toList=xs) (hn:xs.length=n * size):IsSl (w.alloc (.cells cs t)) size (.slice (some ⟨w.heap.size,0,none⟩) n n) n xs:=by
 subst h;refine ⟨hn,.inr ⟨_,_,_,rfl,Nat.le_refl _,by simp,fun j hj=> ?_⟩⟩;rw [cell_of_row _ _ _ _ _ _ (heap_alloc_new w _)]
 simp
theorem nd1_yes {acc:List ByteArray} {s:ByteArray} (h:(gnd s || has acc s)=true):nd1 acc s=acc:=by unfold nd1;rw [if_pos h]
theorem nd1_no {acc:List ByteArray} {s:ByteArray} (h:(gnd s || has acc s)=false):nd1 acc s=acc++ [s]:=by unfold nd1;rw [if_neg (by rw [h];simp)]
theorem gnd_ways (s:ByteArray):(s.toList= []∧gnd s=true)∨(¬s.toList= []∧(s.toList== [])=false∧s.toList= [48]∧gnd s=true)∨(¬s.toList= []∧(s.toList== [])=false∧¬s.toList= [48]∧(s.toList== [48])=false∧gnd s=false):=by
 unfold gnd
 by_cases h1:s.toList= []
 · simp [h1]
 · by_cases h2:s.toList= [48] <;> simp [h1,h2]
theorem rnodes_any (p:Value) (l:List El) (w:World) (hp:RN w p l) (hl:l.length≤100000):
 Calls Tryz.prog 54 #[p] w (RetRow 9 1 (nds l).length (fun xs=> xs=sts (nds l)) w):=by
 obtain ⟨i0,hi,cG,bD,cB⟩:=info_parts infoSt;obtain ⟨iu,dU,kD,lS,oY⟩:=info_parts zEo;go_enter Tryz.func54,Tryz.ntmps54;go_wp2_with (go_at_call 90;refine (relements_any _ l _ hp (by omega)).mono ?_;rintro e w0 ⟨v0,xs,rfl,fT,rfl,kP⟩;obtain ⟨a,c,rfl⟩:=(IsSl.of_own fT).form);have HI:=hid (IsSl.of_own fT);have oB:=hid kP;clear kP fT hp
 go_loopw [3,5] (fun out i wr=> ∃k:Nat,k≤l.length∧i=.int .i64 k∧wr.ownsRow w0.heap.size 9 1 out (nds (l.take k)).length (sts (nds (l.take k)))∧Below w0.heap.size w0 wr) (fun _ i _=> l.length - (intOf i).toNat)
 case atStart=> exact ⟨0,Nat.zero_le _,rfl,World.ownsRow_nil _ _ _ _,Below.refl _ _⟩
 case round=>
  obtain ⟨k,hk,rfl,aC,hb⟩:=hrel;obtain ⟨wo,rfl⟩:∃wo:World,wo=wr:=⟨_,rfl⟩
  by_cases aM:k < l.length
  · obtain ⟨g,o,x,aZ,hg,hx,aA⟩:=IsSl.atF Tryz.underlying31 dU lS ea_len (HI.out.below hb (Nat.le_refl _)) rfl aM;have c2:=aA 2 _ rfl;have c3:=aA 3 _ rfl;have c4:=aA 4 _ rfl;have c5:=aA 5 _ rfl;have HX:=hid hx;have HB:=hid hb;have HO:=hid aC;have hlen:=nds_take_len l k;clear hx hb aC aA hg;go_upto_region 6 with fail
    go_still_tail 20,(by kernel_rfl)
    change wpList _ _ _ _ _ wo.drew;go_upto_region 8 with fail;have hF:=sl_laid (w:=wo) (cs:=#[.string x.a,.string x.b,.string x.c,.string x.d]) (t:=9) (n:=4) (size:=1) (xs:=sts (fr x)) rfl rfl;have aK:u3.ownBlock≠some wo.heap.size:=fun e=> Nat.lt_irrefl _ (HO.out.lt _ e).2
    have hO2:(wo.alloc (.cells #[.string x.a,.string x.b,.string x.c,.string x.d] 9)).drew.ownsRow w0.heap.size 9 1 u3 (nds (l.take k)).length (sts (nds (l.take k))):=by exact HO.out.alloc _
    have hB2:Below w0.heap.size w0 (wo.alloc (.cells #[.string x.a,.string x.b,.string x.c,.string x.d] 9)).drew:=(HB.out.alloc HB.out.size _).drew;have hF2:IsSl (wo.alloc (.cells #[.string x.a,.string x.b,.string x.c,.string x.d] 9)).drew 1 (.slice (some ⟨wo.heap.size,0,none⟩) 4 4) 4 (sts (fr x)):=by exact hF
    clear hF c2 c3 c4 c5;generalize (wo.alloc (.cells #[.string x.a,.string x.b,.string x.c,.string x.d] 9)).drew=w4 at *;obtain ⟨gf,gZ⟩:∃gf,wo.heap.size=gf:=⟨_,rfl⟩;rw [gZ] at hF2 aK;rw [gZ];have fR:=hid aK;have mN:=hid hO2;have aG:=hid hB2;have iS:=hid hF2;clear aK hO2 hB2 hF2 gZ
    go_loopw [3,7] (fun out j wi=> ∃q:Nat,q≤4∧j=.int .i64 q∧wi.ownsRow w0.heap.size 9 1 out (((fr x).take q).foldl nd1 (nds (l.take k))).length (sts (((fr x).take q).foldl nd1 (nds (l.take k))))∧Below w0.heap.size w0 wi∧IsSl wi 1 (.slice (some ⟨gf,0,none⟩) 4 4) 4 (sts (fr x))∧out.ownBlock≠some gf) (fun _ j _=> 4 - (intOf j).toNat)
    case atStart=> exact ⟨0,Nat.zero_le _,rfl,mN.out,aG.out,iS.out,fR.out⟩
    case round=>
     obtain ⟨q,hq,rfl,aC,hb,hF,aK⟩:=hrel;obtain ⟨wi,rfl⟩:∃wi:World,wi=wr:=⟨_,rfl⟩
     by_cases hlt4:q < 4
     · obtain ⟨g2,o2,y,oG,iR,cC,hy⟩:=IsSl.at1 Tryz.underlying70 hi bD hF hlt4;obtain ⟨s,hs,rfl⟩:=sts_get hy;obtain ⟨a3,c3,rfl⟩:=(IsSl.of_own aC).form;have hlen2:(((fr x).take q).foldl nd1 (nds (l.take k))).length≤4 * k+4:=by
        have h1:=fold_len ((fr x).take q) (nds (l.take k));have h2:((fr x).take q).length≤4:=by rw [List.length_take];omega
        omega
       have iY:=fold_snoc hs (nds (l.take k));generalize ((fr x).take q).foldl nd1 (nds (l.take k))=A at *;have jQ:=hid iY;have HOI:=hid aC;have HBI:=hid hb;have vQ:=hid hF;have HNI:=hid aK;have hd:decide ((q:Int) < 4)=true:=by simp;omega
       clear iY aC hb hF aK hy hs iR;go_upto_region 10 with fail
       go_cut [8] (fun t wx=> t=.bool (gnd s)∧wx=wi)
       case first=>
        rcases gnd_ways s with ⟨h1,h0⟩ | ⟨h1,g1,h2,h0⟩ | ⟨h1,g1,h2,g2',h0⟩
        all_goals
         have H0:=hid h0;clear h0;go_wp2_with fail;go_meet;exact ⟨by rw [H0.out],rfl⟩
       case rest=>
        obtain ⟨rfl,rfl⟩:=hcut;go_upto_region 12 with fail;obtain ⟨wa,rfl⟩:∃wa:World,wa=wc:=⟨_,rfl⟩
        go_loopw [8,9] (fun t j wj=> ∃r n:Nat,r≤A.length∧j=.int .i64 r∧t=.bool (gnd s || has (A.take r) s)∧wj=wa.drewN n) (fun _ j _=> A.length - (intOf j).toNat)
        case atStart=> exact ⟨0,0,Nat.zero_le _,rfl,by simp [has],rfl⟩
        case round=>
         obtain ⟨r,n,hr,rfl,rfl,hw⟩:=hrel;have hOj:wr.ownsRow w0.heap.size 9 1 (.slice a3 A.length c3) A.length (sts A):=by rw [hw];exact HOI.out
         have hFj:IsSl wr 1 (.slice (some ⟨gf,0,none⟩) 4 4) 4 (sts (fr x)):=by rw [hw];exact vQ.out
         have hcj:wr.cell? ⟨g2,o2,none⟩=some (.string s):=by rw [hw];exact cC
         have hBj:Below w0.heap.size w0 wr:=by rw [hw];exact zAg HBI.out n
         have HW:=hid hw;clear hw cC
         by_cases hltr:r < A.length
         · obtain ⟨g5,o5,y5,hidx5,mD,hc5,hy5⟩:=IsSl.at1 Tryz.underlying70 hi bD (IsSl.of_own hOj) hltr;obtain ⟨s5,hs5,rfl⟩:=sts_get hy5;have HS:=hid (has_snoc hs5 s);clear hy5 hs5 mD;cases nM:(gnd s || has (A.take r) s)
           · have qG:=hid nM;clear nM;go_upto_region 14 with fail
             go_quiet (fail)
             go_wp2;go_roundw
             case rel=> exact ⟨r+1,nq+n,by omega,by go_num,by rw [HS.out,←Bool.or_assoc,qG.out];rfl,by rw [HW.out];simp [World.drewN_drewN,Nat.add_comm]⟩
             case measure=> simp [intOf];omega
           · have qG:=hid nM;clear nM;go_upto_region 14 with fail
             go_quiet (fail)
             go_wp2;go_roundw
             case rel=> exact ⟨r+1,nq+n,by omega,by go_num,by rw [HS.out,←Bool.or_assoc,qG.out];rfl,by rw [HW.out];simp [World.drewN_drewN,Nat.add_comm]⟩
             case measure=> simp [intOf];omega
         · obtain rfl:r=A.length:=by omega
           rw [List.take_length];cases nM:(gnd s || has A s)
           · have qG:=hid nM;clear nM;have aC:=hOj;have hsz:=hBj.size;go_wp2_with (refine zBq rfl rfl _ rfl _ _ _ rfl rfl w0.heap.size 9 1 16 i0 (.string ⟨#[]⟩) Tryz.underlying70 hi cG bD cB rfl (by decide) (by decide) _ A.length _ aC hsz (.string s) rfl rfl (by intro u hu;simp [Value.cells] at hu;subst hu;rfl) rfl rfl (by simp [maxLen];omega) (by omega) ?_;intro g1 cap1 w2 aS fM bU);go_roundw
             case rel=>
              refine ⟨q+1,by omega,by go_num,?_,pushed hBj hOj bU,?_,?_⟩
              · rw [jQ.out,nd1_no qG.out,List.length_append,sts_snoc];exact aS
              · rcases bU with ⟨h1,h2⟩ | ⟨_,h2⟩
                · exact hFj.grown h2 fun g e e2=> HNI.out (h1.trans (e2.trans e.symm))
                · exact hFj.grown h2 fun g _ e2=> by cases e2
              · intro e;rcases bU with ⟨h1,_⟩ | ⟨h1,_⟩
                · exact HNI.out (h1.trans e)
                · have h2:g1=gf:=Option.some.inj e;have h3:gf < wr.heap.size:=hFj.lt rfl
                  omega
             case measure=> simp [intOf];omega
           · have qG:=hid nM;clear nM;go_wp2_with fail;go_roundw
             case rel=>
              refine ⟨q+1,by omega,by go_num,?_,hBj,hFj,HNI.out⟩;rw [jQ.out,nd1_yes qG.out];exact hOj
             case measure=> simp [intOf];omega
     · obtain rfl:q=4:=by omega
       go_wp2_with fail;go_roundw
       case rel=>
        refine ⟨k+1,by omega,by go_num,?_,hb⟩;rw [nds_snoc HX.out];exact aC
       case measure=> simp [intOf];omega
  · go_wp2;go_ret;obtain rfl:k=l.length:=by omega
    rw [List.take_length] at aC;exact ⟨_,_,rfl,zEx aC oB.out.size,rfl,zAd oB.out hb⟩
end
section
open Go.RowKit
theorem above_not {x:Nat} (h:(FloatKind.f64.format.order x 0==some Ordering.gt)=false):zDp x=true:=by
 have e:ford x 0=FloatKind.f64.format.order x 0:=rfl;unfold zDp;rw [e,h]
 rfl
theorem above_gt {x:Nat} (h:(FloatKind.f64.format.order x 0==some Ordering.gt)=true):zDp x=false:=by
 have e:ford x 0=FloatKind.f64.format.order x 0:=rfl;unfold zDp;rw [e,h]
 rfl
theorem rcheck_any (e:El) (w:World) (he:e.Ok):
 Calls Tryz.prog 53 #[.agg #[.int .u8 e.kind,.string e.name,.string e.a,.string e.b,.string e.c,.string e.d,.float .f64 e.val,.int .i64 e.ph]] w (RetI (zAv e) w):=by
 have HE:=hid he;clear he;cases hk:isK e.kind
 · have HK:=hid hk;clear hk;go_enter Tryz.func53,Tryz.ntmps53;go_wp2_with (go_at_call 86;refine (rrow13_agg _ _).mono ?_;rintro e1 w1 ⟨rfl,aI⟩;rw [HK.out])
   (try rw [Exit.noGoto_ret])
   go_ret;have hb:=((Below.refl _ w).alloc (Nat.le_refl _) _).trans (aI.mono (by simp));exact ⟨zBw (by unfold zAv;rw [HK.out];rfl),hb.alloc hb.size _⟩
 · have HK:=hid hk;clear hk;go_enter Tryz.func53,Tryz.ntmps53;go_upto_region 2 with (go_at_call 86;refine (rrow13_agg _ _).mono ?_;rintro e1 w1 ⟨rfl,aI⟩;rw [HK.out,kin_yes HK.out];have aL:=hid aI;clear aI);have hA0:=(aL.out.block w.heap.size (by simp)).trans (heap_alloc_new w _);have kF:w.heap.size < w1.heap.size:=by have:=aL.out.size;simp at this;omega
   have oA:=hid ((((Below.refl _ w).alloc (Nat.le_refl _) _).trans (aL.out.mono (by simp))).alloc (Nat.le_of_lt kF) (.cells #[.int .u8 e.kind,.int .u8 (kLet e.kind),.string (kUnit e.kind),.bool (kAb e.kind),.bool (kPh e.kind),.bool (kFo e.kind)] 143));have hA1:=zCg (o':=.cells #[.int .u8 e.kind,.int .u8 (kLet e.kind),.string (kUnit e.kind),.bool (kAb e.kind),.bool (kPh e.kind),.bool (kFo e.kind)] 143) hA0;have hR1:=heap_alloc_new w1 (.cells #[.int .u8 e.kind,.int .u8 (kLet e.kind),.string (kUnit e.kind),.bool (kAb e.kind),.bool (kPh e.kind),.bool (kFo e.kind)] 143);obtain ⟨gr,aF⟩:∃gr,w1.heap.size=gr:=⟨_,rfl⟩;generalize w1.alloc (.cells #[.int .u8 e.kind,.int .u8 (kLet e.kind),.string (kUnit e.kind),.bool (kAb e.kind),.bool (kPh e.kind),.bool (kFo e.kind)] 143)=w2 at *;rw [aF] at *;clear aF hA0 aL kF;have k1:=(zAc hA1).1 1 _ rfl;have HA:=hid hA1;have HR:=hid hR1;clear hA1 hR1;go_upto_region 5 with (go_at_call 87;refine (rname_any _ _ HE.out.name).mono ?_;rintro e3 w3 ⟨rfl,fP⟩;have aT:=hid fP;clear fP);have nZ:=hid (oA.out.trans (aT.out.mono oA.out.size));obtain ⟨kQ,_⟩:=zAc (zAa aT.out HA.out);obtain ⟨lT,_⟩:=zAc (zAa aT.out HR.out);have c0:=kQ 0 _ rfl;have c2:=kQ 2 _ rfl;have c3:=kQ 3 _ rfl;have c4:=kQ 4 _ rfl;have c5:=kQ 5 _ rfl;have c6:=kQ 6 _ rfl;have c7:=kQ 7 _ rfl;have r2:=lT 5 _ rfl;have r3:=lT 3 _ rfl;have r4:=lT 4 _ rfl;clear kQ lT HA HR oA aT k1
   go_cut [5,6,56] (fun _ _ t wx=> t=.bool (zCc e)∧Below w3.heap.size w3 wx)
   case first=>
    have hself:=Below.refl w3.heap.size w3;rcases name_ways e with ⟨h1,h0⟩ | ⟨h1,h2,h0⟩ | ⟨h1,h2,h3,h0⟩ | ⟨h1,h2,h3,h4,h0⟩ | ⟨h1,h2,h3,h4,h5,h0⟩ | ⟨h1,h2,h3,h4,h5,h6,h0⟩ | ⟨h1,h2,h3,h4,h5,h6,h7,h0⟩ | ⟨h1,h2,h3,h4,h5,h6,h7,h0⟩
    all_goals
     have H0:=hid h0;clear h0;go_wp2_with (go_at_call 88;refine (rnode_any _ _ (by first | exact HE.out.a | exact HE.out.b | exact HE.out.c | exact HE.out.d)).mono ?_;rintro en wn ⟨rfl,rfl⟩);go_meet;exact ⟨by rw [H0.out],by assumption⟩
   case rest=>
    obtain ⟨wa,rfl⟩:∃wa:World,wa=wc:=⟨_,rfl⟩;obtain ⟨rfl,dP⟩:=hcut;have kC:=hid (nZ.out.trans (dP.mono nZ.out.size));have d0:=cell_later dP c0;have d2:=cell_later dP c2;have d3:=cell_later dP c3;have d4:=cell_later dP c4;have d5:=cell_later dP c5;have d6:=cell_later dP c6;have d7:=cell_later dP c7;have s2:=cell_later dP r2;have s3:=cell_later dP r3;have s4:=cell_later dP r4;clear c0 c2 c3 c4 c5 c6 c7 r2 r3 r4 dP nZ;cases hn:zCc e
    · have HN:=hid hn;clear hn;go_upto_region 7 with fail
      go_cut [86] (fun t wx=> t=.bool (zCv e)∧wx=wa)
      case first=>
       rcases arg_ways e with ⟨h1,h0⟩ | ⟨h1,g1,h2,h3,h0⟩ | ⟨h1,g1,h2,h3,h4,h0⟩ | ⟨h1,g1,h2,h3,h4,h5,h0⟩ | ⟨h1,g1,h2,h3,h4,h5,h6,h0⟩ | ⟨h1,g1,h2,h3,h4,h5,h6,h0⟩ | ⟨h1,g1,h2,h3,h0⟩ | ⟨h1,g1,h2,h3,h4,h0⟩ | ⟨h1,g1,h2,h3,h4,h0⟩
       all_goals
        have H0:=hid h0;clear h0;go_wp2_with fail;go_meet;exact ⟨by rw [H0.out],rfl⟩
      case rest=>
       obtain ⟨rfl,rfl⟩:=hcut;cases hg:zCv e
       · have HG:=hid hg;clear hg
         by_cases iA:2 < kindF e.val
         · go_wp2_with (go_at_call 89;refine (kind01_any _ _).mono ?_;rintro e5 w5 ⟨rfl,rfl⟩)
           (try rw [Exit.noGoto_ret])
           go_ret;exact ⟨zBw (by unfold zAv;rw [HK.out,HN.out,HG.out,if_pos iA];rfl),kC.out⟩
         · have uA:=hid (show kindF e.val≤2 by omega);cases ha:kAb e.kind
           · go_wp2_with (go_at_call 89;refine (kind01_any _ _).mono ?_;rintro e5 w5 ⟨rfl,rfl⟩)
             (try rw [Exit.noGoto_ret])
             go_ret;exact ⟨zBw (zFi HK.out HN.out HG.out uA.out (b:=false) (by rw [ha];rfl)).symm,kC.out⟩
           · have HA:=hid ha;cases kE:(FloatKind.f64.format.order e.val 0==some Ordering.gt)
             · have HO:=hid (above_not kE);go_wp2_with (go_at_call 89;refine (kind01_any _ _).mono ?_;rintro e5 w5 ⟨rfl,rfl⟩);clear kE
               (try rw [Exit.noGoto_ret])
               go_ret;exact ⟨zBw (zFi HK.out HN.out HG.out uA.out (b:=true) (by rw [HA.out,HO.out];rfl)).symm,kC.out⟩
             · have HO:=hid (above_gt kE);go_wp2_with (go_at_call 89;refine (kind01_any _ _).mono ?_;rintro e5 w5 ⟨rfl,rfl⟩);clear kE
               (try rw [Exit.noGoto_ret])
               go_ret;exact ⟨zBw (zFi HK.out HN.out HG.out uA.out (b:=false) (by rw [HA.out,HO.out];rfl)).symm,kC.out⟩
       · have HG:=hid hg;clear hg;go_wp2_with fail
         (try rw [Exit.noGoto_ret])
         go_ret;exact ⟨zBw (by unfold zAv;rw [HK.out,HN.out,HG.out];rfl),kC.out⟩
    · have HN:=hid hn;clear hn;go_wp2_with fail
      (try rw [Exit.noGoto_ret])
      go_ret;exact ⟨zBw (by unfold zAv;rw [HK.out,HN.out];rfl),kC.out⟩
end
end Go.Proofs.YtdepiggjneoopaaGreatDoor
