/- a part of the proof of the last text -/
import Derived.Test.YtaegmlhfecfgkaaGreatDoorZMNumbers2
import Derived.StillTailTactics
namespace Go.Proofs.YtaegmlhfecfgkaaGreatDoor
set_option linter.all false
set_option maxHeartbeats 4000000
set_option maxRecDepth 100000
section
open Go.RowKit
def marksOf {α:Type} (mark:Nat→Nat→α) (k n:Nat):List α:=(List.range n).map (mark k)
section
variable {α:Type} {mk:α→Value} {mark:Nat→Nat→α} {E ST B m:Nat} {v0:Value} {V:Nat→Value} {N:Nat→Nat}
structure Fam (mk:α→Value) (E B m:Nat) (v0:Value) (V:Nat→Value) (N:Nat→Nat) (L:Nat→List α) (w wr:World):Prop where
 below:Below B w wr
 size:B≤wr.heap.size
 list:IsSl wr 1 v0 m ((List.range m).map V)
 rows:∀j,j < m→wr.ownsRow B E 1 (V j) (N j) ((L j).map mk)
theorem Fam.len {L:Nat→List α} {w wr:World} (h:Fam mk E B m v0 V N L w wr) {k:Nat} (hk:k < m):(L k).length=N k:=by simpa using (h.rows k hk).1
theorem Fam.form {L:Nat→List α} {w wr:World} (h:Fam mk E B m v0 V N L w wr) {k:Nat} (hk:k < m):∃a c,V k=.slice a (N k) c:=(IsSl.of_own (h.rows k hk)).form
theorem Fam.drewN {L:Nat→List α} {w wr:World} (h:Fam mk E B m v0 V N L w wr) (n:Nat):Fam mk E B m v0 V N L w (wr.drewN n):=⟨below_n h.below n,h.size,h.list,h.rows⟩
theorem Fam.drew {L:Nat→List α} {w wr:World} (h:Fam mk E B m v0 V N L w wr):Fam mk E B m v0 V N L w wr.drew:=⟨h.below.drew,h.size,h.list,h.rows⟩
theorem Fam.later {L:Nat→List α} {w wr w1:World} (h:Fam mk E B m v0 V N L w wr) (hb:Below wr.heap.size wr w1):Fam mk E B m v0 V N L w w1:=
 ⟨h.below.trans (hb.mono h.size),Nat.le_trans h.size hb.size,h.list.below hb (Nat.le_refl _),fun j hj=> (h.rows j hj).kept (row:=none) ⟨hb.os,hb.tape,hb.output,hb.size,fun k hk _=> hb.block k hk⟩ (by cases (V j).ownBlock <;> simp)⟩
theorem IsSl.atV {P:Program} {SST:TypeId} {i:TypeInfo} (ht:P.underlying SST=some (.slice ST)) (hi:P.info? ST=some i) (hs:i.size=1) {wr:World} {a0:Option Addr} {c0:Nat}
 (h:IsSl wr 1 (.slice a0 m c0) m ((List.range m).map V)) {k:Nat} (hk:k < m) {x:Value} (hv:V k=x):
 ∃g o,(∀w',(Instr.indexAt SST (.slice a0 m c0) (.int .i64 k)).run P w'=.ok (.pointer (some ⟨g,o,none⟩)) w')∧g < wr.heap.size∧wr.cell? ⟨g,o,none⟩=some x∧(Value.slice a0 m c0).ownBlock=some g:=by
 obtain ⟨g,o,y,h1,h2,h3,h4⟩:=IsSl.at1 ht hi hs h hk;have hx:y=x:=by
  rw [List.getElem?_map,List.getElem?_range hk] at h4;rw [←hv];simpa using h4.symm
 subst hx;refine ⟨g,o,h1,h2,h3,?_⟩;have:=h1 wr;rcases h.2 with ⟨_,h0⟩ | ⟨g',off,c',he,_,_,_⟩
 · omega
 · cases he;have he:P.elem SST=ST:=by simp [Program.elem,ht]
   rw [run_indexAt_slice wr SST _ m c0 .i64 k (by rw [he];exact ht),if_pos ⟨by omega,by omega⟩,he] at this;simp only [sizeOf,typeInfo,Sem.run_bind,Result.andThen] at this;have hb:((⟨g',off,none⟩:Addr).add k).block=g':=by unfold Addr.add;split <;> rfl
   simp [hi,hs] at this
   have hb2:=congrArg Addr.block this;rw [hb] at hb2;show some g'=some g;rw [hb2]
theorem InSl.atV {P:Program} {SST:TypeId} {i:TypeInfo} (ht:P.underlying SST=some (.slice ST)) (hi:P.info? ST=some i) (hs:i.size=1) {wr:World} {a0:Option Addr} {c0:Nat}
 (h:InSl wr 1 (.slice a0 m c0) m ((List.range m).map V)) {k:Nat} (hk:k < m) {x:Value} (hv:V k=x):
 ∃g o,(∀w',(Instr.indexAt SST (.slice a0 m c0) (.int .i64 k)).run P w'=.ok (.pointer (some ⟨g,o,none⟩)) w')∧g < wr.heap.size∧wr.cell? ⟨g,o,none⟩=some x∧(Value.slice a0 m c0).ownBlock=some g:=
 IsSl.atV ht hi hs (h.pos (by omega)) hk hv
theorem Fam.congr {L L':Nat→List α} {w wr:World} (h:Fam mk E B m v0 V N L w wr) (hl:∀j,j < m→L j=L' j):Fam mk E B m v0 V N L' w wr:=
 ⟨h.below,h.size,h.list,fun j hj=> by rw [←hl j hj];exact h.rows j hj⟩
structure Gs (mk:α→Value) (mark:Nat→Nat→α) (E ST B m:Nat) (v0:Value) (V:Nat→Value) (N:Nat→Nat) (k kr:Nat) (out:Value) (G:Nat→Value) (w wr:World):Prop where
 below:Below B w wr
 size:B≤wr.heap.size
 list:IsSl wr 1 v0 m ((List.range m).map V)
 old:∀j,j < m→IsSl wr 1 (V j) (N j) ((marksOf mark (j+10) (N j)).map mk)
 rows:∀j,j < m→kr≤j→wr.ownsRow B E 1 (V j) (N j) ((marksOf mark (j+10) (N j)).map mk)
 new:∀j,j < k→IsSl wr 1 (G j) (N j+6) ((marksOf mark (j+10) (N j+6)).map mk)
 outR:wr.ownsRow B ST 1 out k ((List.range k).map G)
 outV:∀g,out.ownBlock=some g→(∀j,j < m→(V j).ownBlock≠some g)∧(∀j,j < k→(G j).ownBlock≠some g)∧v0.ownBlock≠some g
 gV:∀j,j < k→∀g,(G j).ownBlock=some g→∀j',j' < m→k≤j'→(V j').ownBlock≠some g
theorem Gs.start {w wr:World} (h:Fam mk E B m v0 V N (fun j=> marksOf mark (j+10) (N j)) w wr):Gs mk mark E ST B m v0 V N 0 0 (.slice none 0 0) V w wr:=
 ⟨h.below,h.size,h.list,fun j hj=> IsSl.of_own (h.rows j hj),fun j hj _=> h.rows j hj,fun j hj=> by omega,World.ownsRow_nil _ _ _ _,fun g hg=> (by cases hg),fun j hj=> by omega⟩
theorem Gs.drewN {k kr:Nat} {out:Value} {G:Nat→Value} {w wr:World} (h:Gs mk mark E ST B m v0 V N k kr out G w wr) (n:Nat):Gs mk mark E ST B m v0 V N k kr out G w (wr.drewN n):=
 ⟨below_n h.below n,h.size,h.list,h.old,h.rows,h.new,h.outR,h.outV,h.gV⟩
theorem own_ne {w w':World} {base e size n:Nat} {v:Value} {xs:List Value} {g:Nat} (h:w.ownsRow base e size v n xs) (hg:w.grownBy w' (some g)) (hne:v.ownBlock≠some g):w'.ownsRow base e size v n xs:=h.kept hg (.inr hne)
theorem own_none {w w':World} {base e size n:Nat} {v:Value} {xs:List Value} (h:w.ownsRow base e size v n xs) (hg:w.grownBy w' none):w'.ownsRow base e size v n xs:=h.kept hg (by cases v.ownBlock <;> simp)
theorem ownBlock_lit {g g' n c:Nat} (h:(Value.slice (some ⟨g,0,none⟩) n c).ownBlock=some g'):g'=g:=by simpa [Value.ownBlock] using h.symm
end
end
section
open Go.RowKit
theorem below_drew_left {w w':World} (h:Below w.drew.heap.size w.drew w'):Below w.heap.size w w':=⟨h.os,h.tape,h.output,h.size,h.block⟩
def Dis (a b:Value):Prop:=∀g,a.ownBlock=some g→b.ownBlock≠some g
theorem Dis.symm {a b:Value} (h:Dis a b):Dis b a:=fun g hb ha=> h g ha hb
structure ORow where
 v:Value
 e:Nat
 size:Nat
 n:Nat
 xs:List Value
def ORow.ok (B:Nat) (w:World) (o:ORow):Prop:=w.ownsRow B o.e o.size o.v o.n o.xs
structure Owns (B:Nat) (dom:Nat × Nat→Prop) (row:Nat × Nat→ORow) (w:World):Prop where
 size:B≤w.heap.size
 ok:∀i,dom i→(row i).ok B w
 dis:∀i j,dom i→dom j→i≠j→Dis (row i).v (row j).v
section
variable {B:Nat} {dom dom':Nat × Nat→Prop} {row row':Nat × Nat→ORow} {w w1:World}
theorem Owns.none (h:B≤w.heap.size) (row:Nat × Nat→ORow):Owns B (fun _=> False) row w:=⟨h,fun _ h=> h.elim,fun _ _ h=> h.elim⟩
theorem Owns.lt (h:Owns B dom row w) {i:Nat × Nat} (hi:dom i) {g:Nat} (hg:(row i).v.ownBlock=some g):B≤g∧g < w.heap.size:=World.ownsRow.lt (h.ok i hi) g hg
theorem grown_of_below (hb:Below w.heap.size w w1) (r:Option Nat):w.grownBy w1 r:=⟨hb.os,hb.tape,hb.output,hb.size,fun k hk _=> hb.block k hk⟩
theorem below_of_grown (hg:w.grownBy w1 Option.none):Below w.heap.size w w1:=⟨hg.os,hg.tape,hg.output,hg.size,fun k hk=> hg.block k hk (by simp)⟩
theorem Owns.later (h:Owns B dom row w) (hb:Below w.heap.size w w1):Owns B dom row w1:=
 ⟨Nat.le_trans h.size hb.size,fun i hi=> own_none (h.ok i hi) (grown_of_below hb _),h.dis⟩
theorem Owns.drewN (h:Owns B dom row w) (n:Nat):Owns B dom row (w.drewN n):=⟨h.size,h.ok,h.dis⟩
theorem Owns.drew (h:Owns B dom row w):Owns B dom row w.drew:=⟨h.size,h.ok,h.dis⟩
theorem Owns.sub (h:Owns B dom row w) (hd:∀j,dom' j→dom j∧row' j=row j):Owns B dom' row' w:=
 ⟨h.size,fun i hi=> by rw [(hd i hi).2];exact h.ok i (hd i hi).1,fun i j hi hj hij=> by rw [(hd i hi).2,(hd j hj).2];exact h.dis i j (hd i hi).1 (hd j hj).1 hij⟩
theorem Owns.new (h:Owns B dom row w) (hb:Below w.heap.size w w1) (i:Nat × Nat) (hr:(row' i).ok w.heap.size w1) (hd:∀j,dom' j→j=i∨(dom j∧row' j=row j)):Owns B dom' row' w1:=by
 have hl:=h.later hb;have fresh:∀j,dom j→Dis (row' i).v (row j).v:=fun j hj g hg e=> by
  have h1:=(World.ownsRow.lt hr g hg).1;have h2:=(h.lt hj e).2
  omega
 refine ⟨hl.size,fun j hj=> ?_,fun j k hj hk hjk=> ?_⟩
 · rcases hd j hj with rfl | ⟨h1,h2⟩
   · exact ⟨hr.1,hr.2.imp id fun ⟨g,cap,cur,hv,hg,r⟩=> ⟨g,cap,cur,hv,Nat.le_trans h.size hg,r⟩⟩
   · rw [h2];exact hl.ok j h1
 · rcases hd j hj with rfl | ⟨h1,h2⟩
   · rcases hd k hk with rfl | ⟨h3,h4⟩
     · exact absurd rfl hjk
     · rw [h4];exact fresh k h3
   · rcases hd k hk with rfl | ⟨h3,h4⟩
     · rw [h2];exact (fresh j h1).symm
     · rw [h2,h4];exact h.dis j k h1 h3 hjk
theorem Owns.write (h:Owns B dom row w) (i:Nat × Nat) (hi:dom i) (hgr:w.grownBy w1 (row i).v.ownBlock) (hv:(row' i).v=(row i).v)
 (hr:(row' i).ok B w1) (hd:∀j,dom' j→j=i∨(dom j∧row' j=row j)):Owns B dom' row' w1:=by
 refine ⟨Nat.le_trans h.size hgr.size,fun j hj=> ?_,fun j k hj hk hjk=> ?_⟩
 · by_cases hji:j=i
   · subst hji;exact hr
   · rcases hd j hj with e | ⟨h1,e⟩
     · exact absurd e hji
     · rw [e];refine (h.ok j h1).kept hgr ?_;cases hb:(row j).v.ownBlock with
       | none=> exact .inl rfl
       | some g=> exact .inr fun e'=> h.dis j i h1 hi hji g hb e'.symm
 · have hvv:∀j,dom' j→(row' j).v=(row j).v∧dom j:=fun j hj=> by
    by_cases hji:j=i
    · subst hji;exact ⟨hv,hi⟩
    · rcases hd j hj with e | ⟨h1,e⟩
      · exact absurd e hji
      · rw [e];exact ⟨rfl,h1⟩
   rw [(hvv j hj).1,(hvv k hk).1];exact h.dis j k (hvv j hj).2 (hvv k hk).2 hjk
end
end
section
open Go.RowKit
end
section
open Go.RowKit
theorem infoEz:(Tryz.prog.info? 26).map (fun i=> (i.zero,i.size,i.bytes))=some (some (.agg #[.int .u8 0,.string ⟨#[]⟩,.string ⟨#[]⟩,.string ⟨#[]⟩,.string ⟨#[]⟩,.string ⟨#[]⟩,.int .u64 0,.int .i64 0]),8,104):=by kernel_rfl
theorem infoEa:(Tryz.prog.info? 47).map (fun i=> (i.zero,i.size,i.bytes))=some (some (.agg #[.int .u8 0,.string ⟨#[]⟩,.string ⟨#[]⟩,.string ⟨#[]⟩,.string ⟨#[]⟩,.string ⟨#[]⟩,.float .f64 0,.int .i64 0]),8,104):=by kernel_rfl
def agE (e:El):Value:=.agg #[.int .u8 e.kind,.string e.name,.string e.a,.string e.b,.string e.c,.string e.d,.float .f64 e.val,.int .i64 e.ph]
theorem two_blocks (w:World) (o1 o2:Obj):((w.alloc o1).alloc o2).heap[w.heap.size]? =some o1∧((w.alloc o1).alloc o2).heap[w.heap.size+1]? =some o2∧Below w.heap.size w ((w.alloc o1).alloc o2):=by
 have h1:(w.alloc o1).heap.size=w.heap.size+1:=by simp
 have h2:=heap_alloc_new (w.alloc o1) o2;rw [h1] at h2;exact ⟨(heap_alloc_old (w.alloc o1) o2 (by simp)).trans (heap_alloc_new w o1),h2,((Below.refl _ w).alloc (Nat.le_refl _) _).alloc (by simp) _⟩
theorem element_any (e:El) (w:World):
 Calls Tryz.prog 9 #[.agg #[.int .u8 e.kind,.string e.name,.string e.a,.string e.b,.string e.c,.string e.d,.int .u64 e.val,.int .i64 e.ph]] w fun en w'=> en=.returned (agE e)∧Below w.heap.size w w':=by
 have b2:=frombits_law;go_enter Tryz.func9,Tryz.ntmps9;go_upto_region 1 with fail;obtain ⟨hA,hR,hB⟩:=two_blocks w (.cells #[.int .u8 e.kind,.string e.name,.string e.a,.string e.b,.string e.c,.string e.d,.int .u64 e.val,.int .i64 e.ph] 26) (.cells #[.int .u8 0,.string ⟨#[]⟩,.string ⟨#[]⟩,.string ⟨#[]⟩,.string ⟨#[]⟩,.string ⟨#[]⟩,.float .f64 0,.int .i64 0] 47);generalize hW:(w.alloc (.cells #[.int .u8 e.kind,.string e.name,.string e.a,.string e.b,.string e.c,.string e.d,.int .u64 e.val,.int .i64 e.ph] 26)).alloc (.cells #[.int .u8 0,.string ⟨#[]⟩,.string ⟨#[]⟩,.string ⟨#[]⟩,.string ⟨#[]⟩,.string ⟨#[]⟩,.float .f64 0,.int .i64 0] 47)=W at *;obtain ⟨hc,_⟩:=block_cells hA;have c0:=hc 0 _ rfl;have c1:=hc 1 _ rfl;have c2:=hc 2 _ rfl;have c3:=hc 3 _ rfl;have c4:=hc 4 _ rfl;have c5:=hc 5 _ rfl;have c6:=hc 6 _ rfl;have c7:=hc 7 _ rfl;have HB:=hid hB;have HR:=hid hR;have HW:=hid hW;clear hc hA hR hB hW
 go_still_tail 18,(by kernel_rfl)
 change wpList _ _ _ _ _ W.drew;rw [←HW.out];go_wp2;refine bodyPost_ret (v:=.agg #[.int .u8 e.kind,.string e.name,.string e.a,.string e.b,.string e.c,.string e.d,.float .f64 e.val,.int .i64 e.ph]) ?_ rfl ⟨rfl,?_⟩
 · first | (rw [results_cell rfl];go_simp;done) | (unfold results;go_simp;done) | (go_simp;done) | skip
 exact (((Below.refl _ w).alloc (Nat.le_refl _) _).alloc (by simp) _).drew
theorem ea_len (e:El):(ea e).length=8:=rfl
theorem ez_len (e:El):(ez e).length=8:=rfl
theorem elements_any (v:Value) (l:List El) (w:World) (hv:InSl w 8 v l.length (l.flatMap ez)) (hl:l.length * 104≤140737488351232):
 Calls Tryz.prog 15 #[v] w (RetRow 47 8 l.length (fun xs=> xs=l.flatMap ea) w):=by
 obtain ⟨a,c,rfl⟩:=hv.form;obtain ⟨i0,hi,hz0,hz1,hz2⟩:=info_parts infoEa;obtain ⟨iu,hiu,hu0,hu1,hu2⟩:=info_parts infoEz;go_enter Tryz.func15,Tryz.ntmps15;go_wp2
 go_loopw [3,4] (fun out i wr=> ∃k:Nat,k≤l.length∧i=.int .i64 k∧wr.ownsRow w.heap.size 47 8 out k ((l.take k).flatMap ea)∧Below w.heap.size w wr) (fun _ i _=> l.length - (intOf i).toNat)
 case atStart=> exact ⟨0,Nat.zero_le _,rfl,World.ownsRow_nil _ _ _ _,Below.refl _ _⟩
 case round=>
  obtain ⟨k,hk,rfl,hown,hb⟩:=hrel
  by_cases hlt:k < l.length
  · obtain ⟨g,o,x,hidx,hg,hx,hcell⟩:=InSl.atF Tryz.underlying22 hiu hu1 ez_len (hv.below hb (Nat.le_refl _)) rfl hlt;have c0:=hcell 0 _ rfl;have c1:=hcell 1 _ rfl;have c2:=hcell 2 _ rfl;have c3:=hcell 3 _ rfl;have c4:=hcell 4 _ rfl;have c5:=hcell 5 _ rfl;have c6:=hcell 6 _ rfl;have c7:=hcell 7 _ rfl;rw [Nat.add_zero] at c0;have HX:=hid hx;have HB:=hid hb;have HO:=hid hown;clear hx hb hown hcell;go_wp2_with fail;refine (element_any x _).mono ?_;rintro en w1 ⟨rfl,hb1⟩;have HB1:=hid (below_step HB.out hb1);have hsz:=HB1.out.size;have hown:w1.ownsRow w.heap.size 47 8 u3 k ((l.take k).flatMap ea):=own_none HO.out (grown_of_below hb1 _);go_wp2_with (refine wpList_push2 rfl rfl _ rfl _ _ _ rfl rfl w.heap.size 47 8 104 i0 (.agg #[.int .u8 0,.string ⟨#[]⟩,.string ⟨#[]⟩,.string ⟨#[]⟩,.string ⟨#[]⟩,.string ⟨#[]⟩,.float .f64 0,.int .i64 0]) Tryz.underlying45 hi hz0 hz1 hz2 rfl (by decide) (by decide) _ k _ hown hsz (.agg #[.int .u8 x.kind,.string x.name,.string x.a,.string x.b,.string x.c,.string x.d,.float .f64 x.val,.int .i64 x.ph]) rfl rfl (ea_one x) rfl rfl (by simp [maxLen];omega) (by omega) ?_;intro g1 cap1 w2 hown1 hg1 htwo);go_roundw
    case rel=>
     refine ⟨k+1,by omega,by go_num,?_,?_⟩
     · rw [flat_take l k x HX.out];exact hown1
     · rcases htwo with ⟨h1,h2⟩ | ⟨_,h2⟩
       · exact below_grown HB1.out h2 fun _ e=> by cases e;exact (hown.lt _ h1).1
       · exact below_grown HB1.out h2 fun _ e=> by cases e
    case measure=> simp [intOf];omega
  · go_wp2;go_ret;obtain rfl:k=l.length:=by omega
    exact ⟨_,_,rfl,hown,by simp,hb⟩
end
section
open Go.RowKit
def RN (w:World) (p:Value) (l:List El):Prop:=
 (p=.pointer none∧l= [])∨∃g v,p=.pointer (some ⟨g,0,none⟩)∧w.cell? ⟨g,0,none⟩=some v∧w.cell? ⟨g,1,none⟩=some (.bool true)∧IsSl w 8 v l.length (l.flatMap ea)
theorem RN.below {w w':World} {B:Nat} {p:Value} {l:List El} (h:RN w p l) (hb:Below B w w') (hB:w.heap.size≤B):RN w' p l:=by
 rcases h with h | ⟨g,v,hp,h0,h1,hs⟩
 · exact .inl h
 · exact .inr ⟨g,v,hp,(hb.cell (p:=⟨g,0,none⟩) (Nat.lt_of_lt_of_le (cell_lt h0) hB)).trans h0,(hb.cell (p:=⟨g,1,none⟩) (Nat.lt_of_lt_of_le (cell_lt h1) hB)).trans h1,hs.below hb hB⟩
theorem infoSt:(Tryz.prog.info? 9).map (fun i=> (i.zero,i.size,i.bytes))=some (some (.string ⟨#[]⟩),1,16):=by kernel_rfl
def sts (l:List ByteArray):List Value:=l.map Value.string
theorem none_nil (w:World):Calls Tryz.prog 94 #[.pointer none] w fun e w'=> e=.returned (.bool true)∧w=w':=by
 go_enter Tryz.func94,Tryz.ntmps94;go_wp2;go_ret;exact ⟨rfl,rfl⟩
theorem none_made (g:Nat) (w:World) (h1:w.cell? ⟨g,1,none⟩=some (.bool true)):Calls Tryz.prog 94 #[.pointer (some ⟨g,0,none⟩)] w fun e w'=> e=.returned (.bool false)∧w=w':=by
 go_enter Tryz.func94,Tryz.ntmps94;go_wp2;go_ret;exact ⟨rfl,rfl⟩
theorem relements_any (p:Value) (l:List El) (w:World) (hp:RN w p l) (hl:l.length * 104≤140737488351232):
 Calls Tryz.prog 66 #[p] w (RetRow 47 8 l.length (fun xs=> xs=l.flatMap ea) w):=by
 obtain ⟨i0,hi,hz0,hz1,hz2⟩:=info_parts infoEa;rcases hp with ⟨rfl,rfl⟩ | ⟨g,v,rfl,h0,h1,hs⟩
 · go_enter Tryz.func66,Tryz.ntmps66;go_wp2_with (go_at_call 94;refine (none_nil _).mono ?_;rintro e w1 ⟨rfl,rfl⟩)
   (try rw [Exit.noGoto_ret])
   go_ret;exact ⟨_,_,rfl,World.ownsRow_nil _ _ _ _,rfl,Below.refl _ _⟩
 · have H1:=hid h1;have HS:=hid hs;clear h1 hs;go_enter Tryz.func66,Tryz.ntmps66;go_wp2_with (first | (go_at_call 94;refine (none_made _ _ H1.out).mono ?_;rintro e w1 ⟨rfl,rfl⟩) | (refine wpList_appendAll rfl _ _ _ rfl w.heap.size 47 8 104 i0 (.agg #[.int .u8 0,.string ⟨#[]⟩,.string ⟨#[]⟩,.string ⟨#[]⟩,.string ⟨#[]⟩,.string ⟨#[]⟩,.float .f64 0,.int .i64 0]) Tryz.underlying45 hi hz0 hz1 hz2 rfl (by decide) _ 0 [] (World.ownsRow_nil _ _ _ _) (Nat.le_refl _) _ _ _ HS.out rfl rfl (by intro u hu;obtain ⟨z,_,hz⟩:=List.mem_flatMap.1 hu;exact ea_one z u hz) (by simp [maxLen];omega) (by omega) ?_;intro v1 w1 hown1 hgr1 hat1));go_ret;refine ⟨_,_,rfl,?_,rfl,(Below.refl _ _).grown hgr1 (Nat.le_refl _) (by intro k e;cases e)⟩
   simpa using hown1
theorem own_base {w:World} {B B' e size n:Nat} {v:Value} {xs:List Value} (h:w.ownsRow B' e size v n xs) (hB:B≤B'):w.ownsRow B e size v n xs:=by
 obtain ⟨h1,h2⟩:=h;refine ⟨h1,?_⟩;rcases h2 with h | ⟨g,cap,cur,ha,hb,hc⟩
 · exact .inl h
 · exact .inr ⟨g,cap,cur,ha,Nat.le_trans hB hb,hc⟩
def isBr (e:El):Bool:=e.kind==5 || e.kind==7
def brs (l:List El):List ByteArray:=(l.filter isBr).map (·.name)
theorem brs_yes {l:List El} {k:Nat} {x:El} (h:l[k]? =some x) (hx:isBr x=true):brs (l.take (k+1))=brs (l.take k)++ [x.name]:=by
 obtain ⟨hk,e⟩:=List.getElem?_eq_some_iff.1 h;subst e;unfold brs;rw [List.take_succ_eq_append_getElem hk,List.filter_append,List.map_append]
 simp [hx]
theorem brs_no {l:List El} {k:Nat} {x:El} (h:l[k]? =some x) (hx:isBr x=false):brs (l.take (k+1))=brs (l.take k):=by
 obtain ⟨hk,e⟩:=List.getElem?_eq_some_iff.1 h;subst e;unfold brs;rw [List.take_succ_eq_append_getElem hk,List.filter_append,List.map_append]
 simp [hx]
theorem brs_len (l:List El):(brs l).length≤l.length:=by
 unfold brs;rw [List.length_map];exact List.length_filter_le _ _
theorem brs_take_len (l:List El) (k:Nat):(brs (l.take k)).length≤k:=Nat.le_trans (brs_len _) (by rw [List.length_take];omega)
theorem sts_snoc (l:List ByteArray) (s:ByteArray):sts (l++ [s])=sts l++ [.string s]:=by simp [sts]
theorem sts_one {l:List ByteArray} {u:Value} (h:u∈sts l):u.oneCell'=true:=by
 obtain ⟨s,_,rfl⟩:=List.mem_map.1 h
 rfl
theorem br_ways (x:El):((x.kind==5)=true∧isBr x=true)∨((x.kind==5)=false∧(x.kind==7)=true∧isBr x=true)∨((x.kind==5)=false∧(x.kind==7)=false∧isBr x=false):=by
 unfold isBr;cases (x.kind==5) <;> cases (x.kind==7) <;> simp
theorem pushed {w wr w2:World} {e size n g:Nat} {v:Value} {xs:List Value} (hb:Below w.heap.size w wr) (ho:wr.ownsRow w.heap.size e size v n xs)
 (h:(v.ownBlock=some g∧wr.grownBy w2 (some g))∨(wr.heap.size≤g∧wr.grownBy w2 none)):Below w.heap.size w w2:=by
 rcases h with ⟨h1,h2⟩ | ⟨_,h2⟩
 · exact below_grown hb h2 fun _ e=> by cases e;exact (ho.lt _ h1).1
 · exact below_grown hb h2 fun _ e=> by cases e
theorem rbranches_any (p:Value) (l:List El) (w:World) (hp:RN w p l) (hl:l.length≤100000):
 Calls Tryz.prog 33 #[p] w (RetRow 9 1 (brs l).length (fun xs=> xs=sts (brs l)) w):=by
 obtain ⟨i0,hi,hz0,hz1,hz2⟩:=info_parts infoSt;obtain ⟨iu,hiu,hu0,hu1,hu2⟩:=info_parts infoEa;go_enter Tryz.func33,Tryz.ntmps33;go_wp2_with (go_at_call 66;refine (relements_any _ l _ hp (by omega)).mono ?_;rintro e w0 ⟨v0,xs,rfl,hown0,rfl,hb0⟩;obtain ⟨a,c,rfl⟩:=(IsSl.of_own hown0).form);have HI:=hid (IsSl.of_own hown0);have HB0:=hid hb0;clear hb0 hown0 hp
 go_loopw [3,5] (fun out i wr=> ∃k:Nat,k≤l.length∧i=.int .i64 k∧wr.ownsRow w0.heap.size 9 1 out (brs (l.take k)).length (sts (brs (l.take k)))∧Below w0.heap.size w0 wr) (fun _ i _=> l.length - (intOf i).toNat)
 case atStart=> exact ⟨0,Nat.zero_le _,rfl,World.ownsRow_nil _ _ _ _,Below.refl _ _⟩
 case round=>
  obtain ⟨k,hk,rfl,hown,hb⟩:=hrel
  by_cases hlt:k < l.length
  · obtain ⟨g,o,x,hidx,hg,hx,hcell⟩:=IsSl.atF Tryz.underlying45 hiu hu1 ea_len (HI.out.below hb (Nat.le_refl _)) rfl hlt;have c0:=hcell 0 _ rfl;have c1:=hcell 1 _ rfl;rw [Nat.add_zero] at c0;have HX:=hid hx;have HB:=hid hb;have HO:=hid hown;have hlen:=brs_take_len l k;clear hx hb hown hcell;rcases br_ways x with ⟨h5,h0⟩ | ⟨h5,h7,h0⟩ | ⟨h5,h7,h0⟩
    · have HBR:=hid h0;clear h0;have hown:=HO.out;have hsz:=HB.out.size;go_wp2_with (refine wpList_push2 rfl rfl _ rfl _ _ _ rfl rfl w0.heap.size 9 1 16 i0 (.string ⟨#[]⟩) Tryz.underlying71 hi hz0 hz1 hz2 rfl (by decide) (by decide) _ (brs (l.take k)).length _ hown hsz (.string x.name) rfl rfl (by intro u hu;simp [Value.cells] at hu;subst hu;rfl) rfl rfl (by simp [maxLen];omega) (by omega) ?_;intro g1 cap1 w2 hown1 hg1 htwo);go_roundw
      case rel=>
       refine ⟨k+1,by omega,by go_num,?_,?_⟩
       · rw [brs_yes HX.out HBR.out,List.length_append,sts_snoc];exact hown1
       · exact pushed HB.out HO.out htwo
      case measure=> simp [intOf];omega
    · have HBR:=hid h0;clear h0;have hown:=HO.out;have hsz:=HB.out.size;go_wp2_with (refine wpList_push2 rfl rfl _ rfl _ _ _ rfl rfl w0.heap.size 9 1 16 i0 (.string ⟨#[]⟩) Tryz.underlying71 hi hz0 hz1 hz2 rfl (by decide) (by decide) _ (brs (l.take k)).length _ hown hsz (.string x.name) rfl rfl (by intro u hu;simp [Value.cells] at hu;subst hu;rfl) rfl rfl (by simp [maxLen];omega) (by omega) ?_;intro g1 cap1 w2 hown1 hg1 htwo);go_roundw
      case rel=>
       refine ⟨k+1,by omega,by go_num,?_,?_⟩
       · rw [brs_yes HX.out HBR.out,List.length_append,sts_snoc];exact hown1
       · exact pushed HB.out HO.out htwo
      case measure=> simp [intOf];omega
    · have HBR:=hid h0;clear h0;go_wp2_with fail;go_roundw
      case rel=>
       refine ⟨k+1,by omega,by go_num,?_,HB.out⟩;rw [brs_no HX.out HBR.out];exact HO.out
      case measure=> simp [intOf];omega
  · go_wp2;go_ret;obtain rfl:k=l.length:=by omega
    rw [List.take_length] at hown;exact ⟨_,_,rfl,own_base hown HB0.out.size,rfl,below_next HB0.out hb⟩
end
end Go.Proofs.YtaegmlhfecfgkaaGreatDoor
