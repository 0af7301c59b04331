/- a part of the proof of the last text -/
import Derived.Test.YtdepiggjneoopaaGreatDoorZMOfN
import Derived.Test.YtdepiggjneoopaaGreatDoorZMReg3
namespace Go.Proofs.YtdepiggjneoopaaGreatDoor
set_option linter.all false
set_option maxHeartbeats 4000000
set_option maxRecDepth 100000
section
open Go.RowKit
theorem zCj {w:World} {B e size n r:Nat} {v:Value} {xs:List Value} (h:w.ownsRow B e size v n xs) (hr:v.ownBlock=some r):B≤r∧∃cs,w.heap[r]? =some (.cells cs e (0,0)):=by
 rcases h.2 with ⟨rfl,_⟩ | ⟨b,c,cs,rfl,hb,gM,_⟩
 · cases hr
 · cases hr;exact ⟨hb,_,gM⟩
theorem zBi {w:World} {g h t t':Nat} {cs cs':Array Value} (hg:w.heap[g]? =some (.cells cs t (0,0))) (hh:w.heap[h]? =some (.cells cs' t' (0,0))) (aK:t≠t'):g≠h:=fun e=> by
 subst e;rw [hg] at hh;cases hh;exact aK rfl
theorem grown_any {w w':World} {r:Option Nat} (h:w.grownBy w' none):w.grownBy w' r:=⟨h.os,h.tape,h.output,h.size,fun k hk _=> h.block k hk (by simp)⟩
theorem NN.fault {w w':World} {p:Value} {l:List El} {b:Nat} {cs:Array Value} (h:NN w p l) (hx:w.heap[b]? =some (.cells cs 38 (0,0))) (hg:w.grownBy w' (some b)):NN w' p l:=by
 rcases h with h | ⟨B,g,vl,vn,vb,bn,bp,bb,hp,h⟩
 · exact .inl h
 · have row:∀ {e size n:Nat} {v:Value} {xs:List Value},w.ownsRow B e size v n xs→e≠38 →w'.ownsRow B e size v n xs:=fun ho aK=>
    zCn ho hg fun k hk e=> by
     cases e;obtain ⟨_,c,hc⟩:=zCj ho hk;exact zBi hc hx aK rfl
   refine .inr ⟨B,g,vl,vn,vb,bn,bp,bb,hp,{h with
    blk:=zAj hg (zBi h.blk hx (by decide)) h.blk
    ol:=row h.ol (by decide)
    on:=row h.on (by decide)
    ob:=row h.ob (by decide)
    mn:=h.mn.kept hg (by have:=h.mn.ne_blk hx;intro e;cases e;exact this rfl)
    mp:=h.mp.kept hg (by have:=h.mp.ne_blk hx;intro e;cases e;exact this rfl)
    mb:=h.mb.kept hg (by have:=h.mb.ne_blk hx;intro e;cases e;exact this rfl)}⟩
theorem NN.set {w:World} {p:Value} {l:List El} {b:Nat} {cs:Array Value} (h:NN w p l) (hx:w.heap[b]? =some (.cells cs 38 (0,0))) (o:Nat) (v:Value):
 NN (w.setCell ⟨b,o,none⟩ v) p l∧(w.setCell ⟨b,o,none⟩ v).heap[b]? =some (.cells (cs.setIfInBounds o v) 38 (0,0)):=
 ⟨h.fault hx (grown_set w b o v),blk_set hx v⟩
def EightD (x:El) (v:Value) (w:World) (lo hi:Nat):Prop:=∃b,v=.slice (some ⟨b,0,none⟩) 1 1∧lo≤b∧b < hi∧w.heap[b]? =some (.cells #[.int .u8 x.kind,.string x.name,.string x.a,.string x.b,.string x.c,.string x.d,.float .f64 x.val,.int .i64 x.ph] 35 (0,0))
theorem EightD.later {x:El} {v:Value} {w w':World} {lo hi:Nat} (h:EightD x v w lo hi) (hb:Below w.heap.size w w'):EightD x v w' lo hi:=by
 obtain ⟨b,h1,h2,h3,h4⟩:=h;exact ⟨b,h1,h2,h3,zAi hb h4⟩
theorem news_cells {w:World} {b t:Nat} {cs:Array Value} (h:w.heap[b]? =some (.cells cs t (0,0))):∀j u,cs.toList[j]? =some u→w.cell? ((⟨b,0,none⟩:Addr).add j)=some u:=fun j u hj=> by
 have:(⟨b,0,none⟩:Addr).add j=⟨b,j,none⟩:=by
  simp only [Addr.add]
  simp
  try (intro h;exact h.symm)
 rw [this];exact (zAc h).1 j u (by simpa using hj)
theorem nwith_net (pa:Addr) (l:List El) (x:El) (w:World) (hp:NN w (.pointer (some pa)) l) (hl:l.length≤100000) (aY:∀y∈l,y.Ok) (hx:x.Ok):
 Calls Tryz.prog 98 #[.pointer (some pa),.agg #[.int .u8 x.kind,.string x.name,.string x.a,.string x.b,.string x.c,.string x.d,.float .f64 x.val,.int .i64 x.ph]] w (RetOf NN (l++ [x]) w):=by
 obtain ⟨ie,dJ,kG,gX,pA⟩:=info_parts zEo;have aV:=((Below.refl w.heap.size w).alloc (Nat.le_refl _) (.cells #[.int .u8 x.kind,.string x.name,.string x.a,.string x.b,.string x.c,.string x.d,.float .f64 x.val,.int .i64 x.ph] 35)).alloc (by simp) (.cells #[.int .i64 0,.int .i64 0] 38);have HP:=hid (hp.below aV (Nat.le_refl _));have HB:=hid aV;have HEL:Hid (((w.alloc (.cells #[.int .u8 x.kind,.string x.name,.string x.a,.string x.b,.string x.c,.string x.d,.float .f64 x.val,.int .i64 x.ph] 35)).alloc (.cells #[.int .i64 0,.int .i64 0] 38)).heap[w.heap.size]? =some (.cells #[.int .u8 x.kind,.string x.name,.string x.a,.string x.b,.string x.c,.string x.d,.float .f64 x.val,.int .i64 x.ph] 35 (0,0))):=hid ((heap_alloc_old _ _ (by simp)).trans (heap_alloc_new w (.cells #[.int .u8 x.kind,.string x.name,.string x.a,.string x.b,.string x.c,.string x.d,.float .f64 x.val,.int .i64 x.ph] 35)));have HFZ:Hid (((w.alloc (.cells #[.int .u8 x.kind,.string x.name,.string x.a,.string x.b,.string x.c,.string x.d,.float .f64 x.val,.int .i64 x.ph] 35)).alloc (.cells #[.int .i64 0,.int .i64 0] 38)).heap[w.heap.size+1]? =some (.cells #[.int .i64 0,.int .i64 0] 38 (0,0))):=hid (by have h:=heap_alloc_new (w.alloc (.cells #[.int .u8 x.kind,.string x.name,.string x.a,.string x.b,.string x.c,.string x.d,.float .f64 x.val,.int .i64 x.ph] 35)) (.cells #[.int .i64 0,.int .i64 0] 38);simpa using h);have gC:=hid (show ((w.alloc (.cells #[.int .u8 x.kind,.string x.name,.string x.a,.string x.b,.string x.c,.string x.d,.float .f64 x.val,.int .i64 x.ph] 35)).alloc (.cells #[.int .i64 0,.int .i64 0] 38)).heap.size=w.heap.size+2 by simp)
 have cH:=hid (show∀y∈l++ [x],y.Ok from fun y hy=> by rcases List.mem_append.1 hy with h | h;exact aY y h;have e:y=x:=(by simpa using h);rw [e];exact hx);have cK:=hid hl;obtain ⟨g0,B0,hgb⟩:∃ (g0:Nat) (B0:Bool),pa=⟨g0,0,none⟩:=by
  rcases hp with ⟨h,_⟩ | ⟨_,g,_,_,_,_,_,_,h,_⟩
  · cases h
  · cases h;exact ⟨g,true,rfl⟩
 subst hgb;have hmd:((w.alloc (.cells #[.int .u8 x.kind,.string x.name,.string x.a,.string x.b,.string x.c,.string x.d,.float .f64 x.val,.int .i64 x.ph] 35)).alloc (.cells #[.int .i64 0,.int .i64 0] 38)).cell? ⟨g0,0,none⟩=some (.bool true):=by
  rcases HP.out with ⟨h,_⟩ | ⟨_,g,_,_,_,_,_,_,h,hh⟩
  · cases h
  · cases h;exact (zAc hh.blk).1 0 _ rfl
 have HMD:=hid hmd;clear hp aV aY hx hmd;go_enter Tryz.func98,Tryz.ntmps98;go_upto_region 1 with fail;generalize (w.alloc (.cells #[.int .u8 x.kind,.string x.name,.string x.a,.string x.b,.string x.c,.string x.d,.float .f64 x.val,.int .i64 x.ph] 35)).alloc (.cells #[.int .i64 0,.int .i64 0] 38)=w1 at *;go_upto_region 3 with (go_at_call 31;refine (zDq _ _ HMD.out).mono ?_;rintro e wn ⟨rfl,rfl⟩);clear HMD;generalize hgz:w.heap.size=gz at *;refine wp_region_any (by kernel_rfl) ?_;change wpAny _ _ _ _ _ _ _ (World.drew _);refine zAx [⟨some 10,0, []⟩,⟨some 11,1, []⟩,⟨some 12,2, []⟩,⟨some 13,3, []⟩]
  (fun w'=> w'.heap[gz]? =some (.cells #[.int .u8 x.kind,.string x.name,.string x.a,.string x.b,.string x.c,.string x.d,.float .f64 x.val,.int .i64 x.ph] 35 (0,0))∧w'.heap[gz+1]? =some (.cells #[.int .i64 0,.int .i64 0] 38 (0,0)))
  (fun oq v _ ww lo hi=> (match oq with | 0=> v=.pointer (some ⟨g0,0,none⟩) | 1=> True | 2=> v=.agg #[.int .u8 x.kind,.string x.name,.string x.a,.string x.b,.string x.c,.string x.d,.float .f64 x.val,.int .i64 x.ph] | 3=> True | _=> True)∧(oq=1→RowD 35 8 l.length (l.flatMap ea) v ww lo hi)∧(oq=3→EightD x v ww lo hi)) (by kernel_rfl) ?hSt (fun _ _ hb h=> ⟨zAi hb h.1,zAi hb h.2⟩) (fun _ _ _ _ _ _ _ hb _ h=> ⟨h.1,fun e=> (h.2.1 e).later hb,fun e=> (h.2.2 e).later hb⟩) ?hopt ?hendt
 case hSt=> exact ⟨zAi (Below.refl _ _).drew HEL.out,zAi (Below.refl _ _).drew HFZ.out⟩
 case hopt=>
  delta Owed
  simp only [zBb,Act.put,List.setIfInBounds_toArray,lz,ls];refine Each.cons rfl ?_ (Each.cons rfl ?_ (Each.cons rfl ?_ (Each.cons rfl ?_ Each.nil)))
  all_goals intro vs w2 aV hS2 hR2 K hK;try simp only [lz,ls] at hK⊢
  · go_simp;exact hK.out _ _ (Below.refl _ _) ⟨rfl,(fun e=> (by cases e)),(fun e=> (by cases e))⟩
  · have h0:vs 0=_:=exR (hR2 0 (by kernel_rfl)) (fun _ _ h=> h.1);simp only [h0] at hK⊢;rw [if_pos (by rfl)];go_wp2_with (go_at_call 9;refine (zDb _ l _ (HP.out.below (zAt aV) (Nat.le_refl _)) cK.out).mono ?_;rintro e w4 ⟨v0,xs,rfl,aC,rfl,hb⟩);exact hK.out _ _ hb ⟨trivial,fun _=> RowD.of aC,(fun e=> (by cases e))⟩
  · have k0:=(zAc hS2.1).1 0 _ rfl;have k1:=(zAc hS2.1).1 1 _ rfl;have k2:=(zAc hS2.1).1 2 _ rfl;have k3:=(zAc hS2.1).1 3 _ rfl;have k4:=(zAc hS2.1).1 4 _ rfl;have k5:=(zAc hS2.1).1 5 _ rfl;have k6:=(zAc hS2.1).1 6 _ rfl;have k7:=(zAc hS2.1).1 7 _ rfl;go_simp;exact hK.out _ _ (Below.refl _ _) ⟨rfl,(fun e=> (by cases e)),(fun e=> (by cases e))⟩
  · have h2:vs 2=_:=exR (hR2 2 (by kernel_rfl)) (fun _ _ h=> h.1);simp only [h2] at hK⊢;go_simp;exact hK.out _ _ ((Below.refl _ _).alloc (Nat.le_refl _) _) ⟨trivial,(fun e=> (by cases e)),fun _=> ⟨w2.heap.size,rfl,Nat.le_refl _,by simp,heap_alloc_new _ _⟩⟩
 case hendt=>
  intro vs wx lo iB bK hSx hRx dN;have h0:vs 0=_:=(hRx 0 (by kernel_rfl)).1.1;have Y1:=(hRx 1 (by kernel_rfl)).1.2.1 rfl;have Z1:=(hRx 1 (by kernel_rfl)).2;have h2:vs 2=_:=(hRx 2 (by kernel_rfl)).1.1;have Y3:=(hRx 3 (by kernel_rfl)).1.2.2 rfl;have Z3:=(hRx 3 (by kernel_rfl)).2;simp only [zBb,Act.put,List.setIfInBounds_toArray,lz,ls,h0,h2];have hb:=zAt bK;obtain ⟨⟨a0,c0,h1⟩,aC,kF⟩:=Y1;obtain ⟨b3,h3,hlo3,hhi3,wB⟩:=Y3;have aG:=hid (HB.out.trans (hb.mono (by have:=gC.out;omega)));have HFZ2:=hid hSx.2;have mM:=hid aC;have mK:=hid wB;have HLO:=hid (show gz+2≤lo 1 by have h:=Z1.1;have h2:w1.heap.size≤lo 1:=h;have:=gC.out;omega);have tS:=hid (show gz+2≤wx.heap.size by have:=hb.size;have:=gC.out;omega);clear bK hSx hRx dN hb aC kF hlo3 hhi3 wB Z1 Z3 h0 h2 HEL HFZ HP;rw [h1] at mM;simp only [h1,h3];clear h1 h3;have vE:=hid (zEx mM.out HLO.out);clear mM HLO;refine zAr (i:=4) (by kernel_rfl) rfl (fun K hK=> ?_);rw [if_pos (by rfl)];refine append_own_op rfl _ _ _ rfl (gz+2) 35 8 104 ie (.agg #[.int .u8 0,.string ⟨#[]⟩,.string ⟨#[]⟩,.string ⟨#[]⟩,.string ⟨#[]⟩,.string ⟨#[]⟩,.float .f64 0,.int .i64 0]) Tryz.underlying31 dJ kG gX pA rfl _ l.length _ vE.out ⟨b3,0,none⟩ 1 1 (ea x) (by rfl) (by rfl) rfl (news_cells mK.out) (ea_one x) (by decide) (by have:=cK.out;unfold maxLen;omega) (by have:=cK.out;omega) tS.out ?_;intro g6 cap6 w6 eG hlt6 bU;refine hK.out _ _ ?_;clear hK;have aF:wx.grownBy w6 (Value.slice a0 l.length c0).ownBlock:=by
   rcases bU with ⟨e,h⟩ | ⟨_,h⟩
   · rw [e];exact h
   · exact grown_any h
  have pP:=hid (show∀r,(Value.slice a0 l.length c0).ownBlock=some r→gz+2≤r from fun r e=> (World.ownsRow.lt vE.out r e).1);have cJ:=hid (aG.out.grown aF (by have:=tS.out;omega) (fun r e=> by have:=pP.out r e;omega));have HFZ6:=hid ((aF.block _ (Array.getElem?_eq_some_iff.1 HFZ2.out).1 (fun e=> by have:=pP.out _ e.symm;omega)).trans HFZ2.out);have dY:=hid (show gz+2≤w6.heap.size from Nat.le_trans tS.out aF.size);obtain ⟨n1,tF⟩:∃n1,l.length+1=n1:=⟨_,rfl⟩;obtain ⟨L,hL⟩:∃L,l++ [x]=L:=⟨_,rfl⟩;have HLL:=hid hL;have lD:=hid (show IsSl w6 8 (.slice (some ⟨g6,0,none⟩) n1 cap6) L.length (L.flatMap ea) by have h:=IsSl.of_own eG;rw [←tF,←hL];simpa using h);have HLN:=hid (show L.length≤100001 by rw [←hL];have:=cK.out;simp;omega);rw [hL] at cH;rw [tF];clear aF eG hlt6 bU aG HFZ2 vE mK tS pP tF hL;refine zAr (i:=5) (by kernel_rfl) rfl (fun K hK=> ?_);rw [if_pos (by rfl)];go_wp2_with (go_at_call 10;refine (nof_any _ L _ lD.out cH.out (by have:=HLN.out;omega)).mono ?_;rintro e w7 ⟨p',rfl,hpp,hb⟩;have HPP:=hid hpp;clear hpp;have cT:=hid (cJ.out.trans (hb.mono (by have:=dY.out;omega)));have pQ:=hid (zAi hb HFZ6.out);clear hb cJ HFZ6);refine hK.out _ _ ?_;clear hK;have z0:=(zAc pQ.out).1 0 _ rfl;have z1:=(zAc pQ.out).1 1 _ rfl;have f0:=(zAc pQ.out).2 0;have f1:=(zAc pQ.out).2 1;refine wpAny_two (i:=6) (j:=7) (by kernel_rfl) rfl rfl (fun K hK=> ?_) (fun K hK=> ?_)
  all_goals go_simp
  all_goals refine hK.out _ _ ?_
  all_goals clear hK
  rotate_left
  refine zAr (i:=6) (by kernel_rfl) rfl (fun K hK=> ?_)
  rotate_left
  refine zAr (i:=7) (by kernel_rfl) rfl (fun K hK=> ?_)
  all_goals go_simp
  all_goals refine hK.out _ _ ?_
  all_goals clear hK
  all_goals
   refine zAr (i:=8) (by kernel_rfl) rfl (fun K hK=> ?_);go_simp;refine hK.out _ _ ?_;clear hK;refine zAr (i:=9) (by kernel_rfl) rfl (fun K hK=> ?_);go_simp;refine hK.out _ _ ?_;clear hK;refine wpAny_done (by kernel_rfl) ?_ _;go_wp2
   (try simp only [Exit.inBlock,Exit.then])
   refine bodyPost_ret (v:=.tuple #[p',.agg #[.int .i64 (ofL L).2.1,.int .i64 (ofL L).2.2]]) ?_ rfl ⟨p',by rw [HLL.out],?_,?_⟩
   · rw [zAq rfl];go_simp
   · rw [HLL.out];rcases HPP.out with h | ⟨h1,h2,h3⟩
     · exact .inl h
     · exact .inr ⟨h1,h2,(NN.set (NN.set h3 pQ.out _ _).1 (NN.set h3 pQ.out _ _).2 _ _).1⟩
   · subst hgz
     repeat (first | with_reducible exact cT.out | with_reducible refine Below.setCell ?_ (by dsimp only;omega) _)
theorem nwith_any (pa:Addr) (l:List El) (x:El) (w:World) (hp:NN w (.pointer (some pa)) l) (hl:l.length≤100000) (aY:∀y∈l,y.Ok) (hx:x.Ok):
 Calls Tryz.prog 98 #[.pointer (some pa),.agg #[.int .u8 x.kind,.string x.name,.string x.a,.string x.b,.string x.c,.string x.d,.float .f64 x.val,.int .i64 x.ph]] w fun e w'=> (∃p':Value,e=.returned (.tuple #[p',.agg #[.int .i64 (ofL (l++ [x])).2.1,.int .i64 (ofL (l++ [x])).2.2]]))∧Below w.heap.size w w':=
 (nwith_net pa l x w hp hl aY hx).mono fun _ _ ⟨p',h,_,hb⟩=> ⟨⟨p',h⟩,hb⟩
end
section
open Go.RowKit
theorem bad1_nz {l:List El} {k:Nat} {q:Nat × Int}:∀ {r:List El},zBt l k r=some q→q.2≠0:=by
 intro r
 induction r generalizing k with
 | nil=> intro h;cases h
 | cons x r ih=>
  intro h;unfold zBt at h
  split at h
  · exact ih h
  · rename_i h0;obtain rfl:=Option.some.inj h;exact h0
theorem ofL_err {l:List El} (h:(ofL l).1=false):(ofL l).2.1≠0:=by
 unfold ofL at *
 split at h
 · rename_i h1;rw [if_pos h1];decide
 · rename_i h1;rw [if_neg h1];cases hf:zBt l 0 l with
   | some q=> exact bad1_nz hf
   | none=>
    rw [hf] at h;dsimp only at h⊢
    split at h
    · rename_i h2;rw [if_pos h2];decide
    · cases h
theorem ofL_zero {l:List El} (h:(ofL l).1=true):(ofL l).2=(0,0):=by
 unfold ofL at *
 split at h
 · cases h
 · rename_i h1;rw [if_neg h1];cases hf:zBt l 0 l with
   | some q=> rw [hf] at h;cases h
   | none=>
    rw [hf] at h;dsimp only at h⊢
    split at h
    · cases h
    · rename_i h2;rw [if_neg h2]
theorem retof_bad {R:World→Value→List El→Prop} {l:List El} {w w':World} {e:Ending} (h:RetOf R l w e w') (h0:(ofL l).1=false):∃x y:Int,e=.returned (.tuple #[.pointer none,.agg #[.int .i64 x,.int .i64 y]])∧x≠0∧Below w.heap.size w w':=by
 obtain ⟨p,rfl,h,hb⟩:=h;rcases h with ⟨_,rfl⟩ | ⟨h1,_⟩
 · exact ⟨_,_,rfl,ofL_err h0,hb⟩
 · rw [h0] at h1;cases h1
theorem retof_good {l:List El} {w w':World} {e:Ending} (h:RetOf NN l w e w') (h0:(ofL l).1=true):∃g:Nat,e=.returned (.tuple #[.pointer (some ⟨g,0,none⟩),.agg #[.int .i64 0,.int .i64 0]])∧NN w' (.pointer (some ⟨g,0,none⟩)) l∧Below w.heap.size w w':=by
 obtain ⟨p,rfl,h,hb⟩:=h;rcases h with ⟨h1,_⟩ | ⟨_,h2,h3⟩
 · rw [h0] at h1;cases h1
 · rw [ofL_zero h0];rcases h3 with ⟨h4,_⟩ | ⟨B,g,vl,vn,vb,bn,bp,bb,rfl,h4⟩
   · exact absurd h4 h2
   · exact ⟨g,rfl,.inr ⟨B,g,vl,vn,vb,bn,bp,bb,rfl,h4⟩,hb⟩
end
section
open Go.RowKit
def cst (k:Int):Nat:=
 if k=0 then 4607182418800017408 else if k=1 then 4606875505927962389 else if k=2 then 4605975682916830378 else if k=3 then 4604544271217802189
 else if k=4 then 4602678819172646912 else if k=5 then 4598334089338226320 else 0
def cosb (k:Int):Nat:=
 if 17 < k then cst (24 - k) else if 12 < k then Op.negFloat .f64 (cst (k - 12)) else if 6 < k then Op.negFloat .f64 (cst (12 - k)) else cst k
def root (k:Int):Cx:=(cosb (k % 24),cosb ((k+18) % 24))
theorem run_negf {P:Program} (x:Nat) (w:World):(Op.unary .neg (.float .f64 x)).run P w=.ok (.float .f64 (Op.negFloat .f64 x)) w:=rfl
end
section
open Go.RowKit
def angE (o:Nat):Int:=if ffin (fc o)=true then (if (FloatKind.f64.format.order o 0==some .gt)=true then 0 else 2) else 5
theorem ang_5 {o:Nat} (h:ffin (fc o)=false):angE o=5:=by unfold angE;rw [if_neg (by rw [h];decide)]
theorem ang_2 {o:Nat} (h:ffin (fc o)=true) (h2:(FloatKind.f64.format.order o 0==some .gt)=false):angE o=2:=by unfold angE;rw [if_pos h,if_neg (by rw [h2];decide)]
theorem ang_0 {o:Nat} (h:ffin (fc o)=true) (h2:(FloatKind.f64.format.order o 0==some .gt)=true):angE o=0:=by unfold angE;rw [if_pos h,if_pos h2]
theorem zCa {r x:Nat} {b:Bool} (hr:fc r=fop .sub (fc x) (fc x)) (h:ffin (fc x)=b):(FloatKind.f64.format.order r 0 !=some .eq)=!b:=by unfold bne;rw [ffin_of hr,h]
end
section
open Go.RowKit
end
section
open Go.RowKit
def fneg (x:Nat):Nat:=fc (Op.negFloat .f64 x)
theorem xor_mod (x:Nat):(x ^^^ 9223372036854775808) % 9223372036854775808=x % 9223372036854775808:=by
 rw [show (9223372036854775808:Nat)=2 ^ 63 from by decide]
 apply Nat.eq_of_testBit_eq
 intro i;rw [Nat.testBit_mod_two_pow,Nat.testBit_mod_two_pow,Nat.testBit_xor,Nat.testBit_two_pow]
 by_cases h:i < 63
 · have:¬63=i:=by omega
   simp [h,this]
 · simp [h]
theorem fnan_neg (x:Nat):fnan (Op.negFloat .f64 x)=fnan x:=by
 rw [←fnan_fsize,←fnan_fsize x];exact congrArg fnan (xor_mod x)
theorem fc_neg (x:Nat):fc (Op.negFloat .f64 x)=fneg (fc x):=by
 unfold fneg;cases h:fnan x
 · rw [zBv h]
 · rw [zCf h,zCf ((fnan_neg x).trans h),zCf ((fnan_neg qnan).trans fnan_qnan)]
def fin6 (z:Cx):Cx × Int:=if cfin z=true then (z,0) else ((fc 0,fc 0),6)
def fone:Nat:=fc 4607182418800017408
def admB (e:El) (o:Nat):Cx × Int:=
 if (e.kind==1 || e.kind==8)=true then fin6 (fdiv fone (fc e.val),fc 0) else
 if (e.kind==2)=true then (if ffin (fmul (fc o) (fc e.val))=true then fin6 (fc 0,fneg (fdiv fone (fmul (fc o) (fc e.val)))) else ((fc 0,fc 0),6)) else
 fin6 (fc 0,fmul (fc o) (fc e.val))
def isAd (e:El):Bool:=e.kind==1 || e.kind==8 || e.kind==2 || e.kind==3
def mayE (e:El) (o:Nat):Int:=if angE o=0 then (if zAv e=0 then (if isAd e=true then 0 else 2) else zAv e) else angE o
def admS (e:El) (o:Nat):Cx × Int:=if mayE e o=0 then admB e o else ((fc 0,fc 0),mayE e o)
theorem tang_any (o:Nat) (w:World):
 Calls Tryz.prog 174 #[.float .f64 o] w (Ret (fun v=> v=.int .i64 (angE o)) w):=by
 cases hf:ffin (fc o)
 · have HF:=hid hf;go_enter Tryz.func174,Tryz.ntmps174;go_wp2_with (refine zAo rfl _ _ _ _ _ rfl rfl _ _ rfl rfl ?_;intro r n hr;have hq:=zCa hr HF.out;simp only [Bool.not_false] at hq;clear hr)
   (try rw [Exit.noGoto_ret])
   go_ret;exact ⟨_,_,rfl,rfl,by rw [ang_5 HF.out];rfl⟩
 · have HF:=hid hf;cases hg:(FloatKind.f64.format.order o 0==some .gt)
   · have HG:=hid hg;go_enter Tryz.func174,Tryz.ntmps174;go_wp2_with (refine zAo rfl _ _ _ _ _ rfl rfl _ _ rfl rfl ?_;intro r n hr;have hq:=zCa hr HF.out;simp only [Bool.not_true] at hq;clear hr)
     (try rw [Exit.noGoto_ret])
     go_ret;exact ⟨_,_,rfl,rfl,by rw [ang_2 HF.out HG.out];rfl⟩
   · have HG:=hid hg;go_enter Tryz.func174,Tryz.ntmps174;go_wp2_with (refine zAo rfl _ _ _ _ _ rfl rfl _ _ rfl rfl ?_;intro r n hr;have hq:=zCa hr HF.out;simp only [Bool.not_true] at hq;clear hr)
     (try rw [Exit.noGoto_ret])
     go_ret;exact ⟨_,_,rfl,rfl,by rw [ang_0 HF.out HG.out];rfl⟩
theorem ad_ways (e:El):((e.kind==1)=true∧(e.kind !=1)=false)∨
 ((e.kind==1)=false∧(e.kind !=1)=true∧(e.kind==8)=true∧(e.kind !=8)=false)∨
 ((e.kind==1)=false∧(e.kind !=1)=true∧(e.kind==8)=false∧(e.kind !=8)=true∧(e.kind==2)=true∧(e.kind !=2)=false∧(e.kind==3)=false∧(e.kind !=3)=true)∨
 ((e.kind==1)=false∧(e.kind !=1)=true∧(e.kind==8)=false∧(e.kind !=8)=true∧(e.kind==2)=false∧(e.kind !=2)=true∧(e.kind==3)=true∧(e.kind !=3)=false)∨
 ((e.kind==1)=false∧(e.kind !=1)=true∧(e.kind==8)=false∧(e.kind !=8)=true∧(e.kind==2)=false∧(e.kind !=2)=true∧(e.kind==3)=false∧(e.kind !=3)=true):=by
 unfold bne
 by_cases h2:e.kind=2
 · rw [h2];decide
 · have:(e.kind==2)=false:=by simpa using h2
   rw [this];cases (e.kind==1) <;> cases (e.kind==8) <;> cases (e.kind==3) <;> simp
theorem may_ang {e:El} {o:Nat} (h:¬angE o=0):mayE e o=angE o:=by unfold mayE;rw [if_neg h]
theorem may_chk {e:El} {o:Nat} (h:angE o=0) (h2:¬zAv e=0):mayE e o=zAv e:=by unfold mayE;rw [if_pos h,if_neg h2]
theorem may_no {e:El} {o:Nat} (h:angE o=0) (h2:zAv e=0) (h3:isAd e=false):mayE e o=2:=by unfold mayE;rw [if_pos h,if_pos h2,if_neg (by rw [h3];decide)]
theorem zFo {e:El} {o:Nat} (h:angE o=0) (h2:zAv e=0) (h3:isAd e=true):mayE e o=0:=by unfold mayE;rw [if_pos h,if_pos h2,if_pos h3]
theorem adm_bad {e:El} {o:Nat} {k:Int} (h:mayE e o=k) (hk:¬k=0):admS e o=((fc 0,fc 0),k):=by unfold admS;rw [if_neg (by rw [h];exact hk),h]
theorem zEb {e:El} {o:Nat} (h:mayE e o=0):admS e o=admB e o:=by unfold admS;rw [if_pos h]
theorem fin6_yes {z:Cx} (h:cfin z=true):fin6 z=(z,0):=by unfold fin6;rw [if_pos h]
theorem fin6_no {z:Cx} (h:cfin z=false):fin6 z=((fc 0,fc 0),6):=by unfold fin6;rw [if_neg (by rw [h];decide)]
theorem fin_zero:ffin (fc 0)=true:=by decide+kernel
end
section
open Go.RowKit
theorem cfin_right (x:Nat):cfin (fc 0,x)=ffin x:=by unfold cfin;simp only;rw [fin_zero,Bool.true_and]
theorem admB_1 {e:El} {o:Nat} (h:(e.kind==1 || e.kind==8)=true):admB e o=fin6 (fdiv fone (fc e.val),fc 0):=by unfold admB;rw [if_pos h]
theorem admB_2 {e:El} {o:Nat} (h:(e.kind==1 || e.kind==8)=false) (h2:(e.kind==2)=true):admB e o=if ffin (fmul (fc o) (fc e.val))=true then fin6 (fc 0,fneg (fdiv fone (fmul (fc o) (fc e.val)))) else ((fc 0,fc 0),6):=by unfold admB;rw [if_neg (by rw [h];decide),if_pos h2]
theorem admB_3 {e:El} {o:Nat} (h:(e.kind==1 || e.kind==8)=false) (h2:(e.kind==2)=false):admB e o=fin6 (fc 0,fmul (fc o) (fc e.val)):=by unfold admB;rw [if_neg (by rw [h];decide),if_neg (by rw [h2];decide)]
theorem reckon_any (x:El) (o:Nat) (w:World) (hx:x.Ok):
 Calls Tryz.prog 154 #[.agg #[.int .u8 x.kind,.string x.name,.string x.a,.string x.b,.string x.c,.string x.d,.float .f64 x.val,.int .i64 x.ph],.float .f64 o,.bool true] w (RetB (IsCE (admS x o)) w):=by
 have HX:=hid hx;have bK:=heap_alloc_new w (.cells #[.int .u8 x.kind,.string x.name,.string x.a,.string x.b,.string x.c,.string x.d,.float .f64 x.val,.int .i64 x.ph] 35);have cN:=(Below.refl w.heap.size w).alloc (Nat.le_refl _) (.cells #[.int .u8 x.kind,.string x.name,.string x.a,.string x.b,.string x.c,.string x.d,.float .f64 x.val,.int .i64 x.ph] 35);obtain ⟨bJ,fb⟩:=zAc bK;have b0:=bJ 0 _ rfl;have b1:=bJ 1 _ rfl;have b2:=bJ 2 _ rfl;have b3:=bJ 3 _ rfl;have b4:=bJ 4 _ rfl;have b5:=bJ 5 _ rfl;have b6:=bJ 6 _ rfl;have b7:=bJ 7 _ rfl;have bS:=hid bK;have bC:=hid cN;clear bJ fb bK cN hx;have hn:=fun (x:Nat) (w:World)=> run_negf (P:=Tryz.prog) x w
 go_enter Tryz.func154,Tryz.ntmps154;go_upto_region 1 with fail;generalize w.alloc (.cells #[.int .u8 x.kind,.string x.name,.string x.a,.string x.b,.string x.c,.string x.d,.float .f64 x.val,.int .i64 x.ph] 35)=w1 at *
 by_cases ha:angE o=0
 · have HA:=hid ha;go_upto_region 4 with (go_at_call 174;refine (tang_any _ _).mono ?_;rintro e w' ⟨v,n,rfl,rfl,rfl⟩;rw [HA.out])
   by_cases hc:zAv x=0
   · have HC:=hid hc;go_upto_region 5 with (go_at_call 32;refine (vcheck_any x _ HX.out).mono ?_;rintro en w2 ⟨rfl,aV⟩;rw [HC.out];have aG:=hid (zAd (zAg bC.out _) aV);have HBX2:=hid (zAa aV (show (w1.drewN n).heap[w.heap.size]? =_ from bS.out));clear aV);clear b0 b1 b2 b3 b4 b5 b6 b7;obtain ⟨bJ,fb⟩:=zAc HBX2.out;have b0:=bJ 0 _ rfl;have b1:=bJ 1 _ rfl;have b2:=bJ 2 _ rfl;have b3:=bJ 3 _ rfl;have b4:=bJ 4 _ rfl;have b5:=bJ 5 _ rfl;have b6:=bJ 6 _ rfl;have b7:=bJ 7 _ rfl;clear bJ fb;go_upto_region 9 with (refine zAo rfl _ _ _ _ _ rfl rfl _ _ rfl rfl ?_;intro r1 n1 nG;have qC:=hid nG;clear nG);rcases ad_ways x with ⟨h1,zS⟩ | ⟨h1,zS,h8,h8'⟩ | ⟨h1,zS,h8,h8',h2,h2',h3,h3'⟩ | ⟨h1,zS,h8,h8',h2,h2',h3,h3'⟩ | ⟨h1,zS,h8,h8',h2,h2',h3,h3'⟩
     · go_upto_region 22 with (refine zAo rfl _ _ _ _ _ rfl rfl _ _ rfl rfl ?_;intro r2 n2 fO;have rV:=hid fO;clear fO);cases hz:cfin ((fop .quo (fc 4607182418800017408) (fc x.val)),fc 0)
       · have HZ:=hid hz;clear hz;go_wp2_with (first | (refine zAo rfl _ _ _ _ _ rfl rfl _ _ rfl rfl ?_;intro r3 n3 gI;have hq:=zCa gI (fin_zero);simp only [Bool.not_true] at hq;clear gI) | (go_at_call 41;refine (zBk _ _ _).mono ?_;rintro e w' ⟨v,n,rfl,rfl,rfl⟩;rw [rV.out,HZ.out]))
         (try rw [Exit.noGoto_ret])
         refine bodyPost_ret (v:=.tuple #[.complex .f64 0 0,.int .i64 6]) ?_ rfl ⟨_,rfl,(by first | exact zAg aG.out _ | exact zAg (zAg aG.out _) _ | exact zAg (zAg (zAg aG.out _) _) _ | exact zAg (zAg (zAg (zAg aG.out _) _) _) _),_,_,_,rfl,by rw [zEb (zFo HA.out HC.out (by unfold isAd;rw [h1];rfl)),admB_1 (by rw [h1];rfl)];exact (fin6_no HZ.out).symm⟩;rw [results_tmp2 rfl];rfl
       · have HZ:=hid hz;clear hz;go_wp2_with (first | (refine zAo rfl _ _ _ _ _ rfl rfl _ _ rfl rfl ?_;intro r3 n3 gI;have hq:=zCa gI (fin_zero);simp only [Bool.not_true] at hq;clear gI) | (go_at_call 41;refine (zBk _ _ _).mono ?_;rintro e w' ⟨v,n,rfl,rfl,rfl⟩;rw [rV.out,HZ.out]))
         (try rw [Exit.noGoto_ret])
         refine bodyPost_ret (v:=.tuple #[.complex .f64 r2 0,.int .i64 0]) ?_ rfl ⟨_,rfl,(by first | exact zAg aG.out _ | exact zAg (zAg aG.out _) _ | exact zAg (zAg (zAg aG.out _) _) _ | exact zAg (zAg (zAg (zAg aG.out _) _) _) _),_,_,_,rfl,by rw [zEb (zFo HA.out HC.out (by unfold isAd;rw [h1];rfl)),admB_1 (by rw [h1];rfl),rV.out];exact (fin6_yes HZ.out).symm⟩;rw [results_tmp2 rfl];rfl
     · go_upto_region 22 with (refine zAo rfl _ _ _ _ _ rfl rfl _ _ rfl rfl ?_;intro r2 n2 fO;have rV:=hid fO;clear fO);cases hz:cfin ((fop .quo (fc 4607182418800017408) (fc x.val)),fc 0)
       · have HZ:=hid hz;clear hz;go_wp2_with (first | (refine zAo rfl _ _ _ _ _ rfl rfl _ _ rfl rfl ?_;intro r3 n3 gI;have hq:=zCa gI (fin_zero);simp only [Bool.not_true] at hq;clear gI) | (go_at_call 41;refine (zBk _ _ _).mono ?_;rintro e w' ⟨v,n,rfl,rfl,rfl⟩;rw [rV.out,HZ.out]))
         (try rw [Exit.noGoto_ret])
         refine bodyPost_ret (v:=.tuple #[.complex .f64 0 0,.int .i64 6]) ?_ rfl ⟨_,rfl,(by first | exact zAg aG.out _ | exact zAg (zAg aG.out _) _ | exact zAg (zAg (zAg aG.out _) _) _ | exact zAg (zAg (zAg (zAg aG.out _) _) _) _),_,_,_,rfl,by rw [zEb (zFo HA.out HC.out (by unfold isAd;rw [h1,h8];rfl)),admB_1 (by rw [h1,h8];rfl)];exact (fin6_no HZ.out).symm⟩;rw [results_tmp2 rfl];rfl
       · have HZ:=hid hz;clear hz;go_wp2_with (first | (refine zAo rfl _ _ _ _ _ rfl rfl _ _ rfl rfl ?_;intro r3 n3 gI;have hq:=zCa gI (fin_zero);simp only [Bool.not_true] at hq;clear gI) | (go_at_call 41;refine (zBk _ _ _).mono ?_;rintro e w' ⟨v,n,rfl,rfl,rfl⟩;rw [rV.out,HZ.out]))
         (try rw [Exit.noGoto_ret])
         refine bodyPost_ret (v:=.tuple #[.complex .f64 r2 0,.int .i64 0]) ?_ rfl ⟨_,rfl,(by first | exact zAg aG.out _ | exact zAg (zAg aG.out _) _ | exact zAg (zAg (zAg aG.out _) _) _ | exact zAg (zAg (zAg (zAg aG.out _) _) _) _),_,_,_,rfl,by rw [zEb (zFo HA.out HC.out (by unfold isAd;rw [h1,h8];rfl)),admB_1 (by rw [h1,h8];rfl),rV.out];exact (fin6_yes HZ.out).symm⟩;rw [results_tmp2 rfl];rfl
     · go_upto_region 22 with (refine zAo rfl _ _ _ _ _ rfl rfl _ _ rfl rfl ?_;intro r2 n2 fO;have rV:=hid fO;clear fO);cases hw:ffin (fop .mul (fc o) (fc x.val))
       · have HW:=hid hw;clear hw;go_wp2_with (first | (refine zAo rfl _ _ _ _ _ rfl rfl _ _ rfl rfl ?_;intro r3 n3 gI;have hq:=zCa gI (show ffin (fc r1)=false by rw [qC.out];exact HW.out);simp only [Bool.not_false] at hq;clear gI) | fail)
         (try rw [Exit.noGoto_ret])
         refine bodyPost_ret (v:=.tuple #[.complex .f64 0 0,.int .i64 6]) ?_ rfl ⟨_,rfl,(by first | exact zAg aG.out _ | exact zAg (zAg aG.out _) _ | exact zAg (zAg (zAg aG.out _) _) _ | exact zAg (zAg (zAg (zAg aG.out _) _) _) _),_,_,_,rfl,by rw [zEb (zFo HA.out HC.out (by unfold isAd;rw [h1,h8,h2];rfl)),admB_2 (by rw [h1,h8];rfl) h2];exact (if_neg (by rw [show ffin (fmul (fc o) (fc x.val))=false from HW.out];decide)).symm⟩;rw [results_tmp2 rfl];rfl
       · have HW:=hid hw;clear hw;cases hz:cfin (fc 0,fneg (fop .quo (fc 4607182418800017408) (fop .mul (fc o) (fc x.val))))
         · have HZ:=hid hz;clear hz;go_wp2_with (first | (refine zAo rfl _ _ _ _ _ rfl rfl _ _ rfl rfl ?_;intro r3 n3 gI;have hq:=zCa gI (show ffin (fc r1)=true by rw [qC.out];exact HW.out);simp only [Bool.not_true] at hq;clear gI) | (go_at_call 41;refine (zBk _ _ _).mono ?_;rintro e w' ⟨v,n,rfl,rfl,rfl⟩;rw [fc_neg,rV.out,qC.out,HZ.out]))
           (try rw [Exit.noGoto_ret])
           refine bodyPost_ret (v:=.tuple #[.complex .f64 0 0,.int .i64 6]) ?_ rfl ⟨_,rfl,(by first | exact zAg aG.out _ | exact zAg (zAg aG.out _) _ | exact zAg (zAg (zAg aG.out _) _) _ | exact zAg (zAg (zAg (zAg aG.out _) _) _) _),_,_,_,rfl,by rw [zEb (zFo HA.out HC.out (by unfold isAd;rw [h1,h8,h2];rfl)),admB_2 (by rw [h1,h8];rfl) h2,if_pos (show ffin (fmul (fc o) (fc x.val))=true from HW.out)];exact (fin6_no HZ.out).symm⟩;rw [results_tmp2 rfl];rfl
         · have HZ:=hid hz;clear hz;go_wp2_with (first | (refine zAo rfl _ _ _ _ _ rfl rfl _ _ rfl rfl ?_;intro r3 n3 gI;have hq:=zCa gI (show ffin (fc r1)=true by rw [qC.out];exact HW.out);simp only [Bool.not_true] at hq;clear gI) | (go_at_call 41;refine (zBk _ _ _).mono ?_;rintro e w' ⟨v,n,rfl,rfl,rfl⟩;rw [fc_neg,rV.out,qC.out,HZ.out]))
           (try rw [Exit.noGoto_ret])
           refine bodyPost_ret (v:=.tuple #[.complex .f64 0 (Op.negFloat .f64 r2),.int .i64 0]) ?_ rfl ⟨_,rfl,(by first | exact zAg aG.out _ | exact zAg (zAg aG.out _) _ | exact zAg (zAg (zAg aG.out _) _) _ | exact zAg (zAg (zAg (zAg aG.out _) _) _) _),_,_,_,rfl,by rw [zEb (zFo HA.out HC.out (by unfold isAd;rw [h1,h8,h2];rfl)),admB_2 (by rw [h1,h8];rfl) h2,if_pos (show ffin (fmul (fc o) (fc x.val))=true from HW.out),fc_neg,rV.out,qC.out];exact (fin6_yes HZ.out).symm⟩;rw [results_tmp2 rfl];rfl
     · go_upto_region 22 with fail;cases hw:ffin (fop .mul (fc o) (fc x.val))
       · have HW:=hid hw;clear hw;go_wp2_with (first | (refine zAo rfl _ _ _ _ _ rfl rfl _ _ rfl rfl ?_;intro r3 n3 gI;have hq:=zCa gI (show ffin (fc r1)=false by rw [qC.out];exact HW.out);simp only [Bool.not_false] at hq;clear gI) | fail)
         (try rw [Exit.noGoto_ret])
         refine bodyPost_ret (v:=.tuple #[.complex .f64 0 0,.int .i64 6]) ?_ rfl ⟨_,rfl,(by first | exact zAg aG.out _ | exact zAg (zAg aG.out _) _ | exact zAg (zAg (zAg aG.out _) _) _ | exact zAg (zAg (zAg (zAg aG.out _) _) _) _),_,_,_,rfl,by rw [zEb (zFo HA.out HC.out (by unfold isAd;rw [h1,h8,h2,h3];rfl)),admB_3 (by rw [h1,h8];rfl) h2];exact (fin6_no ((cfin_right _).trans HW.out)).symm⟩;rw [results_tmp2 rfl];rfl
       · have HW:=hid hw;clear hw;go_wp2_with (first | (refine zAo rfl _ _ _ _ _ rfl rfl _ _ rfl rfl ?_;intro r3 n3 gI;have hq:=zCa gI (show ffin (fc r1)=true by rw [qC.out];exact HW.out);simp only [Bool.not_true] at hq;clear gI) | (go_at_call 41;refine (zBk _ _ _).mono ?_;rintro e w' ⟨v,n,rfl,rfl,rfl⟩;rw [qC.out,cfin_right,HW.out]))
         (try rw [Exit.noGoto_ret])
         refine bodyPost_ret (v:=.tuple #[.complex .f64 0 r1,.int .i64 0]) ?_ rfl ⟨_,rfl,(by first | exact zAg aG.out _ | exact zAg (zAg aG.out _) _ | exact zAg (zAg (zAg aG.out _) _) _ | exact zAg (zAg (zAg (zAg aG.out _) _) _) _),_,_,_,rfl,by rw [zEb (zFo HA.out HC.out (by unfold isAd;rw [h1,h8,h2,h3];rfl)),admB_3 (by rw [h1,h8];rfl) h2,qC.out];exact (fin6_yes ((cfin_right _).trans HW.out)).symm⟩;rw [results_tmp2 rfl];rfl
     · go_wp2_with fail
       (try rw [Exit.noGoto_ret])
       refine bodyPost_ret (v:=.tuple #[.complex .f64 0 0,.int .i64 2]) ?_ rfl ⟨_,rfl,(by first | exact zAg aG.out _ | exact zAg (zAg aG.out _) _ | exact zAg (zAg (zAg aG.out _) _) _ | exact zAg (zAg (zAg (zAg aG.out _) _) _) _),_,_,_,rfl,by rw [adm_bad (may_no HA.out HC.out (by unfold isAd;rw [h1,h8,h2,h3];rfl)) (by decide)]⟩;rw [results_tmp2 rfl];rfl
   · have HC:=hid hc;have hcq:(zAv x==0)=false:=by simpa using hc
     have hcn:(zAv x !=0)=true:=by simpa using hc
     go_wp2_with (go_at_call 32;refine (vcheck_any x _ HX.out).mono ?_;rintro en w2 ⟨rfl,aV⟩;have aG:=hid (zAd (zAg bC.out _) aV);have HBX2:=hid (zAa aV (show (w1.drewN n).heap[w.heap.size]? =_ from bS.out));clear aV)
     (try rw [Exit.noGoto_ret])
     refine bodyPost_ret (v:=.tuple #[.complex .f64 0 0,.int .i64 (zAv x)]) ?_ rfl ⟨_,rfl,aG.out,_,_,_,rfl,by rw [adm_bad (may_chk HA.out HC.out) HC.out]⟩;rw [results_tmp2 rfl];rfl
 · have HA:=hid ha;have haq:(angE o==0)=false:=by simpa using ha
   have han:(angE o !=0)=true:=by simpa using ha
   go_wp2_with (go_at_call 174;refine (tang_any _ _).mono ?_;rintro e w' ⟨v,n,rfl,rfl,rfl⟩)
   (try rw [Exit.noGoto_ret])
   refine bodyPost_ret (v:=.tuple #[.complex .f64 0 0,.int .i64 (angE o)]) ?_ rfl ⟨_,rfl,zAg bC.out _,_,_,_,rfl,by rw [adm_bad (may_ang HA.out) HA.out]⟩;rw [results_tmp2 rfl];rfl
theorem zEt (x:El) (o:Nat) (w:World) (hx:x.Ok):
 Calls Tryz.prog 131 #[.agg #[.int .u8 x.kind,.string x.name,.string x.a,.string x.b,.string x.c,.string x.d,.float .f64 x.val,.int .i64 x.ph],.float .f64 o] w (RetB (IsCE (admS x o)) w):=by
 have HX:=hid hx;have bK:=heap_alloc_new w (.cells #[.int .u8 x.kind,.string x.name,.string x.a,.string x.b,.string x.c,.string x.d,.float .f64 x.val,.int .i64 x.ph] 35);have cN:=(Below.refl w.heap.size w).alloc (Nat.le_refl _) (.cells #[.int .u8 x.kind,.string x.name,.string x.a,.string x.b,.string x.c,.string x.d,.float .f64 x.val,.int .i64 x.ph] 35);obtain ⟨bJ,fb⟩:=zAc bK;have b0:=bJ 0 _ rfl;have b1:=bJ 1 _ rfl;have b2:=bJ 2 _ rfl;have b3:=bJ 3 _ rfl;have b4:=bJ 4 _ rfl;have b5:=bJ 5 _ rfl;have b6:=bJ 6 _ rfl;have b7:=bJ 7 _ rfl;have bS:=hid bK;have bC:=hid cN;clear bJ fb bK cN hx;go_enter Tryz.func131,Tryz.ntmps131;go_upto_region 1 with fail;generalize w.alloc (.cells #[.int .u8 x.kind,.string x.name,.string x.a,.string x.b,.string x.c,.string x.d,.float .f64 x.val,.int .i64 x.ph] 35)=w1 at *;go_wp2_with (go_at_call 154;refine (reckon_any x o _ HX.out).mono ?_;rintro en w2 ⟨v,rfl,aV,p,q,k,rfl,hz⟩);refine bodyPost_ret (v:=.tuple #[.complex .f64 p q,.int .i64 k]) ?_ rfl ⟨_,rfl,zAd bC.out aV,_,_,_,rfl,hz⟩;rw [results_tmp2 rfl];rfl
end
section
open Go.RowKit
structure St where
 sub:Bool
 i:Int
 j:Int
 y:Cx
abbrev StS:=(Nat→Cx) × Bool
def stZ (n:Nat) (m:Nat→Cx) (t:St):Cx:=if t.sub then csub (m (t.i * n+t.j).toNat) t.y else cadd (m (t.i * n+t.j).toNat) t.y
def st1 (n:Nat) (s:StS) (t:St):StS:=if t.i < 0∨t.j < 0 then s else (upd s.1 (t.i * n+t.j).toNat (stZ n s.1 t),s.2 || !cfin (stZ n s.1 t))
theorem st1_no {n:Nat} {s:StS} {t:St} (h:t.i < 0∨t.j < 0):st1 n s t=s:=by unfold st1;rw [if_pos h]
theorem st1_yes {n:Nat} {s:StS} {t:St} (h:¬(t.i < 0∨t.j < 0)):st1 n s t=(upd s.1 (t.i * n+t.j).toNat (stZ n s.1 t),s.2 || !cfin (stZ n s.1 t)):=by unfold st1;rw [if_neg h]
theorem zAs {w w':World} {g:Nat} {o:Obj} (hb:Below w.heap.size w w') (h:w.heap[g]? =some o):w'.heap[g]? =some o:=(hb.block g (Array.getElem?_eq_some_iff.1 h).1).trans h
theorem blk_setS {w:World} {g o:Nat} {cs:Array Value} {t:TypeId} {f:Nat × Nat} (h:w.heap[g]? =some (.cells cs t f)) (v:Value):(w.setCell ⟨g,o,none⟩ v).heap[g]? =some (.cells (cs.setIfInBounds o v) t f):=by
 unfold World.setCell
 simp [Array.getElem?_modify,h]
theorem zEh (w:World) (g o:Nat) (v:Value):w.grownBy (w.setCell ⟨g,o,none⟩ v) (some g):=
 ⟨rfl,rfl,rfl,by simp,fun k _ hk=> Below.heap_setCell w ⟨g,o,none⟩ v k (fun e=> hk (by rw [e]))⟩
end
section
open Go.RowKit
def rowI (l:List El) (s:ByteArray):Int:=if has (nds l) s=true then plI (nds l) s else -1
def brI (l:List El) (s:ByteArray):Int:=(nds l).length+plI (brs l) s
def szL (l:List El):Nat:=(nds l).length+(brs l).length
def cOne:Cx:=(fone,fc 0)
def zFf (i j:Int) (y:Cx):List St:= [⟨false,i,i,y⟩,⟨false,j,j,y⟩,⟨true,i,j,y⟩,⟨true,j,i,y⟩]
def stTrans (i j k q:Int) (g:Cx):List St:= [⟨false,i,k,g⟩,⟨true,i,q,g⟩,⟨true,j,k,g⟩,⟨false,j,q,g⟩]
def stBr (i j m:Int):List St:= [⟨false,i,m,cOne⟩,⟨false,m,i,cOne⟩,⟨true,j,m,cOne⟩,⟨true,m,j,cOne⟩]
def stAmp (m k q:Int) (g:Cx):List St:= [⟨true,m,k,g⟩,⟨false,m,q,g⟩]
def stOf (l:List El) (x:El) (y:Cx):List St:=
 if isAd x=true then zFf (rowI l x.a) (rowI l x.b) y
 else if x.kind=6 then stTrans (rowI l x.a) (rowI l x.b) (rowI l x.c) (rowI l x.d) (fc x.val,fc 0)
 else if x.kind=5 then stBr (rowI l x.a) (rowI l x.b) (brI l x.name)
 else if x.kind=7 then stBr (rowI l x.a) (rowI l x.b) (brI l x.name)++stAmp (brI l x.name) (rowI l x.c) (rowI l x.d) (fc x.val,fc 0)
 else []
def zBd (l:List El) (om:Nat) (m:Nat→Cx) (x:El):(Nat→Cx) × Int:=
 if isAd x=true∧(admS x om).2≠0 then (m,(admS x om).2)
 else (((stOf l x (admS x om).1).foldl (st1 (szL l)) (m,false)).1,if ((stOf l x (admS x om).1).foldl (st1 (szL l)) (m,false)).2=true then 6 else 0)
def matR (l:List El) (om:Nat):Nat→List El→(Nat→Cx)→(Nat→Cx) × Int × Int
 | _, [],m=> (m,0,0)
 | k,x::r,m=> if (zBd l om m x).2=0 then matR l om (k+1) r (zBd l om m x).1 else (m,(zBd l om m x).2,k)
def cZero:Cx:=(fc 0,fc 0)
def matS (b:Bool) (l:List El) (om:Nat):(Nat × List Cx) × (Int × Int):=
 if b=true then ((0, []),(1,-1)) else if angE om≠0 then ((0, []),(angE om,-1))
 else if (matR l om 0 l fun _=> cZero).2.1=0 then ((szL l,(List.range (szL l * szL l)).map (matR l om 0 l fun _=> cZero).1),(0,0))
 else ((0, []),(matR l om 0 l fun _=> cZero).2)
theorem mat_none {l:List El} {om:Nat}:matS true l om=((0, []),(1,-1)):=by unfold matS;rw [if_pos rfl]
theorem mat_ang {l:List El} {om:Nat} (h:angE om≠0):matS false l om=((0, []),(angE om,-1)):=by unfold matS;rw [if_neg (by simp),if_pos h]
def matK (l:List El) (om:Nat):Nat→(Nat→Cx)
 | 0=> fun _=> cZero
 | k+1=> match l[k]? with | some x=> (zBd l om (matK l om k) x).1 | none=> matK l om k
theorem zCi {l:List El} {om k:Nat} {x:El} (h:l[k]? =some x):matK l om (k+1)=(zBd l om (matK l om k) x).1:=by simp only [matK,h]
theorem matR_at {l:List El} {om:Nat}:∀ (j k:Nat),k+j=l.length→(∀ (i:Nat) (x:El),i < k→l[i]? =some x→(zBd l om (matK l om i) x).2=0)→matR l om 0 l (fun _=> cZero)=matR l om k (l.drop k) (matK l om k):=by
 intro j;have key:∀k,k≤l.length→(∀ (i:Nat) (x:El),i < k→l[i]? =some x→(zBd l om (matK l om i) x).2=0)→matR l om 0 l (fun _=> cZero)=matR l om k (l.drop k) (matK l om k):=by
  intro k
  induction k with
  | zero=> intro _ _;rfl
  | succ k ih=>
   intro hk h;have hx:l[k]? =some l[k]:=List.getElem?_eq_getElem (by omega);rw [ih (by omega) (fun i x hi hx=> h i x (by omega) hx),List.drop_eq_getElem_cons (by omega)]
   conv=> lhs;unfold matR
   rw [if_pos (h k _ (by omega) hx),zCi hx]
 intro k hk h;exact key k (by omega) h
theorem zCr {l:List El} {om k:Nat} {x:El} (ha:angE om=0) (hx:l[k]? =some x) (h:∀ (i:Nat) (x:El),i < k→l[i]? =some x→(zBd l om (matK l om i) x).2=0) (hb:(zBd l om (matK l om k) x).2≠0):
 matS false l om=((0, []),((zBd l om (matK l om k) x).2,(k:Int))):=by
 have hk:=(List.getElem?_eq_some_iff.1 hx).1;have e:=(List.getElem?_eq_some_iff.1 hx).2;have h1:=matR_at (l:=l) (om:=om) (l.length - k) k (by omega) h;rw [List.drop_eq_getElem_cons hk,e] at h1;have h2:matR l om k (x::l.drop (k+1)) (matK l om k)=(matK l om k,(zBd l om (matK l om k) x).2,(k:Int)):=by
  conv=> lhs;unfold matR
  rw [if_neg hb]
 rw [h2] at h1;unfold matS;rw [if_neg (by simp),if_neg (by simpa using ha),h1,if_neg hb]
theorem mat_done {l:List El} {om:Nat} (ha:angE om=0) (h:∀ (i:Nat) (x:El),l[i]? =some x→(zBd l om (matK l om i) x).2=0):
 matS false l om=((szL l,(List.range (szL l * szL l)).map (matK l om l.length)),(0,0)):=by
 have h1:=matR_at (l:=l) (om:=om) 0 l.length (by omega) (fun i x _ hx=> h i x hx);rw [List.drop_length] at h1;unfold matS;rw [if_neg (by simp),if_neg (by simpa using ha),h1];unfold matR;rw [if_pos rfl]
theorem rowI_lt (l:List El) (s:ByteArray):rowI l s < (nds l).length:=by
 unfold rowI
 split
 · rename_i h;unfold plI;rw [if_pos h];have:(nds l).findIdx (fun t=> t.toList==s.toList) < (nds l).length:=by
    rw [List.findIdx_lt_length];unfold has at h
    simpa using h
   omega
 · omega
theorem rowI_ge (l:List El) (s:ByteArray):-1≤rowI l s:=by
 unfold rowI
 split
 · unfold plI;split <;> omega
 · omega
end
section
open Go.RowKit
theorem check_isK {x:El} (h:zAv x=0):isK x.kind=true:=by
 unfold zAv at h
 split at h
 · assumption
 · cases h
theorem zFr {l:List El}:∀ {r:List El} {k:Nat},zBt l k r=none→∀ (j:Nat) (e:El),r[j]? =some e→bad1 l (k+j) e=0
 | [],_,_,j,e,h=> by simp at h
 | x::r,k,hf,j,e,h=> by
  unfold zBt at hf
  split at hf
  · rename_i h0;cases j with
    | zero=> simp at h;subst h;exact h0
    | succ j=>
     have:=zFr hf j e (by simpa using h);rw [show k+(j+1)=k+1+j by omega];exact this
  · cases hf
theorem zFm {l:List El} (h:(ofL l).1=true):l.length≤256∧∀x∈l,zAv x=0:=by
 unfold ofL at h
 split at h
 · cases h
 · rename_i hl;refine ⟨by omega,fun x hx=> ?_⟩
   split at h
   · cases h
   · rename_i hf;obtain ⟨j,hj⟩:=List.getElem?_of_mem hx;have:=zFr hf j x hj;unfold bad1 at this
     split at this
     · assumption
     · exact this
theorem no_empty {l:List El} (h:∀x∈l,zAv x=0):has (l.map El.name) ⟨#[]⟩=false:=by
 cases hh:has (l.map El.name) ⟨#[]⟩ with
 | false=> rfl
 | true=>
  exfalso
  unfold has at hh;simp only [List.any_eq_true,List.mem_map] at hh;obtain ⟨s,⟨x,hx,rfl⟩,he⟩:=hh;have h0:=h x hx;have he2:x.name.toList= []:=by simpa using he
  have hn:zDf x.name=0:=by
   rw [(zEw x.name ⟨#[]⟩).1 (by rw [he2,zEi];rfl)];rfl
  unfold zAv at h0;unfold zCc at h0;rw [hn] at h0
  simp at h0
  split at h0 <;> simp at h0
theorem ofL_size {l:List El} (h:(ofL l).1=true):(nds l).length≤32∧(nds l).length+(brs l).length≤64:=by
 unfold ofL at h
 split at h
 · cases h
 · split at h
   · cases h
   · split at h
     · cases h
     · rename_i hh
       omega
theorem nn_form {w:World} {p:Value} {l:List El} (h:NN w p l):∃pa:Option Addr,p=.pointer pa∧zBp p=pa.isNone:=by
 rcases h with ⟨rfl,_⟩ | ⟨_,g,_,_,_,_,_,_,rfl,_⟩
 · exact ⟨none,rfl,rfl⟩
 · exact ⟨some ⟨g,0,none⟩,rfl,rfl⟩
end
section
open Go.RowKit
structure NetG (l:List El):Prop where
 len:l.length≤256
 ok:∀x∈l,x.Ok
 ck:∀x∈l,zAv x=0
 nm:has (l.map El.name) ⟨#[]⟩=false
 sz:szL l≤64
theorem netg_of {l:List El} (h:(ofL l).1=true) (aY:∀x∈l,x.Ok):NetG l:=by
 obtain ⟨h1,h2⟩:=zFm h;exact ⟨h1,aY,h2,no_empty h2,(ofL_size h).2⟩
end
section
open Go.RowKit
end
end Go.Proofs.YtdepiggjneoopaaGreatDoor
