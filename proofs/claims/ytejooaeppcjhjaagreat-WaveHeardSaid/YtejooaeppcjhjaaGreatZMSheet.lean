/- a part of the proof of the last text -/
import Derived.Test.YtejooaeppcjhjaaGreatZMWth
namespace Go.Proofs.YtejooaeppcjhjaaGreat
set_option linter.all false
set_option maxHeartbeats 4000000
set_option maxRecDepth 100000
section
open Go.RowKit Go.Maps
def AppD (B gu sz n1:Nat) (v:Value) (w:World):Prop:=∃g1 cap1,v=.slice (some ⟨g1,0,none⟩) (n1+1) cap1∧w.ownsRow B 3 1 v (n1+1) (nats (List.range n1)++ [.int .i64 n1])∧(g1=gu∨sz≤g1)
theorem AppD.later {B gu sz n1:Nat} {v:Value} {w w':World} (h:AppD B gu sz n1 v w) (hb:Below w.heap.size w w'):AppD B gu sz n1 v w':=by
 obtain ⟨g1,c1,h1,h2,h3⟩:=h;exact ⟨g1,c1,h1,zBa h2 (zAe hb none),h3⟩
theorem news_at {w:World} {b t:Nat} {x:Value} (h:w.heap[b]? =some (.cells #[x] t (0,0))):∀j u,([x]:List Value)[j]? =some u→w.cell? ((⟨b,0,none⟩:Addr).add j)=some u:=fun j u hj=> by
 obtain rfl:j=0:=by
  have:=(List.getElem?_eq_some_iff.1 hj).1
  simpa using this
 obtain rfl:x=u:=by simpa using hj
 exact (zAa h).1 0 _ rfl
def Once (acc:List ByteArray):Prop:=∀k t,acc[k]? =some t→has (acc.take k) t=false∧gnd t=false
theorem once_nd1 {acc:List ByteArray} (t:ByteArray) (h:Once acc):Once (nd1 acc t):=by
 unfold nd1
 split
 · exact h
 · rename_i hn;have hn2:gnd t=false∧has acc t=false:=by simpa using hn
   intro k s hk
   by_cases hlt:k < acc.length
   · rw [List.getElem?_append_left hlt] at hk;rw [List.take_append_of_le_length (by omega)];exact h k s hk
   · rw [List.getElem?_append_right (by omega)] at hk;have hk0:=(List.getElem?_eq_some_iff.1 hk).1;obtain rfl:k=acc.length:=by simp at hk0;omega
     rw [Nat.sub_self] at hk;obtain rfl:t=s:=by simpa using hk
     rw [List.take_left' rfl];exact ⟨hn2.2,hn2.1⟩
theorem once_fold:∀ (r acc:List ByteArray),Once acc→Once (r.foldl nd1 acc)
 | [],_,h=> h
 | t::r,_,h=> once_fold r _ (once_nd1 t h)
theorem once_nds:∀ (l:List El) (acc:List ByteArray),Once acc→Once (l.foldl nd4 acc)
 | [],_,h=> h
 | x::l,_,h=> once_nds l _ (once_fold (fr x) _ h)
theorem gnds_new {l:List El} {k:Nat} {t:ByteArray} (h:(nds l)[k]? =some t):has ((gnds l).take (k+1)) t=false:=by
 obtain ⟨h1,h2⟩:=once_nds l [] (fun k t h=> by simp at h) k t h;have h1':has ((nds l).take k) t=false:=h1;unfold gnds;rw [List.take_succ_cons];unfold has at h1'⊢;rw [List.any_cons,h1',Bool.or_false];cases e:((⟨#[48]⟩:ByteArray).toList==t.toList)
 · rfl
 · exfalso
   rw [←(zEh _ _).1 e] at h2;have:gnd ⟨#[48]⟩=true:=by unfold gnd;rw [zEa];rfl
   rw [this] at h2;cases h2
theorem zHg {l:List El} {k:Nat} (h:k≤ (nds l).length):((gnds l).take (k+1)).length=k+1:=by rw [List.length_take,zBz];omega
theorem mem_nd1 {acc:List ByteArray} {s t:ByteArray} (h:t∈nd1 acc s):t∈acc∨t=s:=by
 unfold nd1 at h
 split at h
 · exact .inl h
 · rcases List.mem_append.1 h with h | h
   · exact .inl h
   · exact .inr (by simpa using h)
theorem mem_fold {t:ByteArray}:∀ (r acc:List ByteArray),t∈r.foldl nd1 acc→t∈acc∨t∈r
 | [],_,h=> .inl h
 | s::r,acc,h=> by
  rcases mem_fold r _ h with h | h
  · rcases mem_nd1 h with h | h
    · exact .inl h
    · exact .inr (by rw [h];simp)
  · exact .inr (List.mem_cons_of_mem _ h)
theorem mem_nds {t:ByteArray}:∀ (l:List El) (acc:List ByteArray),t∈l.foldl nd4 acc→t∈acc∨∃x∈l,t∈fr x
 | [],_,h=> .inl h
 | x::l,acc,h=> by
  rcases mem_nds l _ h with h | ⟨y,hy,h⟩
  · rcases mem_fold (fr x) _ h with h | h
    · exact .inl h
    · exact .inr ⟨x,by simp,h⟩
  · exact .inr ⟨y,List.mem_cons_of_mem _ hy,h⟩
theorem nds_size {l:List El} (hok:∀x∈l,x.Ok) (t:ByteArray) (h:t∈nds l):t.size≤maxLen:=by
 rcases mem_nds l [] h with h | ⟨x,hx,h⟩
 · simp at h
 · have:=hok x hx;simp only [fr,List.mem_cons,List.not_mem_nil,or_false] at h;rcases h with rfl | rfl | rfl | rfl
   · exact this.a
   · exact this.b
   · exact this.c
   · exact this.d
def RetSets (l:List El) (up:List Nat) (w:World) (en:Ending) (w':World):Prop:=
 ∃g mb vU,en=.returned (.pointer (some ⟨g,0,none⟩))∧SetsAt w.heap.size w' g mb vU (gnds l) up∧Below w.heap.size w w'
theorem gof_any (p:Value) (l:List El) (w:World) (hp:NN w p l) (hl:l.length≤100000) (hok:∀x∈l,x.Ok):
 Calls Tryz.prog 150 #[p] w (RetSets l (List.range (gnds l).length) w):=by
 obtain ⟨i0,hi,hz0,hz1,hz2⟩:=info_parts zHf;obtain ⟨is,his,hs0,hs1,hs2⟩:=info_parts infoSt;have law:Keyed Tryz.prog 9 :=string_keyed Tryz.underlying9;have hmm:=@run_makeMap Tryz.prog;have hnl:=zEc l;have HNL:=hid (show (nds l).length≤400000 by omega);have hb0:Below w.heap.size w (w.alloc (.map #[] 0)):=(Below.refl _ _).alloc (Nat.le_refl _) _;obtain ⟨w1,hins,hm1,hg1⟩:=(World.ownsMap_made w _ _ _:(w.alloc (.map #[] 0)).ownsMap Tryz.prog 9 (plainElem Tryz.prog 3) w.heap.size 0 (.map [])).update law Tryz.underlying58 (by unfold maxLen;omega) (WideMaps.keyOf_string_mk Tryz.underlying9 (show (⟨#[48]⟩:ByteArray).size≤maxLen by decide)) (plainElem_int Tryz.underlying3 (WalkArith.wf_i64 (n:=0) ⟨by omega,by omega⟩));have HMP:=hid (show zHn w1 w.heap.size [⟨#[48]⟩] from ⟨_,hm1,zGu (s:=⟨#[48]⟩) mapIs_empty rfl⟩);have HB1:=hid (hb0.grown hg1 (by simp) (fun k e=> by cases e;exact Nat.le_refl _));have HP:=hid (hp.below HB1.out (Nat.le_refl _));clear hm1 hg1 hp hb0 hnl;go_enter Tryz.func150,Tryz.ntmps150;go_upto_region 2 with fail;have hs1:∀o,(w1.alloc o).heap.size=w1.heap.size+1:=fun o=> by simp
 have HST0:Hid (SetsAt w.heap.size ((w1.alloc (.cells #[.int .i64 0] 3)).alloc (.cells #[.map (some w.heap.size),.slice (some ⟨w1.heap.size,0,none⟩) 1 1] 208)) (w1.heap.size+1) w.heap.size (.slice (some ⟨w1.heap.size,0,none⟩) 1 1) [⟨#[48]⟩] [0]):=hid
  ⟨(by have:=HB1.out.size;omega),Nat.le_refl _,(by have h:=heap_alloc_new (w1.alloc (.cells #[.int .i64 0] 3)) (.cells #[.map (some w.heap.size),.slice (some ⟨w1.heap.size,0,none⟩) 1 1] 208);rwa [hs1] at h),
   HMP.out.kept (zAe (((Below.refl w1.heap.size w1).alloc (Nat.le_refl _) _).alloc (by simp) _) none) (by simp),
   zBa (zBs (World.ownsRow_lit (base:=w1.heap.size) (e:=3) (size:=1) w1 #[.int .i64 0] 1 (Nat.le_refl _) (by decide) rfl) HB1.out.size) (World.grownBy_alloc _ _ _),
   fun e=> (by have:=zCk e;omega)⟩
 have HB2:=hid (zAd HB1.out (((Below.refl w1.heap.size w1).alloc (Nat.le_refl _) (.cells #[.int .i64 0] 3)).alloc (by simp) (.cells #[.map (some w.heap.size),.slice (some ⟨w1.heap.size,0,none⟩) 1 1] 208)));have HP2:=hid (HP.out.below (((Below.refl w1.heap.size w1).alloc (Nat.le_refl _) (.cells #[.int .i64 0] 3)).alloc (by simp) (.cells #[.map (some w.heap.size),.slice (some ⟨w1.heap.size,0,none⟩) 1 1] 208)) (Nat.le_refl _));have HSZ:=hid (show w1.heap.size+1 < ((w1.alloc (.cells #[.int .i64 0] 3)).alloc (.cells #[.map (some w.heap.size),.slice (some ⟨w1.heap.size,0,none⟩) 1 1] 208)).heap.size by simp);clear hs1 hins hmm HB1 HP HMP;generalize (w1.alloc (.cells #[.int .i64 0] 3)).alloc (.cells #[.map (some w.heap.size),.slice (some ⟨w1.heap.size,0,none⟩) 1 1] 208)=w2 at *;generalize w1.heap.size+1=g at *;generalize hBq:w.heap.size=B at *;have HBQ:=hid hBq;clear hBq;go_wp2_with (go_at_call 117;refine (zEf _ l _ HP2.out hl).mono ?_;rintro e w3 ⟨v3,xs,rfl,hown3,rfl,hb3⟩;obtain ⟨a3,c3,rfl⟩:=(IsSl.of_own hown3).form;have HV:=hid hown3;have HST:=hid (HST0.out.later hb3);have HB3:=hid (HB2.out.trans (hb3.mono (by have:=HST0.out.gB;have:=HSZ.out;omega)));have HBZ:=hid (show B≤w3.heap.size by have:=HST0.out.gB;have:=HSZ.out;have:=hb3.size;omega);clear hown3 hb3);clear HB2 HP2;have HD:=hid (show∀r,(Value.slice a3 (nds l).length c3).ownBlock=some r→w2.heap.size≤r from fun r e=> (World.ownsRow.lt HV.out r e).1);have HUL:=hid (show∀r,(Value.slice (some ⟨w1.heap.size,0,none⟩) 1 1).ownBlock=some r→(Value.slice a3 (nds l).length c3).ownBlock≠some r from fun r e e2=> by have h1:=(World.ownsRow.lt HST0.out.ou r e).2;have h2:=HD.out r e2;omega);have HVG:=hid (show (Value.slice a3 (nds l).length c3).ownBlock≠some g from fun e=> by have h1:=HSZ.out;have h2:=HD.out g e;omega)
 clear HST0 HD HSZ;obtain ⟨N,hN⟩:∃N,(nds l).length=N:=⟨_,rfl⟩;have HN:=hid hN;have hn0:=HNL.out;rw [hN] at HV HUL HVG hn0;rw [hN];clear hN
 go_loopw [14] (fun i wr=> ∃ (k:Nat) (vU:Value),k≤N∧i=.int .i64 k∧SetsAt B wr g B vU ((gnds l).take (k+1)) (List.range (k+1))∧wr.ownsRow w2.heap.size 9 1 (.slice a3 N c3) N (sts (nds l))∧(∀r,vU.ownBlock=some r→(Value.slice a3 N c3).ownBlock≠some r)∧Below B w wr∧B≤wr.heap.size) (fun i _=> N - (intOf i).toNat)
 case atStart=> exact ⟨0,_,Nat.zero_le _,rfl,HST.out,HV.out,HUL.out,HB3.out,HBZ.out⟩
 case round=>
  obtain ⟨k,vU,hk,rfl,hst,hv,hd,hb,hbz⟩:=hrel;have HS:=hid hst;have HO:=hid hv;have HDD:=hid hd;have HB:=hid hb;have HZ:=hid hbz;clear hst hv hd hb hbz HST HV HUL HB3 HBZ
  by_cases hlt:k < N
  · obtain ⟨g1,o1,y,hidx,hg1,hc1,hy⟩:=IsSl.at1 Tryz.underlying45 his hs1 (IsSl.of_own HO.out) hlt;obtain ⟨t,ht,rfl⟩:=sts_get hy;have HT:=hid ht;have htx:t.size≤maxLen:=nds_size hok t (List.mem_of_getElem? ht);have HTX:=hid htx;obtain ⟨n1,hn1⟩:∃n1,k+1=n1:=⟨_,rfl⟩;have HN1:=hid hn1;have hou:=HS.out.ou;rw [List.length_range,hn1] at hou;obtain ⟨gu,cU,hvu,_⟩:=hou.form (by omega);subst hvu;have hbk:wr.heap[g]? =some (.cells #[.map (some B),.slice (some ⟨gu,0,none⟩) n1 cU] 208 (0,0)):=HS.out.blk;have HBK:=hid hbk;have HOU:=hid hou;have n0:=(zAa hbk).1 0 _ rfl;have n2:=(zAa hbk).1 1 _ rfl;obtain ⟨D,hown,hD⟩:=HS.out.mp;rw [zHg (by rw [HN.out];omega),hn1] at hown;have HOWN:=hid hown;have HMD:=hid hD;clear hy hg1 ht htx hbk hou hown hD hn1;go_upto_region 5 with fail
    go_still_tail 10,(by kernel_rfl)
    change wpList _ _ _ _ _ wr.drew;go_upto_region 6 with (at_mapUpdate;go_loud (refine wpList_mapUpdate_own _ rfl _ _ _ 58 rfl 9 3 law Tryz.underlying58 _ B n1 D rfl HOWN.out.drew (by have:=HN1.out;unfold maxLen;omega) _ _ _ rfl rfl (WideMaps.keyOf_string_mk Tryz.underlying9 HTX.out) _ [] (plainElem_int Tryz.underlying3 (WalkArith.wf_i64 ⟨by omega,by have:=HN1.out;omega⟩)) ?_;intro w4 hown4 hgr4;have HM4:=hid hown4;have HG4:=hid hgr4;clear hown4 hgr4));have hgr:=zEp HG4.out;have hgB:g≠B:=HS.out.gm;have huB:=HS.out.um;have HS4:=hid (show SetsAt B w4 g B (.slice (some ⟨gu,0,none⟩) n1 cU) ((gnds l).take (k+2)) (List.range n1) from ⟨HS.out.gB,HS.out.mB,zAk hgr hgB HBK.out,⟨_,by rw [zHg (k:=k+1) (by rw [HN.out];omega),HN1.out];exact HM4.out,by have h:=zGu HMD.out (gnds_new HT.out);rw [zHg (by rw [HN.out];omega),←gnds_take HT.out,HN1.out] at h;exact h⟩,by rw [List.length_range];exact own_ne HOU.out hgr huB,HS.out.ug⟩);have HVB:=hid (show (Value.slice a3 N c3).ownBlock≠some B from HS.out.mp.ne_row HO.out);have HO4:=hid (own_ne HO.out hgr HVB.out);have HB4:=hid (HB.out.grown hgr HZ.out (fun r e=> by cases e;exact Nat.le_refl _));have HZ4:=hid (Nat.le_trans HZ.out hgr.size);clear hgr hgB huB HM4 HG4 HOWN HMD HBK HOU HS HO HB HZ n0 n2;have HGU:=hid (show g≠gu from fun e=> HS4.out.ug (by rw [e];rfl));have HBU:=hid (show (Value.slice a3 N c3).ownBlock≠some gu from HDD.out gu rfl);have HMU:=hid (show B≠gu from fun e=> HS4.out.um (by rw [e];rfl));have HGL:=hid (show gu < w4.heap.size from (World.ownsRow.lt HS4.out.ou gu rfl).2);refine wp_region_any (by kernel_rfl) ?_;change wpAny _ _ _ _ _ _ _ (World.drew _);refine zCn [⟨some 28,0, []⟩,⟨some 29,1, []⟩,⟨some 30,2, []⟩,⟨some 31,3, []⟩,⟨some 32,4, []⟩,⟨some 33,5, []⟩,⟨some 34,6, []⟩,⟨some 35,7, []⟩,⟨some 36,8, []⟩,⟨some 37,9, []⟩,⟨some 38,10, []⟩,⟨some 39,11, []⟩] (fun u u'=> u.grownBy u' (some (gu))) (fun k u u'=> (k=11∧u.grownBy u' (some (gu)))∨(k≠11∧Below u.heap.size u u'))
     (fun d w'=> w'.heap[g]? =some (.cells #[.map (some B),.slice (some ⟨gu,0,none⟩) n1 cU] 208 (0,0))∧(d 11=false→w'.ownsRow B 3 1 (.slice (some ⟨gu,0,none⟩) n1 cU) n1 (nats (List.range n1))))
     (fun oq v _ ww lo hi=> (match oq with | 0=> v=.pointer (some ⟨g,0,none⟩) | 1=> v=.pointer (some ⟨g,0,none⟩) | 2=> v=.pointer (some ⟨g,0,none⟩) | 3=> v=.pointer (some ⟨g,1,none⟩) | 4=> v=.slice (some ⟨gu,0,none⟩) n1 cU | 5=> v=.pointer (some ⟨g,0,none⟩) | 6=> v=.pointer (some ⟨g,0,none⟩) | 7=> v=.pointer (some ⟨g,1,none⟩) | 8=> v=.slice (some ⟨gu,0,none⟩) n1 cU | 9=> v=.int .i64 n1 | 10=> True | 11=> True | _=> True)∧(oq=10→OneD (.int .i64 n1) 3 v ww lo hi)∧(oq=11→AppD B gu w4.heap.size n1 v ww)) (by kernel_rfl) ?hSe (fun _=> World.grownBy.refl _ _) (fun _ _ _ h1 h2=> zAf h1 h2) (fun _ _ h=> h.size) (fun _ _ _ h=> by rcases h with ⟨_,h⟩ | ⟨_,h⟩;exact h;exact zAe h _) (fun o d u u' _ _ h hS=> by rcases h with ⟨rfl,h⟩ | ⟨hne,h⟩;exact ⟨zAk h HGU.out hS.1,fun e=> (by rw [zAr] at e;cases e)⟩;exact ⟨zAm h hS.1,fun e=> zBa (hS.2 (by rw [zAu _ _ (Ne.symm hne)] at e;exact e)) (zAe h none)⟩) (fun o i hoi v xs u u' lo hi hlo hst hle h=> by rcases hst with ⟨rfl,hg⟩ | ⟨_,hb⟩;exact ⟨h.1,(fun e=> (h.2.1 e).grown hg (Nat.lt_of_lt_of_le HGL.out hlo)),(fun e=> absurd e hoi)⟩;exact ⟨h.1,fun e=> (h.2.1 e).later hb,fun e=> (h.2.2 e).later hb⟩) ?hope ?hende
    case hSe=> exact ⟨zAm (Below.refl _ _).drew HS4.out.blk,fun _=> by have h:=zBa HS4.out.ou (zAe (Below.refl _ _).drew none);rw [List.length_range] at h;exact h⟩
    case hope=>
     delta OwedT
     simp only [zBg,Act.put,List.setIfInBounds_toArray,lz,ls];refine Each.cons rfl ?_ (Each.cons rfl ?_ (Each.cons rfl ?_ (Each.cons rfl ?_ (Each.cons rfl ?_ (Each.cons rfl ?_ (Each.cons rfl ?_ (Each.cons rfl ?_ (Each.cons rfl ?_ (Each.cons rfl ?_ (Each.cons rfl ?_ (Each.cons rfl ?_ Each.nil)))))))))))
     all_goals intro vs d w2 hb2 hd2 hS2 hR2 K hK;try simp only [zBg,Act.put,List.setIfInBounds_toArray,lz,ls] at hK⊢
     · go_simp;exact hK.out _ _ (.inr ⟨by decide,Below.refl _ _⟩) ⟨rfl,(fun e=> (by cases e)),(fun e=> (by cases e))⟩
     · go_simp;exact hK.out _ _ (.inr ⟨by decide,Below.refl _ _⟩) ⟨rfl,(fun e=> (by cases e)),(fun e=> (by cases e))⟩
     · have h1:vs 1=_:=exR (hR2 1 (by kernel_rfl)) (fun _ _ h=> h.1);simp only [h1] at hK⊢;go_simp;exact hK.out _ _ (.inr ⟨by decide,Below.refl _ _⟩) ⟨rfl,(fun e=> (by cases e)),(fun e=> (by cases e))⟩
     · have h2:vs 2=_:=exR (hR2 2 (by kernel_rfl)) (fun _ _ h=> h.1);simp only [h2] at hK⊢;go_simp;exact hK.out _ _ (.inr ⟨by decide,Below.refl _ _⟩) ⟨rfl,(fun e=> (by cases e)),(fun e=> (by cases e))⟩
     · have h3:vs 3=_:=exR (hR2 3 (by kernel_rfl)) (fun _ _ h=> h.1);have k0:=(zAa hS2.1).1 1 _ rfl;simp only [h3] at hK⊢;go_simp;exact hK.out _ _ (.inr ⟨by decide,Below.refl _ _⟩) ⟨rfl,(fun e=> (by cases e)),(fun e=> (by cases e))⟩
     · go_simp;exact hK.out _ _ (.inr ⟨by decide,Below.refl _ _⟩) ⟨rfl,(fun e=> (by cases e)),(fun e=> (by cases e))⟩
     · have h5:vs 5=_:=exR (hR2 5 (by kernel_rfl)) (fun _ _ h=> h.1);simp only [h5] at hK⊢;go_simp;exact hK.out _ _ (.inr ⟨by decide,Below.refl _ _⟩) ⟨rfl,(fun e=> (by cases e)),(fun e=> (by cases e))⟩
     · have h6:vs 6=_:=exR (hR2 6 (by kernel_rfl)) (fun _ _ h=> h.1);simp only [h6] at hK⊢;go_simp;exact hK.out _ _ (.inr ⟨by decide,Below.refl _ _⟩) ⟨rfl,(fun e=> (by cases e)),(fun e=> (by cases e))⟩
     · have h7:vs 7=_:=exR (hR2 7 (by kernel_rfl)) (fun _ _ h=> h.1);have k0:=(zAa hS2.1).1 1 _ rfl;simp only [h7] at hK⊢;go_simp;exact hK.out _ _ (.inr ⟨by decide,Below.refl _ _⟩) ⟨rfl,(fun e=> (by cases e)),(fun e=> (by cases e))⟩
     · have h8:vs 8=_:=exR (hR2 8 (by kernel_rfl)) (fun _ _ h=> h.1);simp only [h8] at hK⊢;go_simp;exact hK.out _ _ (.inr ⟨by decide,Below.refl _ _⟩) ⟨rfl,(fun e=> (by cases e)),(fun e=> (by cases e))⟩
     · have h9:vs 9=_:=exR (hR2 9 (by kernel_rfl)) (fun _ _ h=> h.1);simp only [h9] at hK⊢;go_simp;exact hK.out _ _ (.inr ⟨by decide,(Below.refl _ _).alloc (Nat.le_refl _) _⟩) ⟨trivial,fun _=> ⟨w2.heap.size,rfl,Nat.le_refl _,by simp,heap_alloc_new _ _⟩,(fun e=> (by cases e))⟩
     · have h4:vs 4=_:=exR (hR2 4 (by kernel_rfl)) (fun _ _ h=> h.1);obtain ⟨_,_,_,H10⟩:=hR2 10 (by kernel_rfl);have Y10:=H10.2.1 rfl;simp only [h4] at hK⊢;obtain ⟨_,_,_,H10⟩:=hR2 10 (by kernel_rfl);obtain ⟨b,h10,hlo,hhi,hrow⟩:=H10.2.1 rfl;simp only [h10] at hK⊢;rw [if_pos (by rfl)];refine append_own_op rfl _ _ _ rfl B 3 1 8 i0 (.int .i64 0) Tryz.underlying153 hi hz0 hz1 hz2 rfl _ n1 _ (hS2.2 hd2) ⟨b,0,none⟩ 1 1 [.int .i64 n1] (by rfl) (by rfl) rfl (news_at hrow) (by intro u hu;rw [List.mem_singleton.1 hu];rfl) (by decide) (by have:=HN1.out;unfold maxLen;omega) (by have:=HN1.out;omega) (Nat.le_trans HZ4.out hb2.size) ?_;intro g1 cap1 w6 hown6 hlt6 htwo;refine hK.out _ _ (.inl ⟨by first | rfl | trivial,?_⟩) ⟨trivial,(fun e=> (by cases e)),fun _=> ⟨g1,cap1,rfl,hown6,?_⟩⟩
       · rcases htwo with ⟨e,h⟩ | ⟨_,h⟩
         · obtain rfl:=zCk e;exact h
         · exact grown_any h
       · rcases htwo with ⟨e,_⟩ | ⟨e,_⟩
         · exact .inl (zCk e)
         · exact .inr (by rw [e];exact hb2.size)
    case hende=>
     intro vs wx lo hiv hbx hSx hRx hdx;have h0:vs 0=_:=(hRx 0 (by kernel_rfl)).1.1;have h1:vs 1=_:=(hRx 1 (by kernel_rfl)).1.1;have h2:vs 2=_:=(hRx 2 (by kernel_rfl)).1.1;have h3:vs 3=_:=(hRx 3 (by kernel_rfl)).1.1;have h4:vs 4=_:=(hRx 4 (by kernel_rfl)).1.1;have h5:vs 5=_:=(hRx 5 (by kernel_rfl)).1.1;have h6:vs 6=_:=(hRx 6 (by kernel_rfl)).1.1;have h7:vs 7=_:=(hRx 7 (by kernel_rfl)).1.1;have h8:vs 8=_:=(hRx 8 (by kernel_rfl)).1.1;have h9:vs 9=_:=(hRx 9 (by kernel_rfl)).1.1;have Y10:=(hRx 10 (by kernel_rfl)).1.2.1 rfl;have Z10:=(hRx 10 (by kernel_rfl)).2;have Y11:=(hRx 11 (by kernel_rfl)).1.2.2 rfl;have Z11:=(hRx 11 (by kernel_rfl)).2;simp only [zBg,Act.put,List.setIfInBounds_toArray,lz,ls,h0,h1,h2,h3,h4,h5,h6,h7,h8,h9];have hgx:=zEp hbx;obtain ⟨g1,cap1,h11,hown6,hor⟩:=Y11;have HGX:=hid hgx;have HX1:=hid hSx.1;have HROW:=hid hown6;have HOR:=hid hor;clear hbx hSx hRx hdx hgx hown6 hor Y10 Z10 Z11 h0 h1 h2 h3 h4 h5 h6 h7 h8 h9;rw [h11] at HROW;simp only [h11];clear h11;have m0:=(zAa HX1.out).1 1 _ rfl;have f1:=(zAa HX1.out).2 1;refine zAt (i:=12) (by kernel_rfl) rfl (fun K hK=> ?_);go_simp;refine hK.out _ _ ?_;clear hK;refine zAt (i:=13) (by kernel_rfl) rfl (fun K hK=> ?_);go_simp;refine hK.out _ _ ?_;clear hK;refine zAt (i:=14) (by kernel_rfl) rfl (fun K hK=> ?_);go_simp;refine hK.out _ _ ?_;clear hK m0 f1;refine wpAny_done (by kernel_rfl) ?_ _;go_wp2;go_roundw
     case rel=>
      have hg2:=zAj wx g 1 (.slice (some ⟨g1,0,none⟩) (n1+1) cap1);have hgg:g≠g1:=by
       rcases HOR.out with h | h
       · rw [h];exact HGU.out
       · have:=(Array.getElem?_eq_some_iff.1 HS4.out.blk).1;omega
      have hBg:some B≠some g:=fun e=> HS4.out.gm (Option.some.inj e).symm
      have hv4:(Value.slice a3 N c3).ownBlock≠some g:=HVG.out;have hmp:=(HS4.out.mp.kept HGX.out (fun e=> HMU.out (Option.some.inj e))).kept hg2 hBg;have hov:=own_ne (own_ne HO4.out HGX.out HBU.out) hg2 hv4;refine ⟨k+1,.slice (some ⟨g1,0,none⟩) (n1+1) cap1,by omega,by go_num,⟨HS4.out.gB,HS4.out.mB,zBi (o:=1) HX1.out _,by have e:=HN1.out;exact hmp,?_,fun e=> hgg (zCk e)⟩,hov,?_,?_,?_⟩
      · rw [List.length_range,HN1.out,List.range_succ,nats_snoc];exact own_ne HROW.out hg2 (fun e=> hgg (zCk e))
      · intro r e;rw [zCk e];rcases HOR.out with h | h
        · rw [h];exact HBU.out
        · intro e2;have:=(World.ownsRow.lt HO4.out _ e2).2;omega
      · exact (HB4.out.grown HGX.out HZ4.out (fun r e=> by cases e;exact (World.ownsRow.lt HS4.out.ou gu rfl).1)).setCell HS4.out.gB _
      · have:=HGX.out.size;have:=HZ4.out;simp;omega
     case measure=> simp [intOf];omega
  · obtain rfl:k=N:=by omega
    go_wp2;go_ret;refine ⟨g,B,vU,rfl,?_,by rw [HBQ.out];exact HB.out⟩;have h:=HS.out;rw [←HN.out,←zBz,List.take_length] at h;rw [HBQ.out];exact h
end
section
open Go.RowKit
theorem gjoins_any (k:Int) (w:World):
 Calls Tryz.prog 151 #[.int .u8 k] w fun e w'=> e=.returned (.bool (k !=4 && k !=6))∧w'=w:=by
 by_cases h4:k=4
 · have hn:(k !=4)=false:=by rw [h4];rfl
   clear h4;go_enter Tryz.func151,Tryz.ntmps151;go_wp2;go_ret;exact ⟨by rw [hn];rfl,rfl⟩
 · have hn:(k !=4)=true:=by rw [bne_iff_ne];exact h4
   by_cases h6:k=6
   · have hm:(k !=6)=false:=by rw [h6];rfl
     clear h4 h6;go_enter Tryz.func151,Tryz.ntmps151;go_wp2;go_ret;exact ⟨by rw [hn,hm];rfl,rfl⟩
   · have hm:(k !=6)=true:=by rw [bne_iff_ne];exact h6
     clear h4 h6;go_enter Tryz.func151,Tryz.ntmps151;go_wp2;go_ret;exact ⟨by rw [hn,hm];rfl,rfl⟩
theorem upK_yes {l:List El} {k:Nat} {x:El} (h:l[k]? =some x) (hj:zFw x=true):upK l (k+1)=joinU (upK l k) (gIx l x.a) (gIx l x.b):=by simp only [upK,h,hj,if_true]
theorem upK_no {l:List El} {k:Nat} {x:El} (h:l[k]? =some x) (hj:zFw x=false):upK l (k+1)=upK l k:=by simp only [upK,h,hj,Bool.false_eq_true,if_false]
theorem upK_fine (l:List El) (k:Nat):Fine (upK l k):=(upK_len l k).1.fine
theorem upK_length (l:List El) (k:Nat):(upK l k).length=(gnds l).length:=by rw [(upK_len l k).2,zBz]
theorem gall_any (p:Value) (l:List El) (w:World) (hp:NN w p l) (hl:l.length≤100000) (hok:∀x∈l,x.Ok):
 Calls Tryz.prog 116 #[p] w (RetSets l (upK l l.length) w):=by
 obtain ⟨ie,hie,hi0,hi1,hi2⟩:=info_parts zFh;have HP:=hid hp;have HOK:=hid hok;have HLE:=hid hl;clear hp hok;go_enter Tryz.func116,Tryz.ntmps116;go_upto_region 2 with (go_at_call 150;refine (gof_any p l _ HP.out hl HOK.out).mono ?_;rintro e w1 ⟨g,mb,vU,rfl,hh,hb⟩;have HH:=hid hh;have HB:=hid hb;have HP1:=hid (HP.out.below hb (Nat.le_refl _));clear hh hb HP);have HVU:=hid (show∀r,vU.ownBlock=some r→r < w1.heap.size from fun r e=> (World.ownsRow.lt HH.out.ou r e).2);go_wp2_with (go_at_call 121;refine (zFo p l _ HP1.out HLE.out).mono ?_;rintro e w2 ⟨v0,xs,rfl,hown,rfl,hb⟩;obtain ⟨a0,c0,rfl⟩:=(IsSl.of_own hown).form;have HE:=hid hown;have HH2:=hid (HH.out.later hb);have HB2:=hid (zAd HB.out hb);have HD:=hid (show∀r,vU.ownBlock=some r→(Value.slice a0 l.length c0).ownBlock≠some r from fun r e e2=> by have h1:=HVU.out r e;have h2:=(World.ownsRow.lt hown r e2).1;omega);clear hown hb HH HB HP1)
 go_loopw [11] (fun i wr=> ∃k:Nat,k≤l.length∧i=.int .i64 k∧SetsAt w.heap.size wr g mb vU (gnds l) (upK l k)∧wr.ownsRow w1.heap.size 48 8 (.slice a0 l.length c0) l.length (l.flatMap ea)∧Below w.heap.size w wr) (fun i _=> l.length - (intOf i).toNat)
 case atStart=> exact ⟨0,Nat.zero_le _,rfl,by have h:=HH2.out;rw [zBz] at h;exact h,HE.out,HB2.out⟩
 case round=>
  obtain ⟨k,hk,rfl,hh,he,hb⟩:=hrel;have HA:=hid hh;have HO:=hid he;have HB:=hid hb;clear hh he hb HH2 HE HB2
  by_cases hlt:k < l.length
  · obtain ⟨g1,o1,x,hidx,hg,hx,hcell⟩:=IsSl.atF Tryz.underlying26 hie hi1 ea_len (IsSl.of_own HO.out) rfl hlt;have HX:=hid hx;have HXOK:=hid (HOK.out x (List.mem_of_getElem? hx));have e0:wr.cell? ⟨g1,o1,none⟩=some (.int .u8 x.kind):=hcell 0 _ rfl;have e1:wr.cell? ⟨g1,o1+1,none⟩=some (.string x.name):=hcell 1 _ rfl;have e2:wr.cell? ⟨g1,o1+2,none⟩=some (.string x.a):=hcell 2 _ rfl;have e3:wr.cell? ⟨g1,o1+3,none⟩=some (.string x.b):=hcell 3 _ rfl;have e4:wr.cell? ⟨g1,o1+4,none⟩=some (.string x.c):=hcell 4 _ rfl;have e5:wr.cell? ⟨g1,o1+5,none⟩=some (.string x.d):=hcell 5 _ rfl;have e6:wr.cell? ⟨g1,o1+6,none⟩=some (.float .f64 x.val):=hcell 6 _ rfl;have e7:wr.cell? ⟨g1,o1+7,none⟩=some (.int .i64 x.ph):=hcell 7 _ rfl;clear hcell hg hx;go_upto_region 5 with fail;have hb1:=(Below.refl wr.heap.size wr).alloc (Nat.le_refl _) (.cells #[.int .u8 x.kind,.string x.name,.string x.a,.string x.b,.string x.c,.string x.d,.float .f64 x.val,.int .i64 x.ph] 48);have HBE:=hid (heap_alloc_new wr (.cells #[.int .u8 x.kind,.string x.name,.string x.a,.string x.b,.string x.c,.string x.d,.float .f64 x.val,.int .i64 x.ph] 48));have HA1:=hid (HA.out.later hb1);have HO1:=hid (zBa HO.out (zAe hb1 none));have HB1:=hid (zAd HB.out hb1);clear hb1 e0 e1 e2 e3 e4 e5 e6 e7 hidx HA HO HB;generalize wr.alloc (.cells #[.int .u8 x.kind,.string x.name,.string x.a,.string x.b,.string x.c,.string x.d,.float .f64 x.val,.int .i64 x.ph] 48)=w5 at *;generalize wr.heap.size=eb at *;have b0:=(zAa HBE.out).1 0 _ rfl;have b2:=(zAa HBE.out).1 2 _ rfl;have b3:=(zAa HBE.out).1 3 _ rfl;cases hj:zFw x
    · have HJN:=hid hj;have hj2:(x.kind !=4 && x.kind !=6)=false:=hj;clear hj;go_wp2_with (go_at_call 151;refine (gjoins_any x.kind _).mono ?_;rintro e w6 ⟨rfl,rfl⟩;rw [hj2]);go_roundw
      case rel=> exact ⟨k+1,by omega,by go_num,by rw [upK_no HX.out HJN.out];exact HA1.out,HO1.out,HB1.out⟩
      case measure=> simp [intOf];omega
    · have HJY:=hid hj;have hj2:(x.kind !=4 && x.kind !=6)=true:=hj;clear hj;go_wp2_with (first | (go_at_call 151;refine (gjoins_any x.kind _).mono ?_;rintro e w6 ⟨rfl,rfl⟩;rw [hj2]) | (go_at_call 152;refine (gjoin_any w.heap.size g mb vU l (upK l k) x.a x.b _ HA1.out HB1.out.size (upK_fine l k) (upK_length l k) HLE.out HXOK.out.a HXOK.out.b).mono ?_;rintro e w7 ⟨⟨bb,rfl⟩,hh,hgr⟩;have HA7:=hid hh;have HO7:=hid (zAz HO1.out hgr (fun r e e2=> HD.out r e2 e));have HB7:=hid (HB1.out.grown hgr HB1.out.size (fun r e=> (World.ownsRow.lt HA1.out.ou r e).1));clear hh hgr HA1 HO1 HB1 b0 b2 b3 HBE));go_roundw
      case rel=> exact ⟨k+1,by omega,by go_num,by rw [upK_yes HX.out HJY.out];exact HA7.out,HO7.out,HB7.out⟩
      case measure=> simp [intOf];omega
  · obtain rfl:k=l.length:=by omega
    go_wp2;go_ret;exact ⟨g,mb,vU,rfl,HA.out,HB.out⟩
end
section
open Go.RowKit
theorem bad1_ne {l:List El} {k:Nat} {x:El}:bad1 l k x≠1:=by
 have h:zBc x≠1:=by
  unfold zBc
  repeat' split
  all_goals decide
 unfold bad1
 repeat' split
 · decide
 · decide
 · exact h
theorem firstBad_ne {l:List El}:∀ (r:List El) (k:Nat) (q:Nat × Int),zDy l k r=some q→q.2≠1
 | [],_,_,h=> by simp [zDy] at h
 | x::r,k,q,h=> by
  unfold zDy at h
  split at h
  · exact firstBad_ne r _ q h
  · obtain rfl:=Option.some.inj h;exact bad1_ne
theorem ofL_ne (l:List El):(ofL l).2.1≠1:=by
 unfold ofL
 split
 · decide
 · split
   · rename_i k x hf;exact firstBad_ne l 0 (k,x) hf
   · split <;> decide
end
section
open Go.RowKit
def zeroE:El:=⟨0,⟨#[]⟩,⟨#[]⟩,⟨#[]⟩,⟨#[]⟩,⟨#[]⟩,0,0⟩
theorem zeroE_ok:zeroE.Ok:=by constructor <;> decide
theorem gnone_any (p:Value) (l:List El) (w:World) (hp:NN w p l) (hl:l.length≤100000) (hok:∀y∈l,y.Ok):
 Calls Tryz.prog 115 #[p] w fun e w'=> e=.returned (.bool (zAw p))∧Below w.heap.size w w':=by
 obtain ⟨pa,rfl⟩:∃pa:Option Addr,p=.pointer pa:=by
  obtain ⟨pa,h,_⟩:=nn_form hp;exact ⟨pa,h⟩
 cases pa with
 | none=>
  go_enter Tryz.func115,Tryz.ntmps115;go_wp2;go_ret;exact ⟨rfl,Below.refl _ _⟩
 | some pa=>
  have HP:=hid hp;have HOK:=hid hok;have HNE:=hid (ofL_ne (l++ [zeroE]));clear hp hok;go_enter Tryz.func115,Tryz.ntmps115;go_upto_region 4 with (go_at_call 149;refine (nwith_any pa l zeroE _ HP.out hl HOK.out zeroE_ok).mono ?_;rintro e w1 ⟨⟨p',rfl⟩,hb⟩;have HB:=hid hb;clear hb);obtain ⟨f,hf⟩:∃f,(ofL (l++ [zeroE])).2=f:=⟨_,rfl⟩;rw [show (ofL (l++ [zeroE])).2=f from hf] at HNE⊢;clear hf;obtain ⟨fa,fb⟩:=f;have hne:(fa==1)=false:=by have:=HNE.out;simpa using this
  have HB2:=hid (zAd HB.out ((Below.refl w1.heap.size w1).alloc (Nat.le_refl _) (.cells #[.int .i64 fa,.int .i64 fb] 32)));have HFB:=hid (heap_alloc_new w1 (.cells #[.int .i64 fa,.int .i64 fb] 32));clear HB HNE;dsimp only;generalize w1.alloc (.cells #[.int .i64 fa,.int .i64 fb] 32)=w2 at *;have b0:=(zAa HFB.out).1 0 _ rfl;go_wp2;go_ret;exact ⟨rfl,HB2.out⟩
theorem ggrounded_any (p:Value) (l:List El) (w:World) (hp:NN w p l) (hl:l.length≤100000) (hok:∀x∈l,x.Ok):
 Calls Tryz.prog 72 #[p] w (RetF (grdS (zAw p) l) w):=by
 have hbw:=(Below.refl w.heap.size w).alloc (Nat.le_refl _) (.cells #[.int .i64 0,.int .i64 0] 32);have HQ:=hid (hp.below hbw (Nat.le_refl _));have HBW:=hid hbw;have HZ:=hid (heap_alloc_new w (.cells #[.int .i64 0,.int .i64 0] 32));have HLE:=hid hl;have HOK:=hid hok;have hnl:=zEc l;have HNL:=hid (show (nds l).length≤400000 by omega);clear hp hbw hnl hok;cases hn:zAw p
 · have HN:=hid hn;clear hn;go_enter Tryz.func72,Tryz.ntmps72;go_upto_region 1 with fail;generalize w.alloc (.cells #[.int .i64 0,.int .i64 0] 32)=w0 at *;go_upto_region 4 with (first | (go_at_call 115;refine (gnone_any p l _ HQ.out HLE.out HOK.out).mono ?_;rintro e wn ⟨rfl,hb⟩;rw [HN.out];have HQ2:=hid (HQ.out.below hb (Nat.le_refl _));have HB2:=hid (zAd HBW.out hb);have HZ2:=hid (zAm hb HZ.out);clear hb HQ HBW HZ) | (go_at_call 116;refine (gall_any p l _ HQ2.out HLE.out HOK.out).mono ?_;rintro e w1 ⟨g,mb,vU,rfl,hh,hb⟩;have HH:=hid hh;have HQ3:=hid (HQ2.out.below hb (Nat.le_refl _));have HB3:=hid (zAd HB2.out hb);have HZ3:=hid (zAm hb HZ2.out);clear hh hb HQ2 HB2 HZ2));go_wp2_with (go_at_call 117;refine (zEf p l _ HQ3.out HLE.out).mono ?_;rintro e w2 ⟨v3,xs,rfl,hown3,rfl,hb⟩;obtain ⟨a3,c3,rfl⟩:=(IsSl.of_own hown3).form;have HH2:=hid (HH.out.later hb);have HB4:=hid (zAd HB3.out hb);have HZ4:=hid (zAm hb HZ3.out);clear hown3 hb HH HQ3 HB3 HZ3);have HUL:=hid (upK_length l l.length);have HF:=hid (upK_fine l l.length);obtain ⟨N,hN⟩:∃N,(nds l).length=N:=⟨_,rfl⟩;have HN2:=hid hN;have hn0:=HNL.out;rw [hN] at hn0;rw [hN];clear hN
   go_loopw [13] (fun i wr=> ∃k:Nat,k≤N∧i=.int .i64 k∧wr=w2∧∀j,j < k→(zBo (upK l l.length) (j+1) !=0)=false) (fun i _=> N - (intOf i).toNat)
   case atStart=> exact ⟨0,Nat.zero_le _,rfl,rfl,fun j hj=> absurd hj (Nat.not_lt_zero _)⟩
   case round=>
    obtain ⟨k,hk,rfl,rfl,hno⟩:=hrel;have HNO:=hid hno;clear hno;have z0:=(zAa HZ4.out).1 0 _ rfl;have z1:=(zAa HZ4.out).1 1 _ rfl;have f0:=(zAa HZ4.out).2 0;have f1:=(zAa HZ4.out).2 1
    by_cases hlt:k < N
    · obtain ⟨r,hr⟩:∃r,zBo (upK l l.length) (k+1)=r:=⟨_,rfl⟩;have HR:=hid hr;clear hr
      by_cases he:r=0
      · have HE:=hid he;have hne:((r:Int) !=0)=false:=by rw [he];rfl
        clear he;go_wp2_with (go_at_call 118;refine (groot_any _ g mb vU (gnds l) (upK l l.length) (k+1) _ HH2.out HF.out (by rw [HUL.out,zBz,HN2.out];omega) (by rw [HUL.out,zBz,HN2.out];omega)).mono ?_;rintro e w5 ⟨rfl,rfl⟩;rw [HR.out]);go_roundw
        case rel=> exact ⟨k+1,by omega,by go_num,by first | rfl | trivial,fun j hj=> by
         by_cases e:j=k
         · subst e;rw [HR.out,HE.out];rfl
         · exact HNO.out j (by omega)⟩
        case measure=> simp [intOf];omega
      · have HE:=hid he;have hne:((r:Int) !=0)=true:=by rw [bne_iff_ne];omega
        clear he;have HS:=hid (show grdS false l=(11,(k:Int)) by
         unfold grdS;rw [if_neg (by simp)];unfold grdU;rw [find_yes (k:=k) (by rw [HN2.out];exact hlt) HNO.out (by rw [HR.out,bne_iff_ne];exact HE.out)])
        go_wp2_with (go_at_call 118;refine (groot_any _ g mb vU (gnds l) (upK l l.length) (k+1) _ HH2.out HF.out (by rw [HUL.out,zBz,HN2.out];omega) (by rw [HUL.out,zBz,HN2.out];omega)).mono ?_;rintro e w5 ⟨rfl,rfl⟩;rw [HR.out])
        (try simp only [Exit.inBlock,Exit.then])
        refine bodyPost_ret (v:=.agg #[.int .i64 11,.int .i64 k]) ?_ rfl ⟨by rw [HS.out],?_⟩
        · rw [zCo rfl];go_simp
        · repeat (first | with_reducible exact HB4.out | with_reducible refine Below.setCell ?_ (by dsimp only;omega) _)
    · obtain rfl:k=N:=by omega
      have HS:=hid (show grdS false l=(0,0) by
       unfold grdS;rw [if_neg (by simp)];unfold grdU;rw [find_not (fun j hj=> HNO.out j (by rw [HN2.out] at hj;exact hj))])
      go_wp2;refine bodyPost_ret (v:=.agg #[.int .i64 0,.int .i64 0]) ?_ rfl ⟨by rw [HS.out],?_⟩
      · rw [zCo rfl];go_simp
      · repeat (first | with_reducible exact HB4.out | with_reducible refine Below.setCell ?_ (by dsimp only;omega) _)
 · have HN:=hid hn;clear hn;go_enter Tryz.func72,Tryz.ntmps72;go_upto_region 1 with fail;generalize w.alloc (.cells #[.int .i64 0,.int .i64 0] 32)=w0 at *;go_upto_region 2 with (go_at_call 115;refine (gnone_any p l _ HQ.out HLE.out HOK.out).mono ?_;rintro e wn ⟨rfl,hb⟩;rw [HN.out];have HB2:=hid (zAd HBW.out hb);have HZ2:=hid (zAm hb HZ.out);clear hb HQ HBW HZ);have z0:=(zAa HZ2.out).1 0 _ rfl;have z1:=(zAa HZ2.out).1 1 _ rfl;have f0:=(zAa HZ2.out).2 0;have f1:=(zAa HZ2.out).2 1;go_wp2;refine bodyPost_ret (v:=.agg #[.int .i64 1,.int .i64 (-1)]) ?_ rfl ⟨by unfold grdS;rw [if_pos rfl],?_⟩
   · rw [zCo rfl];go_simp
   · repeat (first | with_reducible exact HB2.out | with_reducible refine Below.setCell ?_ (by dsimp only;omega) _)
end
section
open Go.RowKit
def putS (l:List El) (r:Nat→Cx) (s:ByteArray) (f:Cx→Cx):(Nat→Cx) × Bool:=
 if has (nds l) s=true then (upd r (plI (nds l) s).toNat (f (r (plI (nds l) s).toNat)),cfin (f (r (plI (nds l) s).toNat))) else (r,true)
def brAt (l:List El) (x:El):Nat:=(nds l).length+(plI (brs l) x.name).toNat
def rgtS (l:List El) (r:Nat→Cx) (x:El):(Nat→Cx) × Bool:=
 if (srcS x).2≠0 then (r,true)
 else if x.kind=5 then (upd r (brAt l x) (srcS x).1,cfin (srcS x).1)
 else ((putS l (putS l r x.a fun z=> csub z (srcS x).1).1 x.b fun z=> cadd z (srcS x).1).1,
  (putS l (putS l r x.a fun z=> csub z (srcS x).1).1 x.b fun z=> cadd z (srcS x).1).2 && (putS l r x.a fun z=> csub z (srcS x).1).2)
def rgtK (l:List El):Nat→(Nat→Cx)
 | 0=> fun _=> (fc 0,fc 0)
 | k+1=> match l[k]? with | some x=> (rgtS l (rgtK l k) x).1 | none=> rgtK l k
theorem zDf {l:List El} {k:Nat} {x:El} (h:l[k]? =some x):rgtK l (k+1)=(rgtS l (rgtK l k) x).1:=by simp only [rgtK,h]
def rgtBad (l:List El):Option Nat:=(List.range l.length).find? fun k=> match l[k]? with | some x=> !(rgtS l (rgtK l k) x).2 | none=> false
def rgtE (b:Bool) (l:List El):List Cx × (Int × Int):=
 if b=true then ([],(1,-1)) else match rgtBad l with
  | some k=> ([],(6,k))
  | none=> ((List.range ((nds l).length+(brs l).length)).map (rgtK l l.length),(0,0))
theorem find_rng {n k:Nat} {p:Nat→Bool} (hk:k < n) (h:∀i,i < k→p i=false) (hp:p k=true):(List.range n).find? p=some k:=by
 rw [List.find?_eq_some_iff_getElem];exact ⟨hp,k,by simpa using hk,by simp,fun j hj=> by simp [h j hj]⟩
theorem rgt_none {l:List El}:rgtE true l=([],(1,-1)):=by unfold rgtE;rw [if_pos rfl]
theorem zEi {l:List El} {k:Nat} {x:El} (hx:l[k]? =some x) (h:∀ (i:Nat) (y:El),i < k→l[i]? =some y→(rgtS l (rgtK l i) y).2=true) (hb:(rgtS l (rgtK l k) x).2=false):rgtE false l=([],(6,(k:Int))):=by
 have hk:=(List.getElem?_eq_some_iff.1 hx).1;unfold rgtE rgtBad;rw [if_neg (by simp),find_rng hk (fun i hi=> by
  have hy:l[i]? =some l[i]:=List.getElem?_eq_getElem (by omega);simp only [hy,h i _ hi hy,Bool.not_true]) (by simp only [hx,hb,Bool.not_false])]
theorem rgt_done {l:List El} (h:∀ (i:Nat) (y:El),l[i]? =some y→(rgtS l (rgtK l i) y).2=true):rgtE false l=((List.range ((nds l).length+(brs l).length)).map (rgtK l l.length),(0,0)):=by
 unfold rgtE rgtBad;rw [if_neg (by simp),List.find?_eq_none.2 (fun i hi=> by
  have hi:=List.mem_range.1 hi;have hy:l[i]? =some l[i]:=List.getElem?_eq_getElem hi;simp only [hy,h i _ hy,Bool.not_true];simp)]
theorem putS_fin {l:List El} {r:Nat→Cx} {s:ByteArray} {f:Cx→Cx} {n:Nat} (hr:∀j,j < n→cfin (r j)=true) (hp:(putS l r s f).2=true):∀j,j < n→cfin ((putS l r s f).1 j)=true:=by
 intro j hj;unfold putS at *
 split at hp
 · rename_i h;rw [if_pos h]
   by_cases e:j=(plI (nds l) s).toNat
   · subst e;simp only [zAr];exact hp
   · simp only [zAu _ _ e];exact hr j hj
 · rename_i h;rw [if_neg h];exact hr j hj
theorem zGe {l:List El} {r:Nat→Cx} {x:El} {n:Nat} (hr:∀j,j < n→cfin (r j)=true) (hp:(rgtS l r x).2=true):∀j,j < n→cfin ((rgtS l r x).1 j)=true:=by
 intro j hj;unfold rgtS at *
 split at hp
 · rename_i h;rw [if_pos h];exact hr j hj
 · rename_i h;rw [if_neg h]
   split at hp
   · rename_i h2;rw [if_pos h2]
     by_cases e:j=brAt l x
     · subst e;simp only [zAr];exact hp
     · simp only [zAu _ _ e];exact hr j hj
   · rename_i h2;rw [if_neg h2];simp only [Bool.and_eq_true] at hp;exact putS_fin (putS_fin hr hp.2) hp.1 j hj
theorem zGf {l:List El} {n:Nat}:∀ {k:Nat},k≤l.length→(∀ (i:Nat) (y:El),i < k→l[i]? =some y→(rgtS l (rgtK l i) y).2=true)→∀j,j < n→cfin (rgtK l k j)=true
 | 0,_,_,j,_=> by show cfin (fc 0,fc 0)=true;decide+kernel
 | k+1,hk,h,j,hj=> by
  have hy:l[k]? =some l[k]:=List.getElem?_eq_getElem (by omega);rw [zDf hy];exact zGe (zGf (by omega) (fun i y hi hy=> h i y (by omega) hy)) (h k _ (by omega) hy) j hj
def Uniq (l:List El):Prop:=∀ (k:Nat) (x:El),l[k]? =some x→zFe (l.take k) x.name=false
theorem brs_app (a b:List El):brs (a++b)=brs a++brs b:=by simp [brs]
theorem has_brs {l:List El} {s:ByteArray} (h:zFe l s=false):has (brs l) s=false:=by
 unfold has brs zFe at *;rw [List.any_eq_false] at *;intro t ht;obtain ⟨x,hx,rfl⟩:=List.mem_map.1 ht;exact h x (List.mem_filter.1 hx).1
theorem br_index {l:List El} (hu:Uniq l) {k:Nat} {x:El} (hx:l[k]? =some x) (hb:isBr x=true):has (brs l) x.name=true∧plI (brs l) x.name=((brs (l.take k)).length:Int):=by
 obtain ⟨hk,e⟩:=List.getElem?_eq_some_iff.1 hx;have hsplit:brs l=brs (l.take k)++(x.name::brs (l.drop (k+1))):=by
  conv=> lhs;rw [←List.take_append_drop k l,brs_app,List.drop_eq_getElem_cons hk,e]
  congr 1
  unfold brs;rw [List.filter_cons,if_pos hb];rfl
 refine plI_at (k:=(brs (l.take k)).length) (t:=x.name) ?_ ?_ (by simp)
 · rw [hsplit,List.take_left' rfl];exact has_brs (hu k x hx)
 · rw [hsplit,List.getElem?_append_right (Nat.le_refl _),Nat.sub_self];rfl
theorem zCv {l:List El} {k:Nat} {x:El} (hx:l[k]? =some x):(brs (l.take (k+1))).length=(brs (l.take k)).length+(if isBr x=true then 1 else 0):=by
 cases h:isBr x with
 | true=> rw [brs_yes hx h];simp
 | false=> rw [brs_no hx h];simp
end
section
open Go.RowKit
structure Grown2 (w w':World) (g h:Nat):Prop where
 os:w'.os=w.os
 tape:w'.tape=w.tape
 output:w'.output=w.output
 size:w.heap.size≤w'.heap.size
 block:∀k,k < w.heap.size→k≠g→k≠h→w'.heap[k]? =w.heap[k]?
theorem Grown2.of_below {w w':World} {g h:Nat} (hb:Below w.heap.size w w'):Grown2 w w' g h:=⟨hb.os,hb.tape,hb.output,hb.size,fun k hk _ _=> hb.block k hk⟩
theorem Grown2.left {w w':World} {g h:Nat} (hb:w.grownBy w' (some g)):Grown2 w w' g h:=⟨hb.os,hb.tape,hb.output,hb.size,fun k hk h1 _=> hb.block k hk (fun e=> h1 (Option.some.inj e))⟩
theorem Grown2.right {w w':World} {g h:Nat} (hb:w.grownBy w' (some h)):Grown2 w w' g h:=⟨hb.os,hb.tape,hb.output,hb.size,fun k hk _ h1=> hb.block k hk (fun e=> h1 (Option.some.inj e))⟩
theorem Grown2.trans {w w1 w2:World} {g h:Nat} (a:Grown2 w w1 g h) (b:Grown2 w1 w2 g h):Grown2 w w2 g h:=
 ⟨b.os.trans a.os,b.tape.trans a.tape,b.output.trans a.output,Nat.le_trans a.size b.size,fun k hk h1 h2=> (b.block k (Nat.lt_of_lt_of_le hk a.size) h1 h2).trans (a.block k hk h1 h2)⟩
theorem Grown2.heap {w w':World} {g h b:Nat} {o:Obj} (hg:Grown2 w w' g h) (h1:b≠g) (h2:b≠h) (hb:w.heap[b]? =some o):w'.heap[b]? =some o:=
 (hg.block b (Array.getElem?_eq_some_iff.1 hb).1 h1 h2).trans hb
theorem Grown2.below {w w':World} {g h B:Nat} (hg:Grown2 w w' g h) (h1:B≤g) (h2:B≤h) (hB:B≤w.heap.size):Below B w w':=
 ⟨hg.os,hg.tape,hg.output,hg.size,fun k hk=> hg.block k (Nat.lt_of_lt_of_le hk hB) (by omega) (by omega)⟩
def shCells (h n:Nat) (ov:Bool):Array Value:=#[.int .i64 n,.slice (some ⟨h,0,none⟩) (n * n) (n * n),.bool ov]
structure SheetM (w:World) (g h n:Nat) (m:Nat→Cx) (ov:Bool) (M:List Cx):Prop where
 len:M.length=n * n
 box:w.heap[g]? =some (.cells (shCells h n ov) 149 (0,0))
 row:w.heap[h]? =some (.cells (M.map mkC).toArray 49 (0,0))
 ne:g≠h
 num:∀k,k < n * n→ck (M.getD k (0,0))=m k
def zDx (w:World) (g h n:Nat) (s:StS):Prop:=∃M,SheetM w g h n s.1 s.2 M
theorem SheetM.below {w w':World} {g h n:Nat} {m:Nat→Cx} {ov:Bool} {M:List Cx} (H:SheetM w g h n m ov M) (hb:Below w.heap.size w w'):SheetM w' g h n m ov M:=
 ⟨H.len,zAo hb H.box,zAo hb H.row,H.ne,H.num⟩
theorem zDx.below {w w':World} {g h n:Nat} {s:StS} (H:zDx w g h n s) (hb:Below w.heap.size w w'):zDx w' g h n s:=by
 obtain ⟨M,hM⟩:=H;exact ⟨M,hM.below hb⟩
theorem zDx.lt {w:World} {g h n:Nat} {s:StS} (H:zDx w g h n s):g < w.heap.size∧h < w.heap.size:=by
 obtain ⟨M,hM⟩:=H;exact ⟨(Array.getElem?_eq_some_iff.1 hM.box).1,(Array.getElem?_eq_some_iff.1 hM.row).1⟩
theorem zBy {M:List Cx} {k:Nat} (h:k < M.length):(M.map mkC).toArray[k]? =some (mkC (M.getD k (0,0))):=by
 rw [List.getElem?_toArray,List.getElem?_map,List.getD_eq_getElem?_getD,List.getElem?_eq_getElem h];rfl
theorem zEo {w:World} {g b o:Nat} {v:Value} {x:Obj} (hne:b≠g) (h:w.heap[b]? =some x):(w.setCell ⟨g,o,none⟩ v).heap[b]? =some x:=
 (Below.heap_setCell w ⟨g,o,none⟩ v b hne).trans h
theorem SheetM.c0 {w:World} {g h n:Nat} {m:Nat→Cx} {ov:Bool} {M:List Cx} (H:SheetM w g h n m ov M):w.cell? ⟨g,0,none⟩=some (.int .i64 n):=(zAa H.box).1 0 _ rfl
theorem SheetM.c1 {w:World} {g h n:Nat} {m:Nat→Cx} {ov:Bool} {M:List Cx} (H:SheetM w g h n m ov M):w.cell? ⟨g,1,none⟩=some (.slice (some ⟨h,0,none⟩) (n * n) (n * n)):=(zAa H.box).1 1 _ rfl
theorem SheetM.c2 {w:World} {g h n:Nat} {m:Nat→Cx} {ov:Bool} {M:List Cx} (H:SheetM w g h n m ov M):w.cell? ⟨g,2,none⟩=some (.bool ov):=(zAa H.box).1 2 _ rfl
theorem SheetM.put {w:World} {g h n k:Nat} {m:Nat→Cx} {ov:Bool} {M:List Cx} (H:SheetM w g h n m ov M) (hk:k < n * n) (z:Cx):
 SheetM (w.setCell ⟨h,k,none⟩ (mkC z)) g h n (upd m k (ck z)) ov (M.set k z):=by
 refine ⟨by rw [List.length_set,H.len],zEo H.ne H.box,?_,H.ne,fun j hj=> ?_⟩
 · have h4:=blk_setS (o:=k) H.row (mkC z);rw [List.setIfInBounds_toArray,←List.map_set] at h4;exact h4
 · by_cases e:j=k
   · subst e;rw [zAr,List.getD_eq_getElem?_getD,List.getElem?_set_self (by rw [H.len];exact hk)];rfl
   · rw [zAu _ _ e,←H.num j hj,List.getD_eq_getElem?_getD,List.getD_eq_getElem?_getD,List.getElem?_set_ne (Ne.symm e)]
theorem SheetM.mark {w:World} {g h n:Nat} {m:Nat→Cx} {ov:Bool} {M:List Cx} (H:SheetM w g h n m ov M) (b:Bool):
 SheetM (w.setCell ⟨g,2,none⟩ (.bool b)) g h n m b M:=by
 refine ⟨H.len,?_,zEo H.ne.symm H.row,H.ne,H.num⟩;have h4:=blk_setS (o:=2) H.box (.bool b);exact h4
def RetSh (g h n:Nat) (s:StS) (w:World) (en:Ending) (w':World):Prop:=en=.returned (.tuple #[])∧zDx w' g h n s∧Grown2 w w' g h
end
end Go.Proofs.YtejooaeppcjhjaaGreat
