/- a part of the proof of the last text -/
import Derived.Test.YtaegmlhfecfgkaaGreatDoorZMGrP1
namespace Go.Proofs.YtaegmlhfecfgkaaGreatDoor
set_option linter.all false
set_option maxHeartbeats 4000000
set_option maxRecDepth 100000
open Go.RowKit Go.Maps
def AppD (B gu sz n1:Nat) (v:Value) (w:World):Prop:=∃g1 cap1,v=.slice (some ⟨g1,0,none⟩) (n1+1) cap1∧w.ownsRow B 3 1 v (n1+1) (nats (List.range n1)++ [.int .i64 n1])∧(g1=gu∨sz≤g1)
theorem AppD.later {B gu sz n1:Nat} {v:Value} {w w':World} (h:AppD B gu sz n1 v w) (hb:Below w.heap.size w w'):AppD B gu sz n1 v w':=by
 obtain ⟨g1,c1,h1,h2,h3⟩:=h;exact ⟨g1,c1,h1,own_none h2 (grown_of_below hb none),h3⟩
theorem news_at {w:World} {b t:Nat} {x:Value} (h:w.heap[b]? =some (.cells #[x] t (0,0))):∀j u,([x]:List Value)[j]? =some u→w.cell? ((⟨b,0,none⟩:Addr).add j)=some u:=fun j u hj=> by
 obtain rfl:j=0:=by
  have:=(List.getElem?_eq_some_iff.1 hj).1
  simpa using this
 obtain rfl:x=u:=by simpa using hj
 exact (cells_ofS h).1 0 _ rfl
def Once (acc:List ByteArray):Prop:=∀k t,acc[k]? =some t→has (acc.take k) t=false∧gnd t=false
theorem once_nd1 {acc:List ByteArray} (t:ByteArray) (h:Once acc):Once (nd1 acc t):=by
 unfold nd1
 split
 · exact h
 · rename_i hn;have hn2:gnd t=false∧has acc t=false:=by simpa using hn
   intro k s hk
   by_cases hlt:k < acc.length
   · rw [List.getElem?_append_left hlt] at hk;rw [List.take_append_of_le_length (by omega)];exact h k s hk
   · rw [List.getElem?_append_right (by omega)] at hk;have hk0:=(List.getElem?_eq_some_iff.1 hk).1;obtain rfl:k=acc.length:=by simp at hk0;omega
     rw [Nat.sub_self] at hk;obtain rfl:t=s:=by simpa using hk
     rw [List.take_left' rfl];exact ⟨hn2.2,hn2.1⟩
theorem once_fold:∀ (r acc:List ByteArray),Once acc→Once (r.foldl nd1 acc)
 | [],_,h=> h
 | t::r,_,h=> once_fold r _ (once_nd1 t h)
theorem once_nds:∀ (l:List El) (acc:List ByteArray),Once acc→Once (l.foldl nd4 acc)
 | [],_,h=> h
 | x::l,_,h=> once_nds l _ (once_fold (fr x) _ h)
theorem gnds_new {l:List El} {k:Nat} {t:ByteArray} (h:(nds l)[k]? =some t):has ((gnds l).take (k+1)) t=false:=by
 obtain ⟨h1,h2⟩:=once_nds l [] (fun k t h=> by simp at h) k t h;have h1':has ((nds l).take k) t=false:=h1;unfold gnds;rw [List.take_succ_cons];unfold has at h1'⊢;rw [List.any_cons,h1',Bool.or_false];cases e:((⟨#[48]⟩:ByteArray).toList==t.toList)
 · rfl
 · exfalso
   rw [←(same_iff _ _).1 e] at h2;have:gnd ⟨#[48]⟩=true:=by unfold gnd;rw [toList_data];rfl
   rw [this] at h2;cases h2
theorem gnds_take_len {l:List El} {k:Nat} (h:k≤ (nds l).length):((gnds l).take (k+1)).length=k+1:=by rw [List.length_take,gnds_len];omega
theorem mem_nd1 {acc:List ByteArray} {s t:ByteArray} (h:t∈nd1 acc s):t∈acc∨t=s:=by
 unfold nd1 at h
 split at h
 · exact .inl h
 · rcases List.mem_append.1 h with h | h
   · exact .inl h
   · exact .inr (by simpa using h)
theorem mem_fold {t:ByteArray}:∀ (r acc:List ByteArray),t∈r.foldl nd1 acc→t∈acc∨t∈r
 | [],_,h=> .inl h
 | s::r,acc,h=> by
  rcases mem_fold r _ h with h | h
  · rcases mem_nd1 h with h | h
    · exact .inl h
    · exact .inr (by rw [h];simp)
  · exact .inr (List.mem_cons_of_mem _ h)
theorem mem_nds {t:ByteArray}:∀ (l:List El) (acc:List ByteArray),t∈l.foldl nd4 acc→t∈acc∨∃x∈l,t∈fr x
 | [],_,h=> .inl h
 | x::l,acc,h=> by
  rcases mem_nds l _ h with h | ⟨y,hy,h⟩
  · rcases mem_fold (fr x) _ h with h | h
    · exact .inl h
    · exact .inr ⟨x,by simp,h⟩
  · exact .inr ⟨y,List.mem_cons_of_mem _ hy,h⟩
theorem nds_size {l:List El} (hok:∀x∈l,x.Ok) (t:ByteArray) (h:t∈nds l):t.size≤maxLen:=by
 rcases mem_nds l [] h with h | ⟨x,hx,h⟩
 · simp at h
 · have:=hok x hx;simp only [fr,List.mem_cons,List.not_mem_nil,or_false] at h;rcases h with rfl | rfl | rfl | rfl
   · exact this.a
   · exact this.b
   · exact this.c
   · exact this.d
def RetSets (l:List El) (up:List Nat) (w:World) (en:Ending) (w':World):Prop:=
 ∃g mb vU,en=.returned (.pointer (some ⟨g,0,none⟩))∧SetsAt w.heap.size w' g mb vU (gnds l) up∧Below w.heap.size w w'
theorem gof_any (p:Value) (l:List El) (w:World) (hp:NN w p l) (hl:l.length≤100000) (hok:∀x∈l,x.Ok):
 Calls Tryz.prog 69 #[p] w (RetSets l (List.range (gnds l).length) w):=by
 obtain ⟨i0,hi,hz0,hz1,hz2⟩:=info_parts infoI;obtain ⟨is,his,hs0,hs1,hs2⟩:=info_parts infoSt;have law:Keyed Tryz.prog 9 :=string_keyed Tryz.underlying9;have hmm:=@run_makeMap Tryz.prog;have hnl:=nds_len l;have HNL:=hid (show (nds l).length≤400000 by omega);have hb0:Below w.heap.size w (w.alloc (.map #[] 0)):=(Below.refl _ _).alloc (Nat.le_refl _) _;obtain ⟨w1,hins,hm1,hg1⟩:=(World.ownsMap_made w _ _ _:(w.alloc (.map #[] 0)).ownsMap Tryz.prog 9 (plainElem Tryz.prog 3) w.heap.size 0 (.map [])).update law Tryz.underlying70 (by unfold maxLen;omega) (WideMaps.keyOf_string_mk Tryz.underlying9 (show (⟨#[48]⟩:ByteArray).size≤maxLen by decide)) (plainElem_int Tryz.underlying3 (WalkArith.wf_i64 (n:=0) ⟨by omega,by omega⟩));have HMP:=hid (show MapAt w1 w.heap.size [⟨#[48]⟩] from ⟨_,hm1,mapIs_put (s:=⟨#[48]⟩) mapIs_empty rfl⟩);have HB1:=hid (hb0.grown hg1 (by simp) (fun k e=> by cases e;exact Nat.le_refl _));have HP:=hid (hp.below HB1.out (Nat.le_refl _));clear hm1 hg1 hp hb0 hnl;go_enter Tryz.func69,Tryz.ntmps69;go_upto_region 2 with fail;have hs1:∀o,(w1.alloc o).heap.size=w1.heap.size+1:=fun o=> by simp
 have HST0:Hid (SetsAt w.heap.size ((w1.alloc (.cells #[.int .i64 0] 3)).alloc (.cells #[.map (some w.heap.size),.slice (some ⟨w1.heap.size,0,none⟩) 1 1] 134)) (w1.heap.size+1) w.heap.size (.slice (some ⟨w1.heap.size,0,none⟩) 1 1) [⟨#[48]⟩] [0]):=hid
  ⟨(by have:=HB1.out.size;omega),Nat.le_refl _,(by have h:=heap_alloc_new (w1.alloc (.cells #[.int .i64 0] 3)) (.cells #[.map (some w.heap.size),.slice (some ⟨w1.heap.size,0,none⟩) 1 1] 134);rwa [hs1] at h),
   HMP.out.kept (grown_of_below (((Below.refl w1.heap.size w1).alloc (Nat.le_refl _) _).alloc (by simp) _) none) (by simp),
   own_none (own_base (World.ownsRow_lit (base:=w1.heap.size) (e:=3) (size:=1) w1 #[.int .i64 0] 1 (Nat.le_refl _) (by decide) rfl) HB1.out.size) (World.grownBy_alloc _ _ _),
   fun e=> (by have:=ownBlock_lit e;omega)⟩
 have HB2:=hid (below_next HB1.out (((Below.refl w1.heap.size w1).alloc (Nat.le_refl _) (.cells #[.int .i64 0] 3)).alloc (by simp) (.cells #[.map (some w.heap.size),.slice (some ⟨w1.heap.size,0,none⟩) 1 1] 134)));have HP2:=hid (HP.out.below (((Below.refl w1.heap.size w1).alloc (Nat.le_refl _) (.cells #[.int .i64 0] 3)).alloc (by simp) (.cells #[.map (some w.heap.size),.slice (some ⟨w1.heap.size,0,none⟩) 1 1] 134)) (Nat.le_refl _));have HSZ:=hid (show w1.heap.size+1 < ((w1.alloc (.cells #[.int .i64 0] 3)).alloc (.cells #[.map (some w.heap.size),.slice (some ⟨w1.heap.size,0,none⟩) 1 1] 134)).heap.size by simp);clear hs1 hins hmm HB1 HP HMP;generalize (w1.alloc (.cells #[.int .i64 0] 3)).alloc (.cells #[.map (some w.heap.size),.slice (some ⟨w1.heap.size,0,none⟩) 1 1] 134)=w2 at *;generalize w1.heap.size+1=g at *;generalize hBq:w.heap.size=B at *;have HBQ:=hid hBq;clear hBq;go_wp2_with (go_at_call 37;refine (nnodes_any _ l _ HP2.out hl).mono ?_;rintro e w3 ⟨v3,xs,rfl,hown3,rfl,hb3⟩;obtain ⟨a3,c3,rfl⟩:=(IsSl.of_own hown3).form;have HV:=hid hown3;have HST:=hid (HST0.out.later hb3);have HB3:=hid (HB2.out.trans (hb3.mono (by have:=HST0.out.gB;have:=HSZ.out;omega)));have HBZ:=hid (show B≤w3.heap.size by have:=HST0.out.gB;have:=HSZ.out;have:=hb3.size;omega);clear hown3 hb3);clear HB2 HP2;have HD:=hid (show∀r,(Value.slice a3 (nds l).length c3).ownBlock=some r→w2.heap.size≤r from fun r e=> (World.ownsRow.lt HV.out r e).1);have HUL:=hid (show∀r,(Value.slice (some ⟨w1.heap.size,0,none⟩) 1 1).ownBlock=some r→(Value.slice a3 (nds l).length c3).ownBlock≠some r from fun r e e2=> by have h1:=(World.ownsRow.lt HST0.out.ou r e).2;have h2:=HD.out r e2;omega);have HVG:=hid (show (Value.slice a3 (nds l).length c3).ownBlock≠some g from fun e=> by have h1:=HSZ.out;have h2:=HD.out g e;omega)
 clear HST0 HD HSZ;obtain ⟨N,hN⟩:∃N,(nds l).length=N:=⟨_,rfl⟩;have HN:=hid hN;have hn0:=HNL.out;rw [hN] at HV HUL HVG hn0;rw [hN];clear hN
 go_loopw [14] (fun i wr=> ∃ (k:Nat) (vU:Value),k≤N∧i=.int .i64 k∧SetsAt B wr g B vU ((gnds l).take (k+1)) (List.range (k+1))∧wr.ownsRow w2.heap.size 9 1 (.slice a3 N c3) N (sts (nds l))∧(∀r,vU.ownBlock=some r→(Value.slice a3 N c3).ownBlock≠some r)∧Below B w wr∧B≤wr.heap.size) (fun i _=> N - (intOf i).toNat)
 case atStart=> exact ⟨0,_,Nat.zero_le _,rfl,HST.out,HV.out,HUL.out,HB3.out,HBZ.out⟩
 case round=>
  obtain ⟨k,vU,hk,rfl,hst,hv,hd,hb,hbz⟩:=hrel;have HS:=hid hst;have HO:=hid hv;have HDD:=hid hd;have HB:=hid hb;have HZ:=hid hbz;clear hst hv hd hb hbz HST HV HUL HB3 HBZ
  by_cases hlt:k < N
  · obtain ⟨g1,o1,y,hidx,hg1,hc1,hy⟩:=IsSl.at1 Tryz.underlying71 his hs1 (IsSl.of_own HO.out) hlt;obtain ⟨t,ht,rfl⟩:=sts_get hy;have HT:=hid ht;have htx:t.size≤maxLen:=nds_size hok t (List.mem_of_getElem? ht);have HTX:=hid htx;obtain ⟨n1,hn1⟩:∃n1,k+1=n1:=⟨_,rfl⟩;have HN1:=hid hn1;have hou:=HS.out.ou;rw [List.length_range,hn1] at hou;obtain ⟨gu,cU,hvu,_⟩:=hou.form (by omega);subst hvu;have hbk:wr.heap[g]? =some (.cells #[.map (some B),.slice (some ⟨gu,0,none⟩) n1 cU] 134 (0,0)):=HS.out.blk;have HBK:=hid hbk;have HOU:=hid hou;have n0:=(cells_ofS hbk).1 0 _ rfl;have n2:=(cells_ofS hbk).1 1 _ rfl;obtain ⟨D,hown,hD⟩:=HS.out.mp;rw [gnds_take_len (by rw [HN.out];omega),hn1] at hown;have HOWN:=hid hown;have HMD:=hid hD;clear hy hg1 ht htx hbk hou hown hD hn1;go_upto_region 5 with fail
    go_still_tail 10,(by kernel_rfl)
    change wpList _ _ _ _ _ wr.drew;go_upto_region 6 with (at_mapUpdate;go_loud (refine wpList_mapUpdate_own _ rfl _ _ _ 70 rfl 9 3 law Tryz.underlying70 _ B n1 D rfl HOWN.out.drew (by have:=HN1.out;unfold maxLen;omega) _ _ _ rfl rfl (WideMaps.keyOf_string_mk Tryz.underlying9 HTX.out) _ [] (plainElem_int Tryz.underlying3 (WalkArith.wf_i64 ⟨by omega,by have:=HN1.out;omega⟩)) ?_;intro w4 hown4 hgr4;have HM4:=hid hown4;have HG4:=hid hgr4;clear hown4 hgr4));have hgr:=grown_drew_left HG4.out;have hgB:g≠B:=HS.out.gm;have huB:=HS.out.um;have HS4:=hid (show SetsAt B w4 g B (.slice (some ⟨gu,0,none⟩) n1 cU) ((gnds l).take (k+2)) (List.range n1) from ⟨HS.out.gB,HS.out.mB,heap_nextG hgr hgB HBK.out,⟨_,by rw [gnds_take_len (k:=k+1) (by rw [HN.out];omega),HN1.out];exact HM4.out,by have h:=mapIs_put HMD.out (gnds_new HT.out);rw [gnds_take_len (by rw [HN.out];omega),←gnds_take HT.out,HN1.out] at h;exact h⟩,by rw [List.length_range];exact own_ne HOU.out hgr huB,HS.out.ug⟩);have HVB:=hid (show (Value.slice a3 N c3).ownBlock≠some B from HS.out.mp.ne_row HO.out);have HO4:=hid (own_ne HO.out hgr HVB.out);have HB4:=hid (HB.out.grown hgr HZ.out (fun r e=> by cases e;exact Nat.le_refl _));have HZ4:=hid (Nat.le_trans HZ.out hgr.size);clear hgr hgB huB HM4 HG4 HOWN HMD HBK HOU HS HO HB HZ n0 n2;have HGU:=hid (show g≠gu from fun e=> HS4.out.ug (by rw [e];rfl));have HBU:=hid (show (Value.slice a3 N c3).ownBlock≠some gu from HDD.out gu rfl);have HMU:=hid (show B≠gu from fun e=> HS4.out.um (by rw [e];rfl));have HGL:=hid (show gu < w4.heap.size from (World.ownsRow.lt HS4.out.ou gu rfl).2);refine wp_region_any (by kernel_rfl) ?_;change wpAny _ _ _ _ _ _ _ (World.drew _);refine wpAny_makersTD [⟨some 28,0, []⟩,⟨some 29,1, []⟩,⟨some 30,2, []⟩,⟨some 31,3, []⟩,⟨some 32,4, []⟩,⟨some 33,5, []⟩,⟨some 34,6, []⟩,⟨some 35,7, []⟩,⟨some 36,8, []⟩,⟨some 37,9, []⟩,⟨some 38,10, []⟩,⟨some 39,11, []⟩] (fun u u'=> u.grownBy u' (some (gu))) (fun k u u'=> (k=11∧u.grownBy u' (some (gu)))∨(k≠11∧Below u.heap.size u u'))
     (fun d w'=> w'.heap[g]? =some (.cells #[.map (some B),.slice (some ⟨gu,0,none⟩) n1 cU] 134 (0,0))∧(d 11=false→w'.ownsRow B 3 1 (.slice (some ⟨gu,0,none⟩) n1 cU) n1 (nats (List.range n1))))
     (fun oq v _ ww lo hi=> (match oq with | 0=> v=.pointer (some ⟨g,0,none⟩) | 1=> v=.pointer (some ⟨g,0,none⟩) | 2=> v=.pointer (some ⟨g,0,none⟩) | 3=> v=.pointer (some ⟨g,1,none⟩) | 4=> v=.slice (some ⟨gu,0,none⟩) n1 cU | 5=> v=.pointer (some ⟨g,0,none⟩) | 6=> v=.pointer (some ⟨g,0,none⟩) | 7=> v=.pointer (some ⟨g,1,none⟩) | 8=> v=.slice (some ⟨gu,0,none⟩) n1 cU | 9=> v=.int .i64 n1 | 10=> True | 11=> True | _=> True)∧(oq=10→OneD (.int .i64 n1) 3 v ww lo hi)∧(oq=11→AppD B gu w4.heap.size n1 v ww)) (by kernel_rfl) ?hSe (fun _=> World.grownBy.refl _ _) (fun _ _ _ h1 h2=> grown_trans h1 h2) (fun _ _ h=> h.size) (fun _ _ _ h=> by rcases h with ⟨_,h⟩ | ⟨_,h⟩;exact h;exact grown_of_below h _) (fun o d u u' _ _ h hS=> by rcases h with ⟨rfl,h⟩ | ⟨hne,h⟩;exact ⟨heap_nextG h HGU.out hS.1,fun e=> (by rw [upd_same] at e;cases e)⟩;exact ⟨heap_next h hS.1,fun e=> own_none (hS.2 (by rw [upd_ne _ _ (Ne.symm hne)] at e;exact e)) (grown_of_below h none)⟩) (fun o i hoi v xs u u' lo hi hlo hst hle h=> by rcases hst with ⟨rfl,hg⟩ | ⟨_,hb⟩;exact ⟨h.1,(fun e=> (h.2.1 e).grown hg (Nat.lt_of_lt_of_le HGL.out hlo)),(fun e=> absurd e hoi)⟩;exact ⟨h.1,fun e=> (h.2.1 e).later hb,fun e=> (h.2.2 e).later hb⟩) ?hope ?hende
    case hSe=> exact ⟨heap_next (Below.refl _ _).drew HS4.out.blk,fun _=> by have h:=own_none HS4.out.ou (grown_of_below (Below.refl _ _).drew none);rw [List.length_range] at h;exact h⟩
    case hope=>
     delta OwedT
     simp only [fillD,Act.put,List.setIfInBounds_toArray,lz,ls];refine Each.cons rfl ?_ (Each.cons rfl ?_ (Each.cons rfl ?_ (Each.cons rfl ?_ (Each.cons rfl ?_ (Each.cons rfl ?_ (Each.cons rfl ?_ (Each.cons rfl ?_ (Each.cons rfl ?_ (Each.cons rfl ?_ (Each.cons rfl ?_ (Each.cons rfl ?_ Each.nil)))))))))))
     all_goals intro vs d w2 hb2 hd2 hS2 hR2 K hK;try simp only [fillD,Act.put,List.setIfInBounds_toArray,lz,ls] at hK⊢
     · go_simp;exact hK.out _ _ (.inr ⟨by decide,Below.refl _ _⟩) ⟨rfl,(fun e=> (by cases e)),(fun e=> (by cases e))⟩
     · go_simp;exact hK.out _ _ (.inr ⟨by decide,Below.refl _ _⟩) ⟨rfl,(fun e=> (by cases e)),(fun e=> (by cases e))⟩
     · have h1:vs 1=_:=exR (hR2 1 (by kernel_rfl)) (fun _ _ h=> h.1);simp only [h1] at hK⊢;go_simp;exact hK.out _ _ (.inr ⟨by decide,Below.refl _ _⟩) ⟨rfl,(fun e=> (by cases e)),(fun e=> (by cases e))⟩
     · have h2:vs 2=_:=exR (hR2 2 (by kernel_rfl)) (fun _ _ h=> h.1);simp only [h2] at hK⊢;go_simp;exact hK.out _ _ (.inr ⟨by decide,Below.refl _ _⟩) ⟨rfl,(fun e=> (by cases e)),(fun e=> (by cases e))⟩
     · have h3:vs 3=_:=exR (hR2 3 (by kernel_rfl)) (fun _ _ h=> h.1);have k0:=(cells_ofS hS2.1).1 1 _ rfl;simp only [h3] at hK⊢;go_simp;exact hK.out _ _ (.inr ⟨by decide,Below.refl _ _⟩) ⟨rfl,(fun e=> (by cases e)),(fun e=> (by cases e))⟩
     · go_simp;exact hK.out _ _ (.inr ⟨by decide,Below.refl _ _⟩) ⟨rfl,(fun e=> (by cases e)),(fun e=> (by cases e))⟩
     · have h5:vs 5=_:=exR (hR2 5 (by kernel_rfl)) (fun _ _ h=> h.1);simp only [h5] at hK⊢;go_simp;exact hK.out _ _ (.inr ⟨by decide,Below.refl _ _⟩) ⟨rfl,(fun e=> (by cases e)),(fun e=> (by cases e))⟩
     · have h6:vs 6=_:=exR (hR2 6 (by kernel_rfl)) (fun _ _ h=> h.1);simp only [h6] at hK⊢;go_simp;exact hK.out _ _ (.inr ⟨by decide,Below.refl _ _⟩) ⟨rfl,(fun e=> (by cases e)),(fun e=> (by cases e))⟩
     · have h7:vs 7=_:=exR (hR2 7 (by kernel_rfl)) (fun _ _ h=> h.1);have k0:=(cells_ofS hS2.1).1 1 _ rfl;simp only [h7] at hK⊢;go_simp;exact hK.out _ _ (.inr ⟨by decide,Below.refl _ _⟩) ⟨rfl,(fun e=> (by cases e)),(fun e=> (by cases e))⟩
     · have h8:vs 8=_:=exR (hR2 8 (by kernel_rfl)) (fun _ _ h=> h.1);simp only [h8] at hK⊢;go_simp;exact hK.out _ _ (.inr ⟨by decide,Below.refl _ _⟩) ⟨rfl,(fun e=> (by cases e)),(fun e=> (by cases e))⟩
     · have h9:vs 9=_:=exR (hR2 9 (by kernel_rfl)) (fun _ _ h=> h.1);simp only [h9] at hK⊢;go_simp;exact hK.out _ _ (.inr ⟨by decide,(Below.refl _ _).alloc (Nat.le_refl _) _⟩) ⟨trivial,fun _=> ⟨w2.heap.size,rfl,Nat.le_refl _,by simp,heap_alloc_new _ _⟩,(fun e=> (by cases e))⟩
     · have h4:vs 4=_:=exR (hR2 4 (by kernel_rfl)) (fun _ _ h=> h.1);obtain ⟨_,_,_,H10⟩:=hR2 10 (by kernel_rfl);have Y10:=H10.2.1 rfl;simp only [h4] at hK⊢;obtain ⟨_,_,_,H10⟩:=hR2 10 (by kernel_rfl);obtain ⟨b,h10,hlo,hhi,hrow⟩:=H10.2.1 rfl;simp only [h10] at hK⊢;rw [if_pos (by rfl)];refine append_own_op rfl _ _ _ rfl B 3 1 8 i0 (.int .i64 0) Tryz.underlying132 hi hz0 hz1 hz2 rfl _ n1 _ (hS2.2 hd2) ⟨b,0,none⟩ 1 1 [.int .i64 n1] (by rfl) (by rfl) rfl (news_at hrow) (by intro u hu;rw [List.mem_singleton.1 hu];rfl) (by decide) (by have:=HN1.out;unfold maxLen;omega) (by have:=HN1.out;omega) (Nat.le_trans HZ4.out hb2.size) ?_;intro g1 cap1 w6 hown6 hlt6 htwo;refine hK.out _ _ (.inl ⟨by first | rfl | trivial,?_⟩) ⟨trivial,(fun e=> (by cases e)),fun _=> ⟨g1,cap1,rfl,hown6,?_⟩⟩
       · rcases htwo with ⟨e,h⟩ | ⟨_,h⟩
         · obtain rfl:=ownBlock_lit e;exact h
         · exact grown_any h
       · rcases htwo with ⟨e,_⟩ | ⟨e,_⟩
         · exact .inl (ownBlock_lit e)
         · exact .inr (by rw [e];exact hb2.size)
    case hende=>
     intro vs wx lo hiv hbx hSx hRx hdx;have h0:vs 0=_:=(hRx 0 (by kernel_rfl)).1.1;have h1:vs 1=_:=(hRx 1 (by kernel_rfl)).1.1;have h2:vs 2=_:=(hRx 2 (by kernel_rfl)).1.1;have h3:vs 3=_:=(hRx 3 (by kernel_rfl)).1.1;have h4:vs 4=_:=(hRx 4 (by kernel_rfl)).1.1;have h5:vs 5=_:=(hRx 5 (by kernel_rfl)).1.1;have h6:vs 6=_:=(hRx 6 (by kernel_rfl)).1.1;have h7:vs 7=_:=(hRx 7 (by kernel_rfl)).1.1;have h8:vs 8=_:=(hRx 8 (by kernel_rfl)).1.1;have h9:vs 9=_:=(hRx 9 (by kernel_rfl)).1.1;have Y10:=(hRx 10 (by kernel_rfl)).1.2.1 rfl;have Z10:=(hRx 10 (by kernel_rfl)).2;have Y11:=(hRx 11 (by kernel_rfl)).1.2.2 rfl;have Z11:=(hRx 11 (by kernel_rfl)).2;simp only [fillD,Act.put,List.setIfInBounds_toArray,lz,ls,h0,h1,h2,h3,h4,h5,h6,h7,h8,h9];have hgx:=grown_drew_left hbx;obtain ⟨g1,cap1,h11,hown6,hor⟩:=Y11;have HGX:=hid hgx;have HX1:=hid hSx.1;have HROW:=hid hown6;have HOR:=hid hor;clear hbx hSx hRx hdx hgx hown6 hor Y10 Z10 Z11 h0 h1 h2 h3 h4 h5 h6 h7 h8 h9;rw [h11] at HROW;simp only [h11];clear h11;have m0:=(cells_ofS HX1.out).1 1 _ rfl;have f1:=(cells_ofS HX1.out).2 1;refine wpAny_one (i:=12) (by kernel_rfl) rfl (fun K hK=> ?_);go_simp;refine hK.out _ _ ?_;clear hK;refine wpAny_one (i:=13) (by kernel_rfl) rfl (fun K hK=> ?_);go_simp;refine hK.out _ _ ?_;clear hK;refine wpAny_one (i:=14) (by kernel_rfl) rfl (fun K hK=> ?_);go_simp;refine hK.out _ _ ?_;clear hK m0 f1;refine wpAny_done (by kernel_rfl) ?_ _;go_wp2;go_roundw
     case rel=>
      have hg2:=set1_grown wx g 1 (.slice (some ⟨g1,0,none⟩) (n1+1) cap1);have hgg:g≠g1:=by
       rcases HOR.out with h | h
       · rw [h];exact HGU.out
       · have:=(Array.getElem?_eq_some_iff.1 HS4.out.blk).1;omega
      have hBg:some B≠some g:=fun e=> HS4.out.gm (Option.some.inj e).symm
      have hv4:(Value.slice a3 N c3).ownBlock≠some g:=HVG.out;have hmp:=(HS4.out.mp.kept HGX.out (fun e=> HMU.out (Option.some.inj e))).kept hg2 hBg;have hov:=own_ne (own_ne HO4.out HGX.out HBU.out) hg2 hv4;refine ⟨k+1,.slice (some ⟨g1,0,none⟩) (n1+1) cap1,by omega,by go_num,⟨HS4.out.gB,HS4.out.mB,blk_set1 (o:=1) HX1.out _,by have e:=HN1.out;exact hmp,?_,fun e=> hgg (ownBlock_lit e)⟩,hov,?_,?_,?_⟩
      · rw [List.length_range,HN1.out,List.range_succ,nats_snoc];exact own_ne HROW.out hg2 (fun e=> hgg (ownBlock_lit e))
      · intro r e;rw [ownBlock_lit e];rcases HOR.out with h | h
        · rw [h];exact HBU.out
        · intro e2;have:=(World.ownsRow.lt HO4.out _ e2).2;omega
      · exact (HB4.out.grown HGX.out HZ4.out (fun r e=> by cases e;exact (World.ownsRow.lt HS4.out.ou gu rfl).1)).setCell HS4.out.gB _
      · have:=HGX.out.size;have:=HZ4.out;simp;omega
     case measure=> simp [intOf];omega
  · obtain rfl:k=N:=by omega
    go_wp2;go_ret;refine ⟨g,B,vU,rfl,?_,by rw [HBQ.out];exact HB.out⟩;have h:=HS.out;rw [←HN.out,←gnds_len,List.take_length] at h;rw [HBQ.out];exact h
end Go.Proofs.YtaegmlhfecfgkaaGreatDoor
