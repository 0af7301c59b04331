/- a part of the proof of the last text -/
import Derived.Test.YtejooaeppcjhjaaGreatZMGrR2
namespace Go.Proofs.YtejooaeppcjhjaaGreat
set_option linter.all false
set_option maxHeartbeats 4000000
set_option maxRecDepth 100000
section
open Go.RowKit
def mix (p:List Nat) (a b k:Nat):List Nat:=(joinP p a b).take k++p.drop k
theorem zGv (p:List Nat) (a b:Nat):(joinP p a b).length=p.length:=by simp [joinP]
theorem mix_len (p:List Nat) (a b k:Nat):(mix p a b k).length=p.length:=by
 unfold mix;rw [List.length_append,List.length_take,List.length_drop,zGv];omega
theorem mix_zero (p:List Nat) (a b:Nat):mix p a b 0=p:=by simp [mix]
theorem mix_all (p:List Nat) (a b:Nat):mix p a b p.length=joinP p a b:=by
 unfold mix;rw [List.drop_length,List.append_nil,List.take_of_length_le (by rw [zGv];exact Nat.le_refl _)]
theorem mix_get {p:List Nat} {a b k:Nat} (h:k < p.length):(mix p a b k)[k]? =some (p.getD k 0):=by
 unfold mix;rw [List.getElem?_append_right (by rw [List.length_take];omega),List.length_take,zGv,Nat.min_eq_left (by omega),Nat.sub_self,List.getElem?_drop,Nat.add_zero,List.getElem?_eq_getElem h,List.getD_eq_getElem?_getD,List.getElem?_eq_getElem h];rfl
theorem mix_get2 {p:List Nat} {a b k j:Nat} (hj:j < p.length):(mix p a b k).getD j 0=if j < k then (joinP p a b).getD j 0 else p.getD j 0:=by
 unfold mix;rw [List.getD_eq_getElem?_getD]
 by_cases h:j < k
 · rw [if_pos h,List.getElem?_append_left (by rw [List.length_take,zGv];omega),List.getElem?_take,if_pos h,←List.getD_eq_getElem?_getD]
 · rw [if_neg h,List.getElem?_append_right (by rw [List.length_take,zGv];omega),List.length_take,zGv,List.getElem?_drop,List.getD_eq_getElem?_getD]
   congr 2
   by_cases h2:k≤p.length
   · rw [Nat.min_eq_left h2];omega
   · omega
theorem mix_ext {p q:List Nat} {a b k:Nat} (hl:q.length=p.length) (h:∀j,j < p.length→q.getD j 0=(mix p a b k).getD j 0):q=mix p a b k:=by
 apply List.ext_getElem (by rw [hl,mix_len])
 intro i h1 h2;have:=h i (by omega);rw [List.getD_eq_getElem?_getD,List.getD_eq_getElem?_getD,List.getElem?_eq_getElem h1,List.getElem?_eq_getElem h2] at this
 simpa using this
theorem mix_yes {p:List Nat} {a b k:Nat} (hk:k < p.length) (h:p.getD k 0=p.getD a 0):(mix p a b k).set k (p.getD b 0)=mix p a b (k+1):=by
 refine mix_ext (by rw [List.length_set,mix_len]) fun j hj=> ?_
 rw [getD_set (by rw [mix_len];exact hk),mix_get2 hj,mix_get2 hj]
 by_cases e:j=k
 · subst e;rw [if_pos rfl,if_pos (by omega),joinP_get hk,if_pos h]
 · rw [if_neg e]
   by_cases h1:j < k
   · rw [if_pos h1,if_pos (by omega)]
   · rw [if_neg h1,if_neg (by omega)]
theorem mix_no {p:List Nat} {a b k:Nat} (hk:k < p.length) (h:¬p.getD k 0=p.getD a 0):mix p a b k=mix p a b (k+1):=by
 refine mix_ext (mix_len p a b k) fun j hj=> ?_
 rw [mix_get2 hj,mix_get2 hj]
 by_cases e:j=k
 · subst e;rw [if_neg (by omega),if_pos (by omega),joinP_get hk,if_neg h]
 · by_cases h1:j < k
   · rw [if_pos h1,if_pos (by omega)]
   · rw [if_neg h1,if_neg (by omega)]
def RetJoin (B:Nat) (g:Nat) (vN vP:Value) (l:List El) (p:List Nat) (w:World) (en:Ending) (w':World):Prop:=
 en=.returned (.tuple #[])∧HangAt B w' g vN vP l p∧w.grownBy w' vP.ownBlock
theorem rjoin_any (B g:Nat) (vN vP:Value) (l:List El) (p:List Nat) (a b:ByteArray) (w:World) (h:HangAt B w g vN vP l p) (hB:B≤w.heap.size) (hl:l.length≤100000) (hp:p.length=(gnds l).length) (ha:has (gnds l) a=true) (hb:has (gnds l) b=true):
 Calls Tryz.prog 186 #[.pointer (some ⟨g,0,none⟩),.string a,.string b] w (RetJoin B g vN vP l (joinP p (gIx l a) (gIx l b)) w):=by
 obtain ⟨i0,hi,hz0,hz1,hz2⟩:=info_parts zHf;have hnl:=zEc l;have hgl:(gnds l).length≤400001:=by rw [zBz];omega
 have hia:gIx l a < p.length:=by rw [hp,zBz];exact gIx_lt l a
 have hib:gIx l b < p.length:=by rw [hp,zBz];exact gIx_lt l b
 obtain ⟨aN,cN,rfl⟩:=(IsSl.of_own h.on).form;obtain ⟨aP,cP,rfl⟩:=(IsSl.of_own h.op).form;have hn1:p.length≤400001:=by omega
 have HL:=hid hgl;have HA:=hid ha;have HBB:=hid hb;have HP:=hid hp;have HIA:=hid (gIx_all l a);have HIB:=hid (gIx_all l b);obtain ⟨ga,oa,ya,hidxa,hga,hca,hya⟩:=IsSl.at1 Tryz.underlying153 hi hz1 (IsSl.of_own h.op) hia;obtain ⟨gb,ob,yb,hidxb,hgb,hcb,hyb⟩:=IsSl.at1 Tryz.underlying153 hi hz1 (IsSl.of_own h.op) hib;obtain ⟨pa,hpa,rfl⟩:=nats_get hya;obtain ⟨pb,hpb,rfl⟩:=nats_get hyb;have HPA:=hid (show p.getD (gIx l a) 0=pa by rw [List.getD_eq_getElem?_getD,hpa];rfl);have HPB:=hid (show p.getD (gIx l b) 0=pb by rw [List.getD_eq_getElem?_getD,hpb];rfl);have HH:=hid h;have HCA:=hid hca;have HCB:=hid hcb;clear hgl hia hib ha hb hp h hya hyb hpa hpb hga hgb hca hcb hnl;obtain ⟨N1,hN1⟩:∃N1,(gnds l).length=N1:=⟨_,rfl⟩;obtain ⟨n,hn⟩:∃n,p.length=n:=⟨_,rfl⟩;obtain ⟨ia,hia⟩:∃ia,gIx l a=ia:=⟨_,rfl⟩;obtain ⟨ib,hib⟩:∃ib,gIx l b=ib:=⟨_,rfl⟩;have HN1:=hid hN1;have HN:=hid hn;have HJA:=hid hia;have HJB:=hid hib;rw [hn,hia] at hidxa;rw [hn,hib] at hidxb;rw [hn] at hn1;have hbk:w.heap[g]? =some (.cells #[.slice aN N1 cN,.slice aP n cP] 215 (0,0)):=by rw [←hN1,←hn];exact HH.out.blk
 have HBK:=hid hbk;rw [hN1,hn];clear hN1 hn hia hib hbk;go_enter Tryz.func186,Tryz.ntmps186;go_upto_region 0 with fail;refine wp_region_any (by kernel_rfl) ?_;change wpAny _ _ _ _ _ _ _ (World.drew _);refine zAy [⟨some 9,0, []⟩,⟨some 10,1, []⟩,⟨some 11,2, []⟩,⟨some 12,3, []⟩,⟨some 13,4, []⟩,⟨some 14,5, []⟩,⟨some 15,6, []⟩,⟨some 16,7, []⟩,⟨some 17,8, []⟩,⟨some 18,9, []⟩,⟨some 19,10, []⟩,⟨some 20,11, []⟩,⟨some 6,12, []⟩]
  (fun w'=> w'.heap[g]? =some (.cells #[.slice aN N1 cN,.slice aP n cP] 215 (0,0))∧w'.cell? ⟨ga,oa,none⟩=some (.int .i64 pa))
  (fun oq v _ _ _ _=> match oq with | 0=> v=.pointer (some ⟨g,0,none⟩) | 1=> v=.pointer (some ⟨g,0,none⟩) | 2=> v=.pointer (some ⟨g,1,none⟩) | 3=> v=.slice aP n cP | 4=> v=.pointer (some ⟨g,0,none⟩) | 5=> v=.pointer (some ⟨g,0,none⟩) | 6=> v=.pointer (some ⟨g,0,none⟩) | 7=> v=.slice aN N1 cN | 8=> v=.string a | 9=> v=Value.int .i64 (ia:Nat) | 10=> v=.pointer (some ⟨ga,oa,none⟩) | 11=> v=.int .i64 pa | 12=> v=.int .i64 pa | _=> True) (by kernel_rfl) ?hSj0 (fun _ _ hb h=> ⟨zAm hb h.1,cell_later hb h.2⟩) (fun _ _ _ _ _ _ _ _ _ h=> h) ?hopj0 ?hendj0
 case hSj0=> exact ⟨zAm (Below.refl _ _).drew HBK.out,HCA.out⟩
 case hopj0=>
  delta Owed
  simp only [zBg,Act.put,List.setIfInBounds_toArray,lz,ls];refine Each.cons rfl ?_ (Each.cons rfl ?_ (Each.cons rfl ?_ (Each.cons rfl ?_ (Each.cons rfl ?_ (Each.cons rfl ?_ (Each.cons rfl ?_ (Each.cons rfl ?_ (Each.cons rfl ?_ (Each.cons rfl ?_ (Each.cons rfl ?_ (Each.cons rfl ?_ (Each.cons rfl ?_ Each.nil))))))))))))
  all_goals intro vs w2 hb2 hS2 hR2 K hK;try simp only [zBg,Act.put,List.setIfInBounds_toArray,lz,ls] at hK⊢
  · go_simp;exact shP hK
  · have h0:vs 0=_:=exR (hR2 0 (by kernel_rfl)) (fun _ _ h=> h);simp only [h0] at hK⊢;go_simp;exact shP hK
  · have h1:vs 1=_:=exR (hR2 1 (by kernel_rfl)) (fun _ _ h=> h);simp only [h1] at hK⊢;go_simp;exact shP hK
  · have h2:vs 2=_:=exR (hR2 2 (by kernel_rfl)) (fun _ _ h=> h);have k0:=(zAa hS2.1).1 0 _ rfl;have k1:=(zAa hS2.1).1 1 _ rfl;have k2:=hS2.2;simp only [h2] at hK⊢;go_simp;exact shP hK
  · go_simp;exact shP hK
  · have h4:vs 4=_:=exR (hR2 4 (by kernel_rfl)) (fun _ _ h=> h);simp only [h4] at hK⊢;go_simp;exact shP hK
  · have h5:vs 5=_:=exR (hR2 5 (by kernel_rfl)) (fun _ _ h=> h);simp only [h5] at hK⊢;go_simp;exact shP hK
  · have h6:vs 6=_:=exR (hR2 6 (by kernel_rfl)) (fun _ _ h=> h);have k0:=(zAa hS2.1).1 0 _ rfl;have k1:=(zAa hS2.1).1 1 _ rfl;have k2:=hS2.2;simp only [h6] at hK⊢;go_simp;exact shP hK
  · go_simp;exact shP hK
  · have h7:vs 7=_:=exR (hR2 7 (by kernel_rfl)) (fun _ _ h=> h);have h8:vs 8=_:=exR (hR2 8 (by kernel_rfl)) (fun _ _ h=> h);simp only [h7,h8] at hK⊢;rw [if_pos (by rfl)];go_wp2_with (go_at_call 195;refine (rat_any _ (gnds l) a _ (by have h:=IsSl.of_own (zBa HH.out.on (zAe (zAq hb2) none));rw [HN1.out] at h;rw [HN1.out];exact h) (by have:=HL.out;omega) HA.out).mono ?_;rintro e w3 ⟨rfl,rfl⟩);exact hK.out _ _ (Below.refl _ _) (by rw [HIA.out,HJA.out])
  · have h3:vs 3=_:=exR (hR2 3 (by kernel_rfl)) (fun _ _ h=> h);obtain ⟨_,_,_,H9⟩:=hR2 9 (by kernel_rfl);have h9:vs 9=Value.int .i64 (ia:Nat):=H9;have k0:=(zAa hS2.1).1 0 _ rfl;have k1:=(zAa hS2.1).1 1 _ rfl;have k2:=hS2.2;simp only [h3,h9] at hK⊢;go_simp;exact shP hK
  · have h10:vs 10=_:=exR (hR2 10 (by kernel_rfl)) (fun _ _ h=> h);have k0:=(zAa hS2.1).1 0 _ rfl;have k1:=(zAa hS2.1).1 1 _ rfl;have k2:=hS2.2;simp only [h10] at hK⊢;go_simp;exact shP hK
  · have h11:vs 11=_:=exR (hR2 11 (by kernel_rfl)) (fun _ _ h=> h);simp only [h11] at hK⊢;go_simp;exact shP hK
 case hendj0=>
  intro vs wx lo hiv hbx hSx hRx hdx;have h0:vs 0=_:=(hRx 0 (by kernel_rfl)).1;have h1:vs 1=_:=(hRx 1 (by kernel_rfl)).1;have h2:vs 2=_:=(hRx 2 (by kernel_rfl)).1;have h3:vs 3=_:=(hRx 3 (by kernel_rfl)).1;have h4:vs 4=_:=(hRx 4 (by kernel_rfl)).1;have h5:vs 5=_:=(hRx 5 (by kernel_rfl)).1;have h6:vs 6=_:=(hRx 6 (by kernel_rfl)).1;have h7:vs 7=_:=(hRx 7 (by kernel_rfl)).1;have h8:vs 8=_:=(hRx 8 (by kernel_rfl)).1;have H9:=(hRx 9 (by kernel_rfl)).1;have h9:vs 9=Value.int .i64 (ia:Nat):=H9;have h10:vs 10=_:=(hRx 10 (by kernel_rfl)).1;have h11:vs 11=_:=(hRx 11 (by kernel_rfl)).1;have h12:vs 12=_:=(hRx 12 (by kernel_rfl)).1;simp only [zBg,Act.put,List.setIfInBounds_toArray,lz,ls,h0,h1,h2,h3,h4,h5,h6,h7,h8,h9,h10,h11,h12];have hb:=zAq hbx;have HBW:=hid hb;have HBKn:=hid hSx.1;have HCn:=hid hSx.2;clear hbx hSx hRx hdx hb H9 h0 h1 h2 h3 h4 h5 h6 h7 h8 h9 h10 h11 h12 HBK;have HBK:=HBKn;clear HBKn;obtain ⟨w1,rfl⟩:∃w1:World,w1=wx:=⟨_,rfl⟩;refine wpAny_done (by kernel_rfl) ?_ _;go_upto_region 1 with fail;refine wp_region_any (by kernel_rfl) ?_;change wpAny _ _ _ _ _ _ _ (World.drew _);refine zAy [⟨some 21,0, []⟩,⟨some 22,1, []⟩,⟨some 23,2, []⟩,⟨some 24,3, []⟩,⟨some 25,4, []⟩,⟨some 26,5, []⟩,⟨some 27,6, []⟩,⟨some 28,7, []⟩,⟨some 29,8, []⟩,⟨some 30,9, []⟩,⟨some 31,10, []⟩,⟨some 32,11, []⟩,⟨some 7,12, []⟩]
   (fun w'=> w'.heap[g]? =some (.cells #[.slice aN N1 cN,.slice aP n cP] 215 (0,0))∧w'.cell? ⟨gb,ob,none⟩=some (.int .i64 pb))
   (fun oq v _ _ _ _=> match oq with | 0=> v=.pointer (some ⟨g,0,none⟩) | 1=> v=.pointer (some ⟨g,0,none⟩) | 2=> v=.pointer (some ⟨g,1,none⟩) | 3=> v=.slice aP n cP | 4=> v=.pointer (some ⟨g,0,none⟩) | 5=> v=.pointer (some ⟨g,0,none⟩) | 6=> v=.pointer (some ⟨g,0,none⟩) | 7=> v=.slice aN N1 cN | 8=> v=.string b | 9=> v=Value.int .i64 (ib:Nat) | 10=> v=.pointer (some ⟨gb,ob,none⟩) | 11=> v=.int .i64 pb | 12=> v=.int .i64 pb | _=> True) (by kernel_rfl) ?hSj1 (fun _ _ hb h=> ⟨zAm hb h.1,cell_later hb h.2⟩) (fun _ _ _ _ _ _ _ _ _ h=> h) ?hopj1 ?hendj1
  case hSj1=> exact ⟨zAm (Below.refl _ _).drew HBK.out,(cell_later HBW.out.drew HCB.out)⟩
  case hopj1=>
   delta Owed
   simp only [zBg,Act.put,List.setIfInBounds_toArray,lz,ls];refine Each.cons rfl ?_ (Each.cons rfl ?_ (Each.cons rfl ?_ (Each.cons rfl ?_ (Each.cons rfl ?_ (Each.cons rfl ?_ (Each.cons rfl ?_ (Each.cons rfl ?_ (Each.cons rfl ?_ (Each.cons rfl ?_ (Each.cons rfl ?_ (Each.cons rfl ?_ (Each.cons rfl ?_ Each.nil))))))))))))
   all_goals intro vs w2 hb2 hS2 hR2 K hK;try simp only [zBg,Act.put,List.setIfInBounds_toArray,lz,ls] at hK⊢
   · go_simp;exact shP hK
   · have h0:vs 0=_:=exR (hR2 0 (by kernel_rfl)) (fun _ _ h=> h);simp only [h0] at hK⊢;go_simp;exact shP hK
   · have h1:vs 1=_:=exR (hR2 1 (by kernel_rfl)) (fun _ _ h=> h);simp only [h1] at hK⊢;go_simp;exact shP hK
   · have h2:vs 2=_:=exR (hR2 2 (by kernel_rfl)) (fun _ _ h=> h);have k0:=(zAa hS2.1).1 0 _ rfl;have k1:=(zAa hS2.1).1 1 _ rfl;have k2:=hS2.2;simp only [h2] at hK⊢;go_simp;exact shP hK
   · go_simp;exact shP hK
   · have h4:vs 4=_:=exR (hR2 4 (by kernel_rfl)) (fun _ _ h=> h);simp only [h4] at hK⊢;go_simp;exact shP hK
   · have h5:vs 5=_:=exR (hR2 5 (by kernel_rfl)) (fun _ _ h=> h);simp only [h5] at hK⊢;go_simp;exact shP hK
   · have h6:vs 6=_:=exR (hR2 6 (by kernel_rfl)) (fun _ _ h=> h);have k0:=(zAa hS2.1).1 0 _ rfl;have k1:=(zAa hS2.1).1 1 _ rfl;have k2:=hS2.2;simp only [h6] at hK⊢;go_simp;exact shP hK
   · go_simp;exact shP hK
   · have h7:vs 7=_:=exR (hR2 7 (by kernel_rfl)) (fun _ _ h=> h);have h8:vs 8=_:=exR (hR2 8 (by kernel_rfl)) (fun _ _ h=> h);simp only [h7,h8] at hK⊢;rw [if_pos (by rfl)];go_wp2_with (go_at_call 195;refine (rat_any _ (gnds l) b _ (by have h:=IsSl.of_own (zBa HH.out.on (zAe (HBW.out.trans ((zAq hb2).mono HBW.out.size)) none));rw [HN1.out] at h;rw [HN1.out];exact h) (by have:=HL.out;omega) HBB.out).mono ?_;rintro e w3 ⟨rfl,rfl⟩);exact hK.out _ _ (Below.refl _ _) (by rw [HIB.out,HJB.out])
   · have h3:vs 3=_:=exR (hR2 3 (by kernel_rfl)) (fun _ _ h=> h);obtain ⟨_,_,_,H9⟩:=hR2 9 (by kernel_rfl);have h9:vs 9=Value.int .i64 (ib:Nat):=H9;have k0:=(zAa hS2.1).1 0 _ rfl;have k1:=(zAa hS2.1).1 1 _ rfl;have k2:=hS2.2;simp only [h3,h9] at hK⊢;go_simp;exact shP hK
   · have h10:vs 10=_:=exR (hR2 10 (by kernel_rfl)) (fun _ _ h=> h);have k0:=(zAa hS2.1).1 0 _ rfl;have k1:=(zAa hS2.1).1 1 _ rfl;have k2:=hS2.2;simp only [h10] at hK⊢;go_simp;exact shP hK
   · have h11:vs 11=_:=exR (hR2 11 (by kernel_rfl)) (fun _ _ h=> h);simp only [h11] at hK⊢;go_simp;exact shP hK
  case hendj1=>
   intro vs wx lo hiv hbx hSx hRx hdx;have h0:vs 0=_:=(hRx 0 (by kernel_rfl)).1;have h1:vs 1=_:=(hRx 1 (by kernel_rfl)).1;have h2:vs 2=_:=(hRx 2 (by kernel_rfl)).1;have h3:vs 3=_:=(hRx 3 (by kernel_rfl)).1;have h4:vs 4=_:=(hRx 4 (by kernel_rfl)).1;have h5:vs 5=_:=(hRx 5 (by kernel_rfl)).1;have h6:vs 6=_:=(hRx 6 (by kernel_rfl)).1;have h7:vs 7=_:=(hRx 7 (by kernel_rfl)).1;have h8:vs 8=_:=(hRx 8 (by kernel_rfl)).1;have H9:=(hRx 9 (by kernel_rfl)).1;have h9:vs 9=Value.int .i64 (ib:Nat):=H9;have h10:vs 10=_:=(hRx 10 (by kernel_rfl)).1;have h11:vs 11=_:=(hRx 11 (by kernel_rfl)).1;have h12:vs 12=_:=(hRx 12 (by kernel_rfl)).1;simp only [zBg,Act.put,List.setIfInBounds_toArray,lz,ls,h0,h1,h2,h3,h4,h5,h6,h7,h8,h9,h10,h11,h12];have hb:=zAq hbx;have HBV:=hid (HBW.out.trans (hb.mono HBW.out.size));have HBKn:=hid hSx.1;have HCn:=hid hSx.2;clear hbx hSx hRx hdx hb H9 h0 h1 h2 h3 h4 h5 h6 h7 h8 h9 h10 h11 h12 HBK;have HBK:=HBKn;clear HBKn;obtain ⟨w2,rfl⟩:∃w2:World,w2=wx:=⟨_,rfl⟩;refine wpAny_done (by kernel_rfl) ?_ _;go_wp2;have HH2:=hid (HH.out.later HBV.out);have HGV:=hid (zAe HBV.out (Value.slice aP n cP).ownBlock);clear HBK HCn HBW HBV HCA HCB hidxa hidxb
   go_loopw [8] (fun i wr=> ∃k:Nat,k≤n∧i=.int .i64 k∧HangAt B wr g (.slice aN N1 cN) (.slice aP n cP) l (mix p ia ib k)∧w.grownBy wr (Value.slice aP n cP).ownBlock) (fun i _=> n - (intOf i).toNat)
   case atStart=> exact ⟨0,Nat.zero_le _,rfl,by rw [mix_zero];have h:=HH2.out;rw [HN1.out,HN.out] at h;exact h,HGV.out⟩
   case round=>
    obtain ⟨k,hk,rfl,hh,hgr⟩:=hrel;have HA2:=hid hh;have HG2:=hid hgr;clear hh hgr HH2 HGV;have n0:=(zAa HA2.out.blk).1 0 _ rfl;have n1:=(zAa HA2.out.blk).1 1 _ rfl
    by_cases hlt:k < n
    · have hop:=HA2.out.op;rw [mix_len,HN.out] at hop;obtain ⟨g1,x,hidx,hB1,hg1,hcell,hx,hfr,hob,hst⟩:=zCp Tryz.underlying153 hi hz1 hop hlt;obtain ⟨y,hy,rfl⟩:=nats_get hx;rw [mix_get (by rw [HN.out];exact hlt)] at hy;obtain rfl:=Option.some.inj hy;have HST:=hid hst;have HOB:=hid hob;have HOP:=hid hop;clear hx hy hst hob hop hB1 hg1;obtain ⟨y,hy⟩:∃y,p.getD k 0=y:=⟨_,rfl⟩;have HY:=hid hy;rw [hy] at hcell;clear hy;have hgg:¬g=g1:=fun e=> HA2.out.pg (by rw [HOB.out,e])
      by_cases he:y=pa
      · have HE:=hid he;subst he;go_wp2_with fail;go_roundw
        case rel=>
         have h1:=HST.out wr HOP.out (Value.int .i64 pb);have hgr:=h1.2;refine ⟨k+1,by omega,by go_num,⟨HA2.out.gB,zAk hgr hgg HA2.out.blk,own_ne HA2.out.on hgr (HA2.out.np g1 HOB.out),?_,HA2.out.ng,HA2.out.pg,HA2.out.np⟩,zAf HG2.out (by rw [HOB.out];exact hgr)⟩;have h2:=h1.1;have hm:=mix_yes (a:=ia) (b:=ib) (show k < p.length by rw [HN.out];exact hlt) (by rw [HY.out,←HJA.out,HPA.out]);rw [mix_len,HN.out,←hm];have h3:nats ((mix p ia ib k).set k (p.getD ib 0))=(nats (mix p ia ib k)).set k (.int .i64 pb):=by unfold nats;rw [List.map_set,←HJB.out,HPB.out]
         rw [h3];exact h2
        case measure=> simp [intOf];omega
      · have HE:=hid he;have hne:((y:Int)==(pa:Int))=false:=by rw [beq_eq_false_iff_ne];omega
        go_wp2_with fail;go_roundw
        case rel=>
         have hm:=mix_no (a:=ia) (b:=ib) (show k < p.length by rw [HN.out];exact hlt) (by rw [HY.out,←HJA.out,HPA.out];exact HE.out);exact ⟨k+1,by omega,by go_num,by rw [←hm];exact HA2.out,HG2.out⟩
        case measure=> simp [intOf];omega
    · obtain rfl:k=n:=by omega
      go_wp2
      (try rw [Exit.noGoto_ret])
      go_end0
      refine ⟨rfl,?_,HG2.out⟩;have h:=HA2.out;have hm:=mix_all p ia ib;rw [HN.out] at hm;rw [hm] at h;rw [HJA.out,HJB.out];exact h
end
section
open Go.RowKit
def zBm (p:Value) (nd n:Nat) (ov:Bool) (M:List Cx):Array Value:=(p::.int .i64 nd::.int .i64 n::.bool ov::M.map mkC).toArray
theorem board_0 {p:Value} {nd n:Nat} {ov:Bool} {M:List Cx}:(zBm p nd n ov M)[0]? =some p:=by simp [zBm]
theorem board_1 {p:Value} {nd n:Nat} {ov:Bool} {M:List Cx}:(zBm p nd n ov M)[1]? =some (.int .i64 nd):=by simp [zBm]
theorem board_2 {p:Value} {nd n:Nat} {ov:Bool} {M:List Cx}:(zBm p nd n ov M)[2]? =some (.int .i64 n):=by simp [zBm]
theorem zFg {p:Value} {nd n:Nat} {ov:Bool} {M:List Cx}:(zBm p nd n ov M)[3]? =some (.bool ov):=by simp [zBm]
theorem board_z {p:Value} {nd n k:Nat} {ov:Bool} {M:List Cx} (h:k < M.length):(zBm p nd n ov M)[4+k]? =some (mkC (M.getD k (0,0))):=by
 unfold zBm;rw [List.getElem?_toArray,show 4+k=k+1+1+1+1 by omega];simp only [List.getElem?_cons_succ,List.getElem?_map,List.getD_eq_getElem?_getD];rw [List.getElem?_eq_getElem h];rfl
theorem board_set_z {p:Value} {nd n k:Nat} {ov:Bool} {M:List Cx} (z:Cx):(zBm p nd n ov M).setIfInBounds (4+k) (mkC z)=zBm p nd n ov (M.set k z):=by
 unfold zBm;rw [List.setIfInBounds_toArray,show 4+k=k+1+1+1+1 by omega];simp only [List.set_cons_succ,List.map_set]
theorem board_set_ov {p:Value} {nd n:Nat} {ov b:Bool} {M:List Cx}:(zBm p nd n ov M).setIfInBounds 3 (.bool b)=zBm p nd n b M:=by
 unfold zBm;rw [List.setIfInBounds_toArray];rfl
def zGj (w:World) (g:Nat) (p:Value) (nd n:Nat) (m:Nat→Cx) (ov:Bool) (M:List Cx):Prop:=
 M.length=4096∧w.heap[g]? =some (.cells (zBm p nd n ov M) 173 (0,0))∧∀k,k < 4096→ck (M.getD k (0,0))=m k
def BoardR (w:World) (g:Nat) (p:Value) (nd n:Nat) (s:StS):Prop:=∃M,zGj w g p nd n s.1 s.2 M
theorem zGj.below {w w':World} {g nd n:Nat} {p:Value} {m:Nat→Cx} {ov:Bool} {M:List Cx} (h:zGj w g p nd n m ov M) (hb:Below w.heap.size w w'):zGj w' g p nd n m ov M:=
 ⟨h.1,zAo hb h.2.1,h.2.2⟩
theorem BoardR.below {w w':World} {g nd n:Nat} {p:Value} {s:StS} (h:BoardR w g p nd n s) (hb:Below w.heap.size w w'):BoardR w' g p nd n s:=by
 obtain ⟨M,hM⟩:=h;exact ⟨M,hM.below hb⟩
theorem BoardR.lt {w:World} {g nd n:Nat} {p:Value} {s:StS} (h:BoardR w g p nd n s):g < w.heap.size:=by
 obtain ⟨M,h1,h2,h3⟩:=h;exact (Array.getElem?_eq_some_iff.1 h2).1
theorem zGj.put {w:World} {g nd n k:Nat} {p:Value} {m:Nat→Cx} {ov:Bool} {M:List Cx} (h:zGj w g p nd n m ov M) (hk:k < 4096) (z:Cx):
 zGj (w.setCell ⟨g,4+k,none⟩ (mkC z)) g p nd n (upd m k (ck z)) ov (M.set k z):=by
 obtain ⟨h1,h2,h3⟩:=h;refine ⟨by rw [List.length_set,h1],?_,fun j hj=> ?_⟩
 · have h4:=blk_setS (o:=4+k) h2 (mkC z);rw [board_set_z] at h4;exact h4
 · by_cases e:j=k
   · subst e;rw [zAr,List.getD_eq_getElem?_getD,List.getElem?_set_self (by omega)];rfl
   · rw [zAu _ _ e,←h3 j hj,List.getD_eq_getElem?_getD,List.getD_eq_getElem?_getD,List.getElem?_set_ne (Ne.symm e)]
theorem zGj.mark {w:World} {g nd n:Nat} {p:Value} {m:Nat→Cx} {ov:Bool} {M:List Cx} (h:zGj w g p nd n m ov M) (b:Bool):
 zGj (w.setCell ⟨g,3,none⟩ (.bool b)) g p nd n m b M:=by
 obtain ⟨h1,h2,h3⟩:=h;have h4:=blk_setS (o:=3) h2 (.bool b);rw [board_set_ov] at h4;exact ⟨h1,h4,h3⟩
def RetBd (g:Nat) (p:Value) (nd n:Nat) (s:StS) (w:World) (en:Ending) (w':World):Prop:=en=.returned (.tuple #[])∧BoardR w' g p nd n s∧w.grownBy w' (some g)
end
section
open Go.RowKit
theorem zHk (g nd n:Nat) (p:Value) (s:StS) (i j:Int) (a b:Nat) (w:World) (h:BoardR w g p nd n s) (hn:n≤64) (hi:i < n) (hj:j < n):
 Calls Tryz.prog 180 #[.pointer (some ⟨g,0,none⟩),.int .i64 i,.int .i64 j,.complex .f64 a b] w (RetBd g p nd n (st1 n s ⟨false,i,j,(fc a,fc b)⟩) w):=by
 by_cases hi0:i < 0
 · have H:=hid h;clear h;go_enter Tryz.func180,Tryz.ntmps180;go_wp2
   (try rw [Exit.noGoto_ret])
   go_end0
   exact ⟨rfl,by rw [st1_no (.inl hi0)];exact H.out,World.grownBy.refl _ _⟩
 by_cases hj0:j < 0
 · have H:=hid h;clear h;go_enter Tryz.func180,Tryz.ntmps180;go_wp2
   (try rw [Exit.noGoto_ret])
   go_end0
   exact ⟨rfl,by rw [st1_no (.inr hj0)];exact H.out,World.grownBy.refl _ _⟩
 rw [st1_yes (show¬(i < 0∨j < 0) by omega)];obtain ⟨i,rfl⟩:=Int.eq_ofNat_of_zero_le (show 0≤i by omega);obtain ⟨j,rfl⟩:=Int.eq_ofNat_of_zero_le (show 0≤j by omega);have hk:i * n+j < 4096:=by
  have h1:i≤63:=by omega
  have h2:i * n≤63 * n:=Nat.mul_le_mul_right n h1
  omega
 have hidx:(((i:Nat):Int) * (n:Int)+((j:Nat):Int)).toNat=i * n+j:=by
  rw [show (i:Int) * (n:Int)=((i * n:Nat):Int) by simp];omega
 have HIDX:=hid hidx;obtain ⟨q,hq⟩:∃q,i * n=q:=⟨_,rfl⟩;obtain ⟨k,hkk⟩:∃k,q+j=k:=⟨_,rfl⟩;rw [hq,hkk] at hk;have hw1:IntKind.i64.wrap ((i:Int) * (n:Int))=(q:Int):=by
  rw [show (i:Int) * (n:Int)=((i * n:Nat):Int) by simp,hq];rw [IntWalk.i64_in _ ⟨by omega,by omega⟩]
 have hw2:IntKind.i64.wrap ((q:Int)+(j:Int))=(k:Int):=by
  rw [IntWalk.i64_in _ ⟨by omega,by omega⟩];omega
 have hkz:(k:Int) < 4096:=by omega
 have HQ:=hid hq;have HKK:=hid hkk;rw [hq,hkk] at HIDX;clear hidx hq hkk;obtain ⟨M,hM⟩:=h;have HM:=hid hM;have HK:=hid hk;have hsc:=zAa HM.out.2.1;have c2:=hsc.1 2 _ board_2;clear hsc hM hk;go_enter Tryz.func180,Tryz.ntmps180;go_upto_region 1 with fail
 go_still_tail 12,(by kernel_rfl)
 change wpList _ _ _ _ _ w.drew;have HD:=hid (HM.out.below (Below.refl _ _).drew);have HG:=hid (zAe ((Below.refl w.heap.size w).drew) (some g));clear HM c2;obtain ⟨hz,hfz⟩:=zAa HD.out.2.1;have cz:=hz (4+k) _ (board_z (by have:=HD.out.1;have:=HK.out;omega));have HFZ:=hid hfz;clear hz hfz;have HZE:=hid (HD.out.2.2 k HK.out);generalize w.drew=w1 at *;generalize M.getD k (0,0)=z at *;obtain ⟨z1,z2⟩:=z;go_upto_region 3 with (go_at_call 127;refine (padd_any z1 z2 a b _).mono ?_;rintro e w2 ⟨v,nn,rfl,he,r1,r2,rfl,hzz⟩;have hb2:Below w1.heap.size w1 w2:=(by rw [he];exact zAg (Below.refl _ _) nn);have HD2:=hid (HD.out.below hb2);have HG2:=hid (zAf HG.out (zAe hb2 (some g)));have HZZ:=hid hzz;have fz:=(zAa HD2.out.2.1).2 (4+k);have cz2:=(hb2.cell (p:=⟨g,4+k,none⟩) (Array.getElem?_eq_some_iff.1 HD.out.2.1).1).trans cz;clear HD HG hzz HFZ he hb2 cz);have HD3:=hid (HD2.out.put HK.out (r1,r2));have HG3:=hid (zAf HG2.out (zCh w2 g (4+k) (.complex .f64 r1 r2)));clear HD2 HG2 fz cz2;have HD4:Hid (zGj (w2.setCell ⟨g,4+k,none⟩ (.complex .f64 r1 r2)) g p nd n (upd s.1 k (ck (r1,r2))) s.2 (M.set k (r1,r2))):=HD3;clear HD3;have HST:=hid (show stZ n s.1 ⟨false,(i:Int),(j:Int),(fc a,fc b)⟩=ck (r1,r2) by
  unfold stZ;simp only [HIDX.out,Bool.false_eq_true,if_false];rw [←HZE.out];exact HZZ.out.symm)
 generalize w2.setCell ⟨g,4+k,none⟩ (.complex .f64 r1 r2)=w3 at *;have hsc:=zAa HD4.out.2.1;have o3:=hsc.1 3 _ zFg;have HZ3:=hid (hsc.1 (4+k) _ (board_z (by have:=HD4.out.1;have:=HK.out;omega)));have z3:w3.cell? ⟨g,4+k,none⟩=some (.complex .f64 r1 r2):=by
  have h1:=HZ3.out;rw [List.getD_eq_getElem?_getD,List.getElem?_set_self (by have:=HD4.out.1;rw [List.length_set] at this;have:=HK.out;omega)] at h1;exact h1
 have f3:=hsc.2 3;clear hsc HZ3;rcases hov:s.2 with _ | _
 · rw [hov] at o3;go_wp2_with (go_at_call 38;refine (zCj r1 r2 _).mono ?_;rintro e w4 ⟨v,nn4,rfl,he,rfl⟩;have hb4:Below w3.heap.size w3 w4:=(by rw [he];exact zAg (Below.refl _ _) nn4);have HD5:=hid (HD4.out.below hb4);have HG5:=hid (zAf HG3.out (zAe hb4 (some g)));have o4:=(zAa HD5.out.2.1).1 3 _ zFg;have f4:=(zAa HD5.out.2.1).2 3;clear HD4 HG3 he hb4 o3 f3 z3)
   (try rw [Exit.noGoto_ret])
   go_end0
   refine ⟨rfl,⟨M.set k (r1,r2),?_⟩,zAf HG5.out (zCh _ _ _ _)⟩;rw [HST.out,HIDX.out];rw [hov,Bool.false_or];exact HD5.out.mark _
 · rw [hov] at o3;go_wp2
   (try rw [Exit.noGoto_ret])
   go_end0
   refine ⟨rfl,⟨M.set k (r1,r2),?_⟩,zAf HG3.out (zCh _ _ _ _)⟩;rw [HST.out,HIDX.out];rw [hov,Bool.true_or];exact HD4.out.mark _
theorem zHj (g nd n:Nat) (p:Value) (s:StS) (i j:Int) (a b:Nat) (w:World) (h:BoardR w g p nd n s) (hn:n≤64) (hi:i < n) (hj:j < n):
 Calls Tryz.prog 181 #[.pointer (some ⟨g,0,none⟩),.int .i64 i,.int .i64 j,.complex .f64 a b] w (RetBd g p nd n (st1 n s ⟨true,i,j,(fc a,fc b)⟩) w):=by
 by_cases hi0:i < 0
 · have H:=hid h;clear h;go_enter Tryz.func181,Tryz.ntmps181;go_wp2
   (try rw [Exit.noGoto_ret])
   go_end0
   exact ⟨rfl,by rw [st1_no (.inl hi0)];exact H.out,World.grownBy.refl _ _⟩
 by_cases hj0:j < 0
 · have H:=hid h;clear h;go_enter Tryz.func181,Tryz.ntmps181;go_wp2
   (try rw [Exit.noGoto_ret])
   go_end0
   exact ⟨rfl,by rw [st1_no (.inr hj0)];exact H.out,World.grownBy.refl _ _⟩
 rw [st1_yes (show¬(i < 0∨j < 0) by omega)];obtain ⟨i,rfl⟩:=Int.eq_ofNat_of_zero_le (show 0≤i by omega);obtain ⟨j,rfl⟩:=Int.eq_ofNat_of_zero_le (show 0≤j by omega);have hk:i * n+j < 4096:=by
  have h1:i≤63:=by omega
  have h2:i * n≤63 * n:=Nat.mul_le_mul_right n h1
  omega
 have hidx:(((i:Nat):Int) * (n:Int)+((j:Nat):Int)).toNat=i * n+j:=by
  rw [show (i:Int) * (n:Int)=((i * n:Nat):Int) by simp];omega
 have HIDX:=hid hidx;obtain ⟨q,hq⟩:∃q,i * n=q:=⟨_,rfl⟩;obtain ⟨k,hkk⟩:∃k,q+j=k:=⟨_,rfl⟩;rw [hq,hkk] at hk;have hw1:IntKind.i64.wrap ((i:Int) * (n:Int))=(q:Int):=by
  rw [show (i:Int) * (n:Int)=((i * n:Nat):Int) by simp,hq];rw [IntWalk.i64_in _ ⟨by omega,by omega⟩]
 have hw2:IntKind.i64.wrap ((q:Int)+(j:Int))=(k:Int):=by
  rw [IntWalk.i64_in _ ⟨by omega,by omega⟩];omega
 have hkz:(k:Int) < 4096:=by omega
 have HQ:=hid hq;have HKK:=hid hkk;rw [hq,hkk] at HIDX;clear hidx hq hkk;obtain ⟨M,hM⟩:=h;have HM:=hid hM;have HK:=hid hk;have hsc:=zAa HM.out.2.1;have c2:=hsc.1 2 _ board_2;clear hsc hM hk;go_enter Tryz.func181,Tryz.ntmps181;go_upto_region 1 with fail
 go_still_tail 12,(by kernel_rfl)
 change wpList _ _ _ _ _ w.drew;have HD:=hid (HM.out.below (Below.refl _ _).drew);have HG:=hid (zAe ((Below.refl w.heap.size w).drew) (some g));clear HM c2;obtain ⟨hz,hfz⟩:=zAa HD.out.2.1;have cz:=hz (4+k) _ (board_z (by have:=HD.out.1;have:=HK.out;omega));have HFZ:=hid hfz;clear hz hfz;have HZE:=hid (HD.out.2.2 k HK.out);generalize w.drew=w1 at *;generalize M.getD k (0,0)=z at *;obtain ⟨z1,z2⟩:=z;go_upto_region 3 with (go_at_call 89;refine (psub_any z1 z2 a b _).mono ?_;rintro e w2 ⟨v,nn,rfl,he,r1,r2,rfl,hzz⟩;have hb2:Below w1.heap.size w1 w2:=(by rw [he];exact zAg (Below.refl _ _) nn);have HD2:=hid (HD.out.below hb2);have HG2:=hid (zAf HG.out (zAe hb2 (some g)));have HZZ:=hid hzz;have fz:=(zAa HD2.out.2.1).2 (4+k);have cz2:=(hb2.cell (p:=⟨g,4+k,none⟩) (Array.getElem?_eq_some_iff.1 HD.out.2.1).1).trans cz;clear HD HG hzz HFZ he hb2 cz);have HD3:=hid (HD2.out.put HK.out (r1,r2));have HG3:=hid (zAf HG2.out (zCh w2 g (4+k) (.complex .f64 r1 r2)));clear HD2 HG2 fz cz2;have HD4:Hid (zGj (w2.setCell ⟨g,4+k,none⟩ (.complex .f64 r1 r2)) g p nd n (upd s.1 k (ck (r1,r2))) s.2 (M.set k (r1,r2))):=HD3;clear HD3;have HST:=hid (show stZ n s.1 ⟨true,(i:Int),(j:Int),(fc a,fc b)⟩=ck (r1,r2) by
  unfold stZ;simp only [HIDX.out,if_true];rw [←HZE.out];exact HZZ.out.symm)
 generalize w2.setCell ⟨g,4+k,none⟩ (.complex .f64 r1 r2)=w3 at *;have hsc:=zAa HD4.out.2.1;have o3:=hsc.1 3 _ zFg;have HZ3:=hid (hsc.1 (4+k) _ (board_z (by have:=HD4.out.1;have:=HK.out;omega)));have z3:w3.cell? ⟨g,4+k,none⟩=some (.complex .f64 r1 r2):=by
  have h1:=HZ3.out;rw [List.getD_eq_getElem?_getD,List.getElem?_set_self (by have:=HD4.out.1;rw [List.length_set] at this;have:=HK.out;omega)] at h1;exact h1
 have f3:=hsc.2 3;clear hsc HZ3;rcases hov:s.2 with _ | _
 · rw [hov] at o3;go_wp2_with (go_at_call 38;refine (zCj r1 r2 _).mono ?_;rintro e w4 ⟨v,nn4,rfl,he,rfl⟩;have hb4:Below w3.heap.size w3 w4:=(by rw [he];exact zAg (Below.refl _ _) nn4);have HD5:=hid (HD4.out.below hb4);have HG5:=hid (zAf HG3.out (zAe hb4 (some g)));have o4:=(zAa HD5.out.2.1).1 3 _ zFg;have f4:=(zAa HD5.out.2.1).2 3;clear HD4 HG3 he hb4 o3 f3 z3)
   (try rw [Exit.noGoto_ret])
   go_end0
   refine ⟨rfl,⟨M.set k (r1,r2),?_⟩,zAf HG5.out (zCh _ _ _ _)⟩;rw [HST.out,HIDX.out];rw [hov,Bool.false_or];exact HD5.out.mark _
 · rw [hov] at o3;go_wp2
   (try rw [Exit.noGoto_ret])
   go_end0
   refine ⟨rfl,⟨M.set k (r1,r2),?_⟩,zAf HG3.out (zCh _ _ _ _)⟩;rw [HST.out,HIDX.out];rw [hov,Bool.true_or];exact HD4.out.mark _
end
end Go.Proofs.YtejooaeppcjhjaaGreat
