/- a part of the proof of the last text -/
import Derived.Test.YtejooaeppcjhjaaGreatZMRPh2
namespace Go.Proofs.YtejooaeppcjhjaaGreat
set_option linter.all false
set_option maxHeartbeats 4000000
set_option maxRecDepth 100000
open Go.RowKit
def RetPart (om k m:Nat) (x:Nat→Cx) (w:World) (e:Ending) (w':World):Prop:=
 ∃ (v1 v2:Value) (xs1 xs2:List Cx),e=.returned (.agg #[.float .f64 om,v1,v2])∧w'.ownsRow w.heap.size 49 1 v1 k (xs1.map mkC)∧w'.ownsRow w.heap.size 49 1 v2 m (xs2.map mkC)∧
  xs1.map ck=(List.range k).map x∧xs2.map ck=(List.range m).map (fun i=> x (k+i))∧Below w.heap.size w w'
theorem VecM.cut {w:World} {b n k:Nat} {r:Nat→Cx} {M:List Cx} (h:VecM w b n r M) (hk:k≤n):IsSl w 1 (.slice (some ⟨b,0,none⟩) k n) k ((M.take k).map mkC):=by
 obtain ⟨hl,hr,_⟩:=h;refine ⟨by simp;omega,.inr ⟨b,0,n,rfl,by omega,(Array.getElem?_eq_some_iff.1 hr).1,fun q hq=> ?_⟩⟩;rw [Nat.zero_add,cell_of_row _ _ _ _ _ _ hr,List.getElem?_toArray,List.map_take,List.getElem?_take,if_pos (by omega)]
theorem VecM.cutr {w:World} {b n k o:Nat} {r:Nat→Cx} {M:List Cx} (h:VecM w b n r M) (hk:k≤n) (ho:k < n→o=k):IsSl w 1 (.slice (some ⟨b,o,none⟩) (n - k) (n - k)) (n - k) ((M.drop k).map mkC):=by
 obtain ⟨hl,hr,_⟩:=h;refine ⟨by simp;omega,.inr ⟨b,o,n - k,rfl,by omega,(Array.getElem?_eq_some_iff.1 hr).1,fun q hq=> ?_⟩⟩;rw [ho (by omega),cell_of_row _ _ _ _ _ _ hr,List.getElem?_toArray,List.map_drop,List.getElem?_drop]
theorem VecM.first {w:World} {b n k:Nat} {r:Nat→Cx} {M:List Cx} (h:VecM w b n r M) (hk:k≤n):(M.take k).map ck=(List.range k).map r:=by
 apply List.ext_getElem
 · simp [h.len];omega
 · intro i h1 h2;have hi:i < k:=by simpa using h2
   rw [List.getElem_map,List.getElem_take,List.getElem_map,List.getElem_range,←h.num i (by omega),List.getD_eq_getElem?_getD,List.getElem?_eq_getElem (by rw [h.len];omega)];rfl
theorem VecM.last {w:World} {b n k m:Nat} {r:Nat→Cx} {M:List Cx} (h:VecM w b n r M) (hk:n=k+m):(M.drop k).map ck=(List.range m).map fun i=> r (k+i):=by
 apply List.ext_getElem
 · simp [h.len];omega
 · intro i h1 h2;have hi:i < m:=by simpa using h2
   rw [List.getElem_map,List.getElem_drop,List.getElem_map,List.getElem_range,←h.num (k+i) (by omega),List.getD_eq_getElem?_getD,List.getElem?_eq_getElem (by rw [h.len];omega)];rfl
theorem cut_rest2 {b nn k:Nat} (hk:k≤nn):∃o:Nat,(k < nn→o=k)∧∀w',(Instr.sliceAt 70 (.slice (some ⟨b,0,none⟩) nn nn) (some (.int .i64 k)) none none).run Tryz.prog w'=.ok (.slice (some ⟨b,o,none⟩) (nn - k) (nn - k)) w':=by
 obtain ⟨i0,hi,hz0,hz1,hz2⟩:=info_parts zEm;have he:Tryz.prog.elem 70 =49 :=by have:=Tryz.underlying70;simp [Program.elem,this]
 have hu:Tryz.prog.underlying 70 =some (.slice (Tryz.prog.elem 70)):=by rw [he];exact Tryz.underlying70
 refine ⟨if nn=k then 0 else k,fun h=> if_neg (by omega),fun w'=> ?_⟩;have h:=run_slice_l w' 70 (some ⟨b,0,none⟩) nn nn hu .i64 k (by omega) (by omega);have h2:=run_sliceAt_slice w' 70 (.slice (some ⟨b,0,none⟩) nn nn) (some (.int .i64 k)) none none hu;rw [h2,h,he]
 by_cases e:nn=k
 · simp [sizeOf,typeInfo,hi,hz1,sliced,Result.andThen,e]
 · have hx:(⟨b,0,none⟩:Addr).add k=⟨b,k,none⟩:=by rw [add_flat,Nat.zero_add]
   simp [sizeOf,typeInfo,hi,hz1,sliced,Result.andThen,e,hx]
theorem zEw {fn:Func} {p r q:Tmp} {ty ty2:TypeId} (h:fn.results=#[.cell p ty,.tmp r,.cell q ty2]) (tmps:Array Value) (P:Program) (w:World):
 (results fn tmps).run P w=
  ((asAddr (tmps.getD p undef)).run P w).andThen fun a w₁=> ((loadVar ty a).run P w₁).andThen fun v w₂=> ((asAddr (tmps.getD q undef)).run P w₂).andThen fun b w₃=> ((loadVar ty2 b).run P w₃).andThen fun u w₄=> .ok (.tuple #[v,tmps.getD r undef,u]) w₄:=by
 simp only [results,h]
 simp [Sem.run_bind,Result.andThen]
theorem rparted_any (p:Value) (l:List El) (om qx k n m:Nat) (x:Nat→Cx) (w:World) (hp:RN w p l) (hl:l.length≤100000) (hk:(nds l).length=k) (hkm:n=k+m) (hn:n≤64) (hx:VecR w qx n x):
 Calls Tryz.prog 135 #[p,.float .f64 om,.slice (some ⟨qx,0,none⟩) n n] w (RetPart om k m x w):=by
 obtain ⟨M,hM⟩:=hx;obtain ⟨ic,hic,hc0,hc1,hc2⟩:=info_parts zEm;have hb1:=(Below.refl w.heap.size w).alloc (Nat.le_refl _) (.cells #[.float .f64 0,.slice none 0 0,.slice none 0 0] 72);have HBO:=hid hb1;have HT:=hid (heap_alloc_new w (.cells #[.float .f64 0,.slice none 0 0,.slice none 0 0] 72));have HP:=hid (hp.below hb1 (Nat.le_refl _));have HX:=hid (hM.below hb1);have HL:=hid hl;have HK:=hid hk;have HKM:=hid hkm;have HN:=hid hn;have HKN:=hid (show k≤n by omega);obtain ⟨ox,hox,hcr⟩:=cut_rest2 (b:=qx) HKN.out;have HOX:=hid hox;rw [show n - k=m by omega] at hcr;have hct:=fun w'=> cut_to (a:=⟨qx,0,none⟩) (nn:=n) (c:=n) (k:=k) HKN.out w'
 clear hp hl hk hkm hn hM hb1 hox;go_enter Tryz.func135,Tryz.ntmps135;go_upto_region 1 with fail;generalize w.alloc (.cells #[.float .f64 0,.slice none 0 0,.slice none 0 0] 72)=w1 at *;obtain ⟨gt,hgt⟩:∃gt,w.heap.size=gt:=⟨_,rfl⟩;rw [hgt] at HT⊢;have HGT:=hid hgt;clear hgt;go_upto_region 2 with (go_at_call 22;refine (zCy p l _ HP.out HL.out).mono ?_;rintro e w2 ⟨v,xs,rfl,hown,_,hb⟩;have HT1:=hid (zAc hb HT.out);have HP1:=hid (HP.out.below' hb);have HX1:=hid (HX.out.below hb);have HB1:=hid (zAd HBO.out hb);obtain ⟨av,cv,rfl⟩:=(IsSl.of_own hown).form;clear hown;rw [HK.out];clear hb);clear HT HP HX HBO;go_upto_region 3 with fail;have HT2:=hid (zAc ((Below.refl w2.heap.size w2).alloc (Nat.le_refl _) (.cells #[.float .f64 om,.slice none 0 0,.slice none 0 0] 72)) HT1.out);have HP2:=hid (HP1.out.below' ((Below.refl w2.heap.size w2).alloc (Nat.le_refl _) (.cells #[.float .f64 om,.slice none 0 0,.slice none 0 0] 72)));have HX2:=hid (HX1.out.below ((Below.refl w2.heap.size w2).alloc (Nat.le_refl _) (.cells #[.float .f64 om,.slice none 0 0,.slice none 0 0] 72)));have HB2:=hid (zAd HB1.out ((Below.refl w2.heap.size w2).alloc (Nat.le_refl _) (.cells #[.float .f64 om,.slice none 0 0,.slice none 0 0] 72)));have H8:=hid (heap_alloc_new w2 (.cells #[.float .f64 om,.slice none 0 0,.slice none 0 0] 72));have HNE:=hid (show gt < w2.heap.size from (Array.getElem?_eq_some_iff.1 HT1.out).1);clear HT1 HP1 HX1 HB1;generalize w2.alloc (.cells #[.float .f64 om,.slice none 0 0,.slice none 0 0] 72)=w3 at *;generalize w2.heap.size=g8 at *;have HG8:=hid (show gt≤g8 from Nat.le_of_lt HNE.out);refine wp_region_any (by kernel_rfl) ?_;change wpAny _ _ _ _ _ _ _ (World.drew _)
 refine zAy [⟨some 14,0, []⟩,⟨some 15,1, []⟩,⟨some 16,2, []⟩,⟨some 17,3, []⟩,⟨some 18,4, []⟩]
  (fun w'=> w'.heap[gt]? =some (.cells #[.float .f64 0,.slice none 0 0,.slice none 0 0] 72 (0,0))∧w'.heap[g8]? =some (.cells #[.float .f64 om,.slice none 0 0,.slice none 0 0] 72 (0,0))∧VecM w' qx n x M)
  (fun oq v _ _ _ _=> match oq with | 0=> v=.pointer (some ⟨g8,1,none⟩) | 1=> v=.slice none 0 0 | 2=> v=.slice (some ⟨qx,0,none⟩) n n | 3=> v=.int .i64 k | 4=> v=.slice (some ⟨qx,0,none⟩) k n | _=> True) (by kernel_rfl) ?hSp1 (fun _ _ hb h=> ⟨zAm hb h.1,zAm hb h.2.1,h.2.2.below hb⟩) (fun _ _ _ _ _ _ _ _ _ h=> h) ?hopp1 ?hendp1
 case hSp1=> exact ⟨zAm (Below.refl _ _).drew HT2.out,zAm (Below.refl _ _).drew H8.out,HX2.out.below (Below.refl _ _).drew⟩
 case hopp1=>
  delta Owed
  simp only [zBg,Act.put,List.setIfInBounds_toArray,lz,ls];refine Each.cons rfl ?_ (Each.cons rfl ?_ (Each.cons rfl ?_ (Each.cons rfl ?_ (Each.cons rfl ?_ Each.nil))))
  all_goals intro vs w2 hb2 hS2 hR2 K hK;try simp only [lz,ls] at hK⊢
  · go_simp;exact shP hK
  · have h0:vs 0=_:=exR (hR2 0 (by kernel_rfl)) (fun _ _ h=> h);have k1:=(zAb hS2.2.1).1 1 _ rfl;simp only [h0] at hK⊢;go_simp;exact shP hK
  · go_simp;exact shP hK
  · go_simp;exact shP hK
  · have h2:vs 2=_:=exR (hR2 2 (by kernel_rfl)) (fun _ _ h=> h);have h3:vs 3=_:=exR (hR2 3 (by kernel_rfl)) (fun _ _ h=> h);simp only [h2,h3] at hK⊢;go_simp;exact shP hK
 case hendp1=>
  intro vs wx lo hiv hbx hSx hRx hdx;have h0:vs 0=_:=(hRx 0 (by kernel_rfl)).1;have h1:vs 1=_:=(hRx 1 (by kernel_rfl)).1;have h2:vs 2=_:=(hRx 2 (by kernel_rfl)).1;have h3:vs 3=_:=(hRx 3 (by kernel_rfl)).1;have h4:vs 4=_:=(hRx 4 (by kernel_rfl)).1;simp only [zBg,Act.put,List.setIfInBounds_toArray,lz,ls,h0,h1,h2,h3,h4];have hb:=zAq hbx;skip;have HBX:=hid (zAd HB2.out hb);have HSX:=hid hSx;clear hRx hdx hbx hSx hiv hb;refine zAt (i:=5) (by kernel_rfl) rfl (fun K hK=> ?_);rw [if_pos (by rfl)];refine zHm (ops:=#[]) rfl _ _ _ rfl 49 1 16 ic (.complex .f64 0 0) Tryz.underlying70 hic hc0 hc1 hc2 rfl (by decide) (.slice (some ⟨qx,0,none⟩) k n) k ((M.take k).map mkC) (HSX.out.2.2.cut HKN.out) (by rfl) (by rfl) (by intro u hu;obtain ⟨z,_,rfl⟩:=List.mem_map.1 hu;rfl) (by have:=HN.out;have:=HKM.out;unfold maxLen;omega) (by have:=HN.out;have:=HKM.out;omega) ?_;intro v' w' hown hgr;obtain ⟨a1,a1c,rfl⟩:=(IsSl.of_own hown).form;refine hK.out _ _ ?_;clear hK;have hb2:=zCz hgr;skip;have HTx:=hid (zAc hb2 HSX.out.1);have H8xa:=hid (zAc hb2 HSX.out.2.1);have HXx:=hid (HSX.out.2.2.below hb2);have HBx:=hid (zAd HBX.out hb2);have HOxa:=hid (zBs hown HBX.out.size);clear hown hgr hb2 HSX HBX;refine zAt (i:=6) (by kernel_rfl) rfl (fun K hK=> ?_);go_simp;refine hK.out _ _ ?_;clear hK;have cz:=(zAb H8xa.out).1 1 _ rfl;have fz:=(zAb H8xa.out).2 1;refine zAt (i:=7) (by kernel_rfl) rfl (fun K hK=> ?_);go_simp;refine hK.out _ _ ?_;clear hK cz fz;refine wpAny_done (by kernel_rfl) ?_ _;have hgs:=zAj w' g8 1 (.slice a1 k a1c);have HTxb:=hid (zAk hgs (by have:=HNE.out;omega) HTx.out);have H8xb:=hid (zBi (o:=1) H8xa.out (.slice a1 k a1c));have HXxb:=hid (show VecM (w'.setCell ⟨g8,1,none⟩ (.slice a1 k a1c)) qx n x M from ⟨HXx.out.len,zAk hgs (zAv HXx.out.row H8xa.out (by decide)) HXx.out.row,HXx.out.num⟩);have HBxb:=hid (HBx.out.setCell (p:=⟨g8,1,none⟩) (by have h1:=HG8.out;have h2:=HGT.out;dsimp only;omega) (.slice a1 k a1c))
  have HOxb:=hid (zAz HOxa.out hgs (fun r e e2=> by obtain rfl:=Option.some.inj e2;obtain ⟨_,c2,hc2⟩:=zAx HOxa.out e;exact zAv hc2 H8xa.out (by decide) rfl));clear hgs HTx H8xa HXx HBx HOxa;generalize w'.setCell ⟨g8,1,none⟩ (.slice a1 k a1c)=w4 at *;go_upto_region 4 with fail;refine wp_region_any (by kernel_rfl) ?_;change wpAny _ _ _ _ _ _ _ (World.drew _);refine zAy [⟨some 21,0, []⟩,⟨some 22,1, []⟩,⟨some 23,2, []⟩,⟨some 24,3, []⟩,⟨some 25,4, []⟩]
   (fun w'=> w'.heap[gt]? =some (.cells #[.float .f64 0,.slice none 0 0,.slice none 0 0] 72 (0,0))∧w'.heap[g8]? =some (.cells #[.float .f64 om,.slice a1 k a1c,.slice none 0 0] 72 (0,0))∧VecM w' qx n x M)
   (fun oq v _ _ _ _=> match oq with | 0=> v=.pointer (some ⟨g8,2,none⟩) | 1=> v=.slice none 0 0 | 2=> v=.slice (some ⟨qx,0,none⟩) n n | 3=> v=.int .i64 k | 4=> v=.slice (some ⟨qx,ox,none⟩) m m | _=> True) (by kernel_rfl) ?hSp2 (fun _ _ hb h=> ⟨zAm hb h.1,zAm hb h.2.1,h.2.2.below hb⟩) (fun _ _ _ _ _ _ _ _ _ h=> h) ?hopp2 ?hendp2
  case hSp2=> exact ⟨zAm (Below.refl _ _).drew HTxb.out,zAm (Below.refl _ _).drew H8xb.out,HXxb.out.below (Below.refl _ _).drew⟩
  case hopp2=>
   delta Owed
   simp only [zBg,Act.put,List.setIfInBounds_toArray,lz,ls];refine Each.cons rfl ?_ (Each.cons rfl ?_ (Each.cons rfl ?_ (Each.cons rfl ?_ (Each.cons rfl ?_ Each.nil))))
   all_goals intro vs w2 hb2 hS2 hR2 K hK;try simp only [lz,ls] at hK⊢
   · go_simp;exact shP hK
   · have h0:vs 0=_:=exR (hR2 0 (by kernel_rfl)) (fun _ _ h=> h);have k2:=(zAb hS2.2.1).1 2 _ rfl;simp only [h0] at hK⊢;go_simp;exact shP hK
   · go_simp;exact shP hK
   · go_simp;exact shP hK
   · have h2:vs 2=_:=exR (hR2 2 (by kernel_rfl)) (fun _ _ h=> h);have h3:vs 3=_:=exR (hR2 3 (by kernel_rfl)) (fun _ _ h=> h);simp only [h2,h3] at hK⊢;go_simp;exact shP hK
  case hendp2=>
   intro vs wx lo hiv hbx hSx hRx hdx;have h0:vs 0=_:=(hRx 0 (by kernel_rfl)).1;have h1:vs 1=_:=(hRx 1 (by kernel_rfl)).1;have h2:vs 2=_:=(hRx 2 (by kernel_rfl)).1;have h3:vs 3=_:=(hRx 3 (by kernel_rfl)).1;have h4:vs 4=_:=(hRx 4 (by kernel_rfl)).1;simp only [zBg,Act.put,List.setIfInBounds_toArray,lz,ls,h0,h1,h2,h3,h4];have hb:=zAq hbx;have HBW:=hid hb;have HBX:=hid (zAd HBxb.out hb);have HSX:=hid hSx;clear hRx hdx hbx hSx hiv hb;refine zAt (i:=5) (by kernel_rfl) rfl (fun K hK=> ?_);rw [if_pos (by rfl)];refine zHm (ops:=#[]) rfl _ _ _ rfl 49 1 16 ic (.complex .f64 0 0) Tryz.underlying70 hic hc0 hc1 hc2 rfl (by decide) (.slice (some ⟨qx,ox,none⟩) m m) m ((M.drop k).map mkC) ((by have h:=HSX.out.2.2.cutr HKN.out HOX.out;rw [show n - k=m by have:=HKM.out;omega] at h;exact h)) (by rfl) (by rfl) (by intro u hu;obtain ⟨z,_,rfl⟩:=List.mem_map.1 hu;rfl) (by have:=HN.out;have:=HKM.out;unfold maxLen;omega) (by have:=HN.out;have:=HKM.out;omega) ?_;intro v' w' hown hgr;obtain ⟨a2,a2c,rfl⟩:=(IsSl.of_own hown).form;refine hK.out _ _ ?_;clear hK;have hb2:=zCz hgr;have HO4:=hid (zBa (zBa HOxb.out (zAe HBW.out none)) hgr);have HTy:=hid (zAc hb2 HSX.out.1);have H8ya:=hid (zAc hb2 HSX.out.2.1);have HXy:=hid (HSX.out.2.2.below hb2);have HBy:=hid (zAd HBX.out hb2);have HOya:=hid (zBs hown HBX.out.size);clear hown hgr hb2 HSX HBX;refine zAt (i:=6) (by kernel_rfl) rfl (fun K hK=> ?_);go_simp;refine hK.out _ _ ?_;clear hK;have cz:=(zAb H8ya.out).1 2 _ rfl;have fz:=(zAb H8ya.out).2 2;refine zAt (i:=7) (by kernel_rfl) rfl (fun K hK=> ?_);go_simp;refine hK.out _ _ ?_;clear hK cz fz;refine wpAny_done (by kernel_rfl) ?_ _;have hgs:=zAj w' g8 2 (.slice a2 m a2c);have HTyb:=hid (zAk hgs (by have:=HNE.out;omega) HTy.out);have H8yb:=hid (zBi (o:=2) H8ya.out (.slice a2 m a2c));have HXyb:=hid (show VecM (w'.setCell ⟨g8,2,none⟩ (.slice a2 m a2c)) qx n x M from ⟨HXy.out.len,zAk hgs (zAv HXy.out.row H8ya.out (by decide)) HXy.out.row,HXy.out.num⟩)
   have HByb:=hid (HBy.out.setCell (p:=⟨g8,2,none⟩) (by have h1:=HG8.out;have h2:=HGT.out;dsimp only;omega) (.slice a2 m a2c));have HOyb:=hid (zAz HOya.out hgs (fun r e e2=> by obtain rfl:=Option.some.inj e2;obtain ⟨_,c2,hc2⟩:=zAx HOya.out e;exact zAv hc2 H8ya.out (by decide) rfl));have HO5:=hid (zAz HO4.out hgs (fun r e e2=> by obtain rfl:=Option.some.inj e2;obtain ⟨_,c2,hc2⟩:=zAx HO4.out e;exact zAv hc2 H8ya.out (by decide) rfl));clear HO4 HBW HOxb;clear hgs HTy H8ya HXy HBy HOya;generalize w'.setCell ⟨g8,2,none⟩ (.slice a2 m a2c)=w5 at *;have hbk:=zAb H8yb.out;have q0:=hbk.1 0 _ rfl;have q1:=hbk.1 1 _ rfl;have q2:=hbk.1 2 _ rfl;clear hbk;have hbk:=zAb HTyb.out;have t0:=hbk.1 0 _ rfl;have t1:=hbk.1 1 _ rfl;have t2:=hbk.1 2 _ rfl;have tf0:=hbk.2 0;have tf1:=hbk.2 1;have tf2:=hbk.2 2;clear hbk;go_wp2
   (try simp only [Exit.inBlock,Exit.then])
   (try rw [Exit.noGoto_ret])
   have hgs:=zAf (zAf (zAj w5 gt 0 (.float .f64 om)) (zAj _ gt 1 (.slice a1 k a1c))) (zAj _ gt 2 (.slice a2 m a2c));refine bodyPost_ret (v:=.agg #[.float .f64 om,.slice a1 k a1c,.slice a2 m a2c]) ?_ rfl ⟨_,_,M.take k,M.drop k,rfl,?_,?_,HXyb.out.first HKN.out,HXyb.out.last HKM.out,((HByb.out.setCell (p:=⟨gt,0,none⟩) (Nat.le_of_eq HGT.out) _).setCell (p:=⟨gt,1,none⟩) (Nat.le_of_eq HGT.out) _).setCell (p:=⟨gt,2,none⟩) (Nat.le_of_eq HGT.out) _⟩
   · first | (rw [results_cell rfl];go_simp;done) | (unfold results;go_simp;done)
   · exact zAz HO5.out hgs (fun r e e2=> by obtain rfl:=Option.some.inj e2;obtain ⟨_,c2,hc2⟩:=zAx HO5.out e;exact zAv hc2 HTyb.out (by decide) rfl)
   · exact zAz HOyb.out hgs (fun r e e2=> by obtain rfl:=Option.some.inj e2;obtain ⟨_,c2,hc2⟩:=zAx HOyb.out e;exact zAv hc2 HTyb.out (by decide) rfl)
theorem RLw.alt {P:Nat→Prop} {B g n m mo:Nat} {w w':World} {vR vO:Value} {V:Nat→Value} {M:Nat→List Cx} {ord:List Int} {odd ties:Bool} (h:RLw B w g vR vO n m mo V M ord odd ties) (ha:AltB P w w')
 (hP:∀k,P k→∃cs t,w.heap[k]? =some (.cells cs t (0,0))∧t≠155 ∧t≠70 ∧t≠3 ∧t≠49):RLw B w' g vR vO n m mo V M ord odd ties:=by
 have key:∀ {k:Nat} {cs:Array Value} {t:TypeId},w.heap[k]? =some (.cells cs t (0,0))→(t=155 ∨t=70 ∨t=3 ∨t=49)→¬P k:=by
  intro k cs t hk ht hp;obtain ⟨cs',t',h1,h2,h3,h4,h5⟩:=hP k hp;rw [hk] at h1;cases h1;rcases ht with h | h | h | h
  · exact h2 h
  · exact h3 h
  · exact h4 h
  · exact h5 h
 exact ⟨h.gB,ha.heap (key h.box (.inl rfl)) h.box,ha.own h.oR (fun r hr=> by obtain ⟨_,c,hc⟩:=zAx h.oR hr;exact key hc (.inr (.inl rfl))),
  ha.own h.oO (fun r hr=> by obtain ⟨_,c,hc⟩:=zAx h.oO hr;exact key hc (.inr (.inr (.inl rfl)))),fun j hj=> ha.own (h.row j hj) (fun r hr=> by obtain ⟨_,c,hc⟩:=zAx (h.row j hj) hr;exact key hc (.inr (.inr (.inr rfl)))),h.len,h.inj⟩
def RetSys (n:Nat) (S:Option Es × (Int × Int)) (w:World) (e:Ending) (w':World):Prop:=
 ∃ (r0 r1:Int) (am:Option Addr) (lm cm:Nat) (p:Option Addr),e=.returned (.tuple #[.agg #[.int .i64 r0,.int .i64 r1,.slice am lm cm],.pointer p,.agg #[.int .i64 S.2.1,.int .i64 S.2.2]])∧Below w.heap.size w w'∧
  (S.1=none∨∃s g vR vO V M ord odd ties,S.1=some s∧Value.pointer p=.pointer (some ⟨g,0,none⟩)∧RLw w.heap.size w' g vR vO n n n V M ord odd ties∧RLs n s M ord odd)
theorem below_fiveD {B gt:Nat} {w u:World} {a0 a1 a2 b0 b1:Value} (h:Below B w u) (hg:B≤gt):Below B w ((((((u.setCell ⟨gt,0,none⟩ a0).setCell ⟨gt,1,none⟩ a1).setCell ⟨gt,2,none⟩ a2).setCell ⟨gt+1,0,none⟩ b0).setCell ⟨gt+1,1,none⟩ b1).drew):=(zBk h hg).drew
theorem alt_five {gt:Nat} {u:World} {a0 a1 a2 b0 b1:Value}:AltB (fun k=> k=gt∨k=gt+1) u ((((((u.setCell ⟨gt,0,none⟩ a0).setCell ⟨gt,1,none⟩ a1).setCell ⟨gt,2,none⟩ a2).setCell ⟨gt+1,0,none⟩ b0).setCell ⟨gt+1,1,none⟩ b1).drew):=
 ((((((AltB.refl _ u).set (.inl rfl)).set (.inl rfl)).set (.inl rfl)).set (.inr rfl)).set (.inr rfl)).drew
theorem rsystem_any (p:Value) (l:List El) (om:Nat) (w:World) (hp:RN w p l) (hq:zAw p=false) (hg:NetG l):
 Calls Tryz.prog 134 #[p,.float .f64 om] w (RetSys (szL l) (zGm l om) w):=by
 obtain ⟨t1,t2,t3⟩:=zDk w (.cells #[.int .i64 0,.int .i64 0,.slice none 0 0] 99) (.cells #[.int .i64 0,.int .i64 0] 32);have HT:=hid t1;have HU:=hid t2;have HBO:=hid t3;have HP:=hid (hp.below t3 (Nat.le_refl _));have HQ:=hid hq;have HG:=hid hg;clear hp hq hg t1 t2 t3;go_enter Tryz.func134,Tryz.ntmps134;go_upto_region 1 with fail;generalize (w.alloc (.cells #[.int .i64 0,.int .i64 0,.slice none 0 0] 99)).alloc (.cells #[.int .i64 0,.int .i64 0] 32)=w1 at *;obtain ⟨gt,hgt⟩:∃gt,w.heap.size=gt:=⟨_,rfl⟩;rw [hgt] at HT HU⊢;have HGT:=hid hgt;clear hgt;obtain ⟨f1,f2,hf⟩:∃f1 f2,grdS false l=(f1,f2):=⟨_,_,rfl⟩;have HF:=hid hf;clear hf;go_upto_region 2 with (go_at_call 131;refine (rgrounded_any p l _ HP.out (by have:=HG.out.len;omega) HG.out.ck).mono ?_;rintro e w2 ⟨rfl,hb⟩;have HT1:=hid (zAc hb HT.out);have HU1:=hid (zAc hb HU.out);have HP1:=hid (HP.out.below' hb);have HB1:=hid (zAd HBO.out hb);rw [HQ.out,HF.out];(try dsimp only);clear hb);clear HT HU HP HBO;have HT2:=hid (zAc ((Below.refl w2.heap.size w2).alloc (Nat.le_refl _) (.cells #[.int .i64 f1,.int .i64 f2] 32)) HT1.out);have HU2:=hid (zAc ((Below.refl w2.heap.size w2).alloc (Nat.le_refl _) (.cells #[.int .i64 f1,.int .i64 f2] 32)) HU1.out);have HP2:=hid (HP1.out.below' ((Below.refl w2.heap.size w2).alloc (Nat.le_refl _) (.cells #[.int .i64 f1,.int .i64 f2] 32)));have HB2:=hid (zAd HB1.out ((Below.refl w2.heap.size w2).alloc (Nat.le_refl _) (.cells #[.int .i64 f1,.int .i64 f2] 32)));have H6:=hid (heap_alloc_new w2 (.cells #[.int .i64 f1,.int .i64 f2] 32));have HNE:=hid (show gt+1 < w2.heap.size from (Array.getElem?_eq_some_iff.1 HU1.out).1);clear HT1 HU1 HP1 HB1
 generalize w2.alloc (.cells #[.int .i64 f1,.int .i64 f2] 32)=w3 at *;generalize w2.heap.size=g6 at *;rcases zBw (f1,f2) with hz | ⟨hnz,hw⟩
 rotate_left
 · have HW:=hid (show zGm l om=(none,(f1,f2)) by unfold zGm;rw [HF.out,if_pos hnz]);dsimp only at hw;clear hnz;rcases hw with q1 | ⟨q1,q0,q2⟩
   all_goals
    have hbk:=zAb HT2.out;have t0:=hbk.1 0 _ rfl;have t1:=hbk.1 1 _ rfl;have t2:=hbk.1 2 _ rfl;have tf0:=hbk.2 0;have tf1:=hbk.2 1;have tf2:=hbk.2 2;clear hbk;have hbk:=zAb HU2.out;have u0:=hbk.1 0 _ rfl;have u1:=hbk.1 1 _ rfl;have uf0:=hbk.2 0;have uf1:=hbk.2 1;clear hbk;have hbk:=zAb H6.out;have v0:=hbk.1 0 _ rfl;have v1:=hbk.1 1 _ rfl;have vf0:=hbk.2 0;have vf1:=hbk.2 1;clear hbk;have hgne:=zAv HT2.out H6.out (by decide);have ko:∀ (u:World) (o q:Nat) (v:Value),(u.setCell ⟨gt,o,none⟩ v).cell? ⟨g6,q,none⟩=u.cell? ⟨g6,q,none⟩:=fun u o q v=> World.cell?_setCell_other u _ _ v (fun e=> hgne (congrArg Addr.block e))
    go_upto_region 3 with fail;go_region_with fail
    all_goals (go_wp2_with fail)
    all_goals (try simp only [Exit.inBlock,Exit.then])
    all_goals (try rw [Exit.noGoto_ret])
    all_goals (refine bodyPost_ret (v:=.tuple #[.agg #[.int .i64 0,.int .i64 0,.slice none 0 0],.pointer none,.agg #[.int .i64 f1,.int .i64 f2]]) ?_ rfl ⟨_,_,_,_,_,_,by rw [HW.out],?_,.inl (by rw [HW.out])⟩)
    all_goals first
     | (rw [zEw rfl];go_simp;rfl)
     | (rw [zEw rfl];go_simp;done)
     | (exact below_fiveD HB2.out (Nat.le_of_eq HGT.out))
 obtain ⟨hz1,hz2⟩:=Prod.mk.inj hz;subst hz1 hz2;clear hz;have hbk:=zAb H6.out;have v0:=hbk.1 0 _ rfl;have v1:=hbk.1 1 _ rfl;have vf0:=hbk.2 0;have vf1:=hbk.2 1;clear hbk;obtain ⟨r1,D1,e1,a1,hS⟩:∃r D e a,matS false l om=((r,D),(e,a)):=⟨_,_,_,_,rfl⟩;have HS:=hid hS;clear hS;go_upto_region 5 with (go_at_call 52;refine (((rmx_any p l om _ HP2.out HQ.out HG.out).mono fun _ _ h=> RetMz.of HS.out h)).mono ?_;rintro e w4 ⟨v1,xs,rfl,hxs,hown,hb⟩;have HT3:=hid (zAc hb HT2.out);have HU3:=hid (zAc hb HU2.out);have H63:=hid (zAc hb H6.out);have HB3:=hid (zAd HB2.out hb);have HX:=hid hxs;have HO:=hid hown;obtain ⟨am,cm,rfl⟩:=(IsSl.of_own hown).form;clear hxs hown;clear v0 v1 vf0 vf1;have hbk:=fun o:Obj=> zAb (zAc ((Below.refl w4.heap.size w4).alloc (Nat.le_refl _) o) H63.out);have v0:=fun o=> (hbk o).1 0 _ rfl;have v1':=fun o=> (hbk o).1 1 _ rfl;have vf0:=fun o=> (hbk o).2 0;have vf1:=fun o=> (hbk o).2 1;clear hbk;clear hb);clear v0 v1' vf0 vf1 HT2 HU2 H6 HB2 HP2;have HT4:=hid (zAc ((Below.refl w4.heap.size w4).alloc (Nat.le_refl _) (.cells #[.int .i64 r1,.int .i64 r1,.slice am xs.length cm] 99)) HT3.out);have HU4:=hid (zAc ((Below.refl w4.heap.size w4).alloc (Nat.le_refl _) (.cells #[.int .i64 r1,.int .i64 r1,.slice am xs.length cm] 99)) HU3.out);have H64:=hid (zAc ((Below.refl w4.heap.size w4).alloc (Nat.le_refl _) (.cells #[.int .i64 r1,.int .i64 r1,.slice am xs.length cm] 99)) H63.out);have HO4:=hid (zBa HO.out (zAe ((Below.refl w4.heap.size w4).alloc (Nat.le_refl _) (.cells #[.int .i64 r1,.int .i64 r1,.slice am xs.length cm] 99)) none));have HB4:=hid (zAd HB3.out ((Below.refl w4.heap.size w4).alloc (Nat.le_refl _) (.cells #[.int .i64 r1,.int .i64 r1,.slice am xs.length cm] 99)));have H7:=hid (heap_alloc_new w4 (.cells #[.int .i64 r1,.int .i64 r1,.slice am xs.length cm] 99))
 clear HT3 HU3 H63 HO HB3;generalize w4.alloc (.cells #[.int .i64 r1,.int .i64 r1,.slice am xs.length cm] 99)=w5 at *;generalize w4.heap.size=g7 at *;have hgr:w5.grownBy ((w5.setCell ⟨g6,0,none⟩ (.int .i64 e1)).setCell ⟨g6,1,none⟩ (.int .i64 a1)) (some g6):=zAf (zAj w5 g6 0 _) (zAj _ g6 1 _);have HTr4:=hid (zAk hgr (zAv HT4.out H64.out (by decide)) HT4.out);have HUr4:=hid (zAk hgr (by have:=HNE.out;omega) HU4.out);have H6r4:Hid (((w5.setCell ⟨g6,0,none⟩ (.int .i64 e1)).setCell ⟨g6,1,none⟩ (.int .i64 a1)).heap[g6]? =some (.cells #[.int .i64 e1,.int .i64 a1] 32 (0,0))):=hid (zBi (zBi H64.out _) _);have H7r4:=hid (zAk hgr (zAv H7.out H64.out (by decide)) H7.out);have HOr4:=hid (zAz HO4.out hgr (fun r e e2=> by obtain rfl:=Option.some.inj e2;obtain ⟨_,c2,hc2⟩:=zAx HO4.out e;exact zAv hc2 H64.out (by decide) rfl));have HBr4:=hid ((HB4.out.setCell (p:=⟨g6,0,none⟩) (by have:=HNE.out;have:=HGT.out;dsimp only;omega) (.int .i64 e1)).setCell (p:=⟨g6,1,none⟩) (by have:=HNE.out;have:=HGT.out;dsimp only;omega) (.int .i64 a1));clear hgr HT4 HU4 H64 HO4 H7 HB4;generalize ((w5.setCell ⟨g6,0,none⟩ (.int .i64 e1)).setCell ⟨g6,1,none⟩ (.int .i64 a1))=w6 at *;rcases zBw (e1,a1) with hz | ⟨hnz,hw⟩
 rotate_left
 · have HW:=hid (show zGm l om=(none,(e1,a1)) by unfold zGm;rw [HF.out,if_neg (fun h=> h rfl),HS.out,if_pos hnz]);dsimp only at hw;clear hnz;rcases hw with q1 | ⟨q1,q0,q2⟩
   all_goals
    have hbk:=zAb HTr4.out;have t0:=hbk.1 0 _ rfl;have t1:=hbk.1 1 _ rfl;have t2:=hbk.1 2 _ rfl;have tf0:=hbk.2 0;have tf1:=hbk.2 1;have tf2:=hbk.2 2;clear hbk;have hbk:=zAb HUr4.out;have u0:=hbk.1 0 _ rfl;have u1:=hbk.1 1 _ rfl;have uf0:=hbk.2 0;have uf1:=hbk.2 1;clear hbk;have hbk:=zAb H6r4.out;have v0:=hbk.1 0 _ rfl;have v1:=hbk.1 1 _ rfl;have vf0:=hbk.2 0;have vf1:=hbk.2 1;clear hbk;have hgne:=zAv HTr4.out H6r4.out (by decide);have ko:∀ (u:World) (o q:Nat) (v:Value),(u.setCell ⟨gt,o,none⟩ v).cell? ⟨g6,q,none⟩=u.cell? ⟨g6,q,none⟩:=fun u o q v=> World.cell?_setCell_other u _ _ v (fun e=> hgne (congrArg Addr.block e))
    go_upto_region 6 with fail;go_region_with fail
    all_goals (go_wp2_with fail)
    all_goals (try simp only [Exit.inBlock,Exit.then])
    all_goals (try rw [Exit.noGoto_ret])
    all_goals (refine bodyPost_ret (v:=.tuple #[.agg #[.int .i64 0,.int .i64 0,.slice none 0 0],.pointer none,.agg #[.int .i64 e1,.int .i64 a1]]) ?_ rfl ⟨_,_,_,_,_,_,by rw [HW.out],?_,.inl (by rw [HW.out])⟩)
    all_goals first
     | (rw [zEw rfl];go_simp;rfl)
     | (rw [zEw rfl];go_simp;done)
     | (exact below_fiveD HBr4.out (Nat.le_of_eq HGT.out))
 obtain ⟨hz1,hz2⟩:=Prod.mk.inj hz;subst hz1 hz2;clear hz;obtain ⟨c1,c2,c3⟩:=mat_sq (om:=om) (l:=l) (n:=r1) (xs:=xs) (by rw [HX.out];have h:=mat_kz (l:=l) (om:=om) (by rw [HS.out]);rw [HS.out] at h;exact h);have HNZ:=hid c1;have HXL:=hid c2;have HMK:=hid c3;have hr64:r1≤64:=by rw [c1];exact HG.out.sz
 have HR64:=hid hr64;clear c1 c2 c3 hr64;obtain ⟨So,s1,s2,hlow⟩:∃So s1 s2,lowM (szL l) (matK l om l.length)=(So,(s1,s2)):=⟨_,_,_,rfl⟩;have HLOW:=hid hlow;clear hlow;have HW:=hid (show zGm l om=(So,(s1,s2)) by unfold zGm;rw [HF.out,if_neg (fun h=> h rfl),HS.out,if_neg (fun h=> h rfl),HLOW.out]);have hbk:=zAb H6r4.out;have v0:=hbk.1 0 _ rfl;have v1:=hbk.1 1 _ rfl;have vf0:=hbk.2 0;have vf1:=hbk.2 1;clear hbk;go_upto_region 7 with fail;clear v0 v1 vf0 vf1;have hbk:=zAb H7r4.out;have m0:=hbk.1 0 _ rfl;have m1:=hbk.1 1 _ rfl;have m2:=hbk.1 2 _ rfl;clear hbk;go_upto_region 8 with (go_at_call 53;refine (rlowof_any r1 xs.length (.slice am xs.length cm) xs (matK l om l.length) _ (IsSl.of_own HOr4.out) HR64.out HXL.out HMK.out).mono ?_;rintro e w7 ⟨p',hpe,hb,hcs⟩;have HT5:=hid (zAc hb HTr4.out);have HU5:=hid (zAc hb HUr4.out);have H65:=hid (zAc hb H6r4.out);have H75:=hid (zAc hb H7r4.out);have HB5:=hid (zAd HBr4.out hb);have HLE6:=hid (show w.heap.size≤w6.heap.size from HBr4.out.size);rw [HNZ.out,HLOW.out] at hpe hcs;dsimp only at hpe hcs;subst hpe;have HCS:=hid hcs;clear hcs;have hbk:=zAb H65.out;have v0:=hbk.1 0 _ rfl;have v1:=hbk.1 1 _ rfl;have vf0:=hbk.2 0;have vf1:=hbk.2 1;clear hbk;clear hb);clear v0 v1 vf0 vf1 m0 m1 m2 HTr4 HUr4 H6r4 H7r4 HBr4 HOr4;obtain ⟨pa,rfl⟩:∃pa:Option Addr,p'=.pointer pa:=by
  rcases HCS.out with ⟨_,h⟩ | ⟨_,_,_,_,_,_,_,_,_,_,h,_⟩
  · exact ⟨_,h⟩
  · exact ⟨_,h⟩
 have hgr:w7.grownBy ((w7.setCell ⟨g6,0,none⟩ (.int .i64 s1)).setCell ⟨g6,1,none⟩ (.int .i64 s2)) (some g6):=zAf (zAj w7 g6 0 _) (zAj _ g6 1 _);have HTr5:=hid (zAk hgr (zAv HT5.out H65.out (by decide)) HT5.out);have HUr5:=hid (zAk hgr (by have:=HNE.out;omega) HU5.out);have H6r5:Hid (((w7.setCell ⟨g6,0,none⟩ (.int .i64 s1)).setCell ⟨g6,1,none⟩ (.int .i64 s2)).heap[g6]? =some (.cells #[.int .i64 s1,.int .i64 s2] 32 (0,0))):=hid (zBi (zBi H65.out _) _);have H7r5:=hid (zAk hgr (zAv H75.out H65.out (by decide)) H75.out);have HBr5:=hid ((HB5.out.setCell (p:=⟨g6,0,none⟩) (by have:=HNE.out;have:=HGT.out;dsimp only;omega) (.int .i64 s1)).setCell (p:=⟨g6,1,none⟩) (by have:=HNE.out;have:=HGT.out;dsimp only;omega) (.int .i64 s2));have HFIN:=hid (show∀W:World,AltB (fun k=> k=gt∨k=gt+1) ((w7.setCell ⟨g6,0,none⟩ (.int .i64 s1)).setCell ⟨g6,1,none⟩ (.int .i64 s2)) W→(So=none∨∃s g vR vO V M ord odd ties,So=some s∧.pointer pa=Value.pointer (some ⟨g,0,none⟩)∧RLw w.heap.size W g vR vO (szL l) (szL l) (szL l) V M ord odd ties∧RLs (szL l) s M ord odd) from fun W ha=> by
  rcases HCS.out with ⟨h1,_⟩ | ⟨s,g,vR,vO,V,M,ord,odd,ties,h1,h2,h3,h4⟩
  · exact .inl h1
  · refine .inr ⟨s,g,vR,vO,V,M,ord,odd,ties,h1,h2,((h3.fault H65.out _ _).alt ha (fun k hk=> ?_)).base HLE6.out,h4⟩;rcases hk with rfl | rfl
    · exact ⟨_,_,HTr5.out,by decide,by decide,by decide,by decide⟩
    · exact ⟨_,_,HUr5.out,by decide,by decide,by decide,by decide⟩)
 clear hgr HT5 HU5 H65 H75 HB5;generalize ((w7.setCell ⟨g6,0,none⟩ (.int .i64 s1)).setCell ⟨g6,1,none⟩ (.int .i64 s2))=w8 at *;have hbk:=zAb HTr5.out;have t0:=hbk.1 0 _ rfl;have t1:=hbk.1 1 _ rfl;have t2:=hbk.1 2 _ rfl;have tf0:=hbk.2 0;have tf1:=hbk.2 1;have tf2:=hbk.2 2;clear hbk;have hbk:=zAb HUr5.out;have u0:=hbk.1 0 _ rfl;have u1:=hbk.1 1 _ rfl;have uf0:=hbk.2 0;have uf1:=hbk.2 1;clear hbk;have hbk:=zAb H6r5.out;have v0:=hbk.1 0 _ rfl;have v1:=hbk.1 1 _ rfl;have vf0:=hbk.2 0;have vf1:=hbk.2 1;clear hbk;have hbk:=zAb H7r5.out;have m0:=hbk.1 0 _ rfl;have m1:=hbk.1 1 _ rfl;have m2:=hbk.1 2 _ rfl;have mf0:=hbk.2 0;have mf1:=hbk.2 1;have mf2:=hbk.2 2;clear hbk;have hgne:=zAv HTr5.out H6r5.out (by decide);have ko:∀ (u:World) (o q:Nat) (v:Value),(u.setCell ⟨gt,o,none⟩ v).cell? ⟨g6,q,none⟩=u.cell? ⟨g6,q,none⟩:=fun u o q v=> World.cell?_setCell_other u _ _ v (fun e=> hgne (congrArg Addr.block e))
 go_region_with fail
 all_goals (go_wp2_with fail)
 all_goals (try simp only [Exit.inBlock,Exit.then])
 all_goals (try rw [Exit.noGoto_ret])
 all_goals (refine bodyPost_ret (v:=.tuple #[.agg #[.int .i64 r1,.int .i64 r1,.slice am xs.length cm],.pointer pa,.agg #[.int .i64 s1,.int .i64 s2]]) ?_ rfl ⟨_,_,_,_,_,_,by rw [HW.out],?_,?_⟩)
 all_goals first
  | (rw [zEw rfl];go_simp;rfl)
  | (rw [zEw rfl];go_simp;done)
  | (exact below_fiveD HBr5.out (Nat.le_of_eq HGT.out))
  | (rw [HW.out];exact HFIN.out _ alt_five)
end Go.Proofs.YtejooaeppcjhjaaGreat
