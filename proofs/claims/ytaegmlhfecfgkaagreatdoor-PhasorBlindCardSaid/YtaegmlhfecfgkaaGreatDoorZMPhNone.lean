/- a part of the proof of the last text -/
import Derived.Test.YtaegmlhfecfgkaaGreatDoorZMPhw2
namespace Go.Proofs.YtaegmlhfecfgkaaGreatDoor
set_option linter.all false
set_option maxHeartbeats 4000000
set_option maxRecDepth 100000
section
open Go.RowKit
def RetLaid (om k m:Nat) (x:Nat→Cx) (w:World) (e:Ending) (w':World):Prop:=
 ∃q1 q2:Nat,e=.returned (.agg #[.float .f64 om,.slice (some ⟨q1,0,none⟩) k k,.slice (some ⟨q2,0,none⟩) m m])∧w.heap.size≤q1∧w.heap.size≤q2∧q1≠q2∧VecR w' q1 k x∧VecR w' q2 m (fun i=> x (k+i))∧Below w.heap.size w w'
theorem cut_to {a:Addr} {nn c k:Nat} (hk:k≤c) (w':World):(Instr.sliceAt 33 (.slice (some a) nn c) none (some (.int .i64 k)) none).run Tryz.prog w'=.ok (.slice (some a) k c) w':=by
 obtain ⟨i0,hi,hz0,hz1,hz2⟩:=info_parts infoC;have he:Tryz.prog.elem 33 =43 :=by have:=Tryz.underlying33;simp [Program.elem,this]
 have hu:Tryz.prog.underlying 33 =some (.slice (Tryz.prog.elem 33)):=by rw [he];exact Tryz.underlying33
 have h:=run_slice_h w' 33 (some a) nn c hu .i64 k (by omega) (by omega);have h2:=run_sliceAt_slice w' 33 (.slice (some a) nn c) none (some (.int .i64 k)) none hu;rw [h2,h,he]
 simp [sizeOf,typeInfo,hi,hz1,sliced,Result.andThen,Addr.add]
theorem cut_rest {a:Addr} {nn k:Nat} (hk:k≤nn):∃b:Option Addr,(k < nn→b=some (a.add k))∧∀w',(Instr.sliceAt 33 (.slice (some a) nn nn) (some (.int .i64 k)) none none).run Tryz.prog w'=.ok (.slice b (nn - k) (nn - k)) w':=by
 obtain ⟨i0,hi,hz0,hz1,hz2⟩:=info_parts infoC;have he:Tryz.prog.elem 33 =43 :=by have:=Tryz.underlying33;simp [Program.elem,this]
 have hu:Tryz.prog.underlying 33 =some (.slice (Tryz.prog.elem 33)):=by rw [he];exact Tryz.underlying33
 refine ⟨if nn=k then some a else some (a.add k),fun h=> if_neg (by omega),fun w'=> ?_⟩;have h:=run_slice_l w' 33 (some a) nn nn hu .i64 k (by omega) (by omega);have h2:=run_sliceAt_slice w' 33 (.slice (some a) nn nn) (some (.int .i64 k)) none none hu;rw [h2,h,he]
 simp [sizeOf,typeInfo,hi,hz1,sliced,Result.andThen]
theorem add_flat (b k j:Nat):(⟨b,k,none⟩:Addr).add j=⟨b,k+j,none⟩:=by unfold Addr.add;split <;> simp_all
theorem splice_len {n:Nat} {cs ds:List Value} (h:cs.length=n) (h2:ds.length=n):Go.splice ds 0 cs=cs:=splice_all h h2
theorem wpList_copy_grown {P:Program} {w:World} {ops:Array Oper} {rest:List Oper} {o:Oper} {a:Act} {Q:Exit→Act→World→Prop} (hgd:o.guard=none) (d s:Operand) (dT sT:TypeId)
 (ho:o.op=.call {callee:=.builtin .copy,args:=#[d,s],argTypes:=#[dT,sT]}) (elem:TypeId) (hu:P.underlying dT=some (.slice elem)) (hsz:(P.info? elem).map (·.size)=some 1)
 (dp sp:Option Addr) (dLen dCap sLen sCap:Nat) (hd:a.eval d=.slice dp dLen dCap) (hs:a.eval s=.slice sp sLen sCap)
 (g off:Nat) (cur:List Value) (t:TypeId) (hg:w.heap[g]? =some (.cells cur.toArray t (0,0))) (cs:List Value) (hn:cs.length=Nat.min sLen dLen)
 (hpos:0 < cs.length→dp=some ⟨g,off,none⟩∧∃ad,sp=some ad∧∀j v,cs[j]? =some v→w.cell? (ad.add j)=some v)
 (hfit:off+cs.length≤cur.length) (h1:∀v∈cs,v.oneCell'=true)
 (h:∀w',Hid (w'.heap[g]? =some (.cells (Go.splice cur off cs).toArray t (0,0)))→w.grownBy w' (some g)→wpList P ops Q rest (a.put o.dst (goInt cs.length)) w'):
 wpList P ops Q (o::rest) a w:=by
 by_cases h0:cs.length=0
 · obtain rfl:cs= []:=List.eq_nil_of_length_eq_zero h0;refine wpList_copy_nothing hgd d s dT sT ho elem hu hsz dp sp dLen dCap sLen sCap hd hs (by simpa using hn.symm) ?_;exact h w (show _=_ by simpa [Go.splice] using hg) (World.grownBy.refl _ _)
 · obtain ⟨rfl,ad,rfl,hsrc⟩:=hpos (by omega);refine wpList_copy_own hgd d s dT sT ho elem hu hsz g off dLen dCap ad sLen sCap hd hs cur.toArray t hg cs hn hsrc (by simpa using hfit) h1 ?_;exact h _ (show _=_ by simpa [Go.splice] using setRow_heap w g _ _ t _ hg) ⟨rfl,rfl,rfl,by simp [World.setRow],fun k _ hk=> setRow_other w g k _ (fun e=> hk (by rw [e]))⟩
theorem VecM.cell {w:World} {b n j:Nat} {r:Nat→Cx} {M:List Cx} (h:VecM w b n r M) (hj:j < n):w.cell? ⟨b,j,none⟩=some (mkC (M.getD j (0,0))):=by
 have h2:(M.map mkC)[j]? =some (mkC (M.getD j (0,0))):=by
  rw [List.getElem?_map,List.getD_eq_getElem?_getD,List.getElem?_eq_getElem (by rw [h.len];exact hj)];rfl
 exact (block_cells h.row).1 j _ (by simpa using h2)
theorem VecM.grow {w w':World} {b n g:Nat} {r:Nat→Cx} {M:List Cx} (h:VecM w b n r M) (hg:w.grownBy w' (some g)) (hne:b≠g):VecM w' b n r M:=⟨h.len,heap_nextG hg hne h.row,h.num⟩
theorem vec_of {w:World} {b n:Nat} {r:Nat→Cx} {M:List Cx} {cs:List Value} (h:w.heap[b]? =some (.cells cs.toArray 43 (0,0))) (hc:cs=M.map mkC) (hl:M.length=n) (hr:∀i,i < n→ck (M.getD i (0,0))=r i):VecR w b n r:=⟨M,hl,by rw [←hc];exact h,hr⟩
def MkC (n:Nat) (v:Value) (w:World) (lo hi:Nat):Prop:=∃b,v=.slice (some ⟨b,0,none⟩) n n∧lo≤b∧b < hi∧w.heap[b]? =some (.cells (zrow n) 43 (0,0))
theorem MkC.later {n lo hi:Nat} {v:Value} {w w':World} (h:MkC n v w lo hi) (hb:Below w.heap.size w w'):MkC n v w' lo hi:=by
 obtain ⟨b,h1,h2,h3,h4⟩:=h;exact ⟨b,h1,h2,h3,heap_laterS hb h4⟩
def ZS (v:Value) (w:World) (lo hi:Nat):Prop:=BlkD (.cells #[.float .f64 0,.slice none 0 0,.slice none 0 0] 35) v w lo hi
theorem ZS.later {v:Value} {w w':World} {lo hi:Nat} (h:ZS v w lo hi) (hb:Below w.heap.size w w'):ZS v w' lo hi:=BlkD.later h hb
theorem laid_any (p:Value) (l:List El) (om qx k n m:Nat) (x:Nat→Cx) (w:World) (hp:NN w p l) (hg:NetG l) (hk:(nds l).length=k) (hkm:n=k+m) (hn:n≤64) (hx:VecR w qx n x):
 Calls Tryz.prog 53 #[p,.float .f64 om,.slice (some ⟨qx,0,none⟩) n n] w (RetLaid om k m x w):=by
 obtain ⟨M,hM⟩:=hx;obtain ⟨ic,hic,hc0,hc1,hc2⟩:=info_parts infoC;have hb1:=(Below.refl w.heap.size w).alloc (Nat.le_refl _) (.cells #[.float .f64 0,.slice none 0 0,.slice none 0 0] 35);have HBO:=hid hb1;have HT:=hid (heap_alloc_new w (.cells #[.float .f64 0,.slice none 0 0,.slice none 0 0] 35));have HP:=hid (hp.below hb1 (Nat.le_refl _));have HX:=hid (hM.below hb1);have HG:=hid hg;have HK:=hid hk;have HKM:=hid hkm;have HN:=hid hn;have HWS:=hid (show w.heap.size=w.heap.size from rfl);clear hp hg hk hkm hn hM hb1;go_enter Tryz.func53,Tryz.ntmps53;go_upto_region 1 with fail;generalize w.alloc (.cells #[.float .f64 0,.slice none 0 0,.slice none 0 0] 35)=w1 at *;obtain ⟨gt,hgt⟩:∃gt,w.heap.size=gt:=⟨_,rfl⟩;rw [hgt] at HT⊢;have HGT:=hid hgt;clear hgt HWS;go_upto_region 2 with (go_at_call 37;refine (nnodes_any p l _ HP.out (by have:=HG.out.len;omega)).mono ?_;rintro e w2 ⟨v,xs,rfl,hown,_,hb⟩;obtain ⟨av,cv,rfl⟩:=(IsSl.of_own hown).form;rw [HK.out];have HT2:=hid (heap_later2 hb HT.out);have HX2:=hid (HX.out.below hb);have HB2:=hid (below_next HBO.out hb);clear hb hown);clear HT HX HP HBO;have hwr:=show IntKind.i64.wrap ((n:Int) - (k:Int))=(m:Int) from by
  have h:=HKM.out;have h2:=HN.out;rw [IntWalk.i64_in _ ⟨by omega,by omega⟩];omega
 refine wp_region_any (by kernel_rfl) ?_;change wpAny _ _ _ _ _ _ _ (World.drew _);refine wpAny_makersD [⟨some 12,0, []⟩,⟨some 13,1, []⟩,⟨some 14,2, []⟩,⟨some 15,3, []⟩,⟨some 16,4, []⟩,⟨some 17,5, []⟩,⟨some 18,6, []⟩,⟨some 19,7, []⟩,⟨some 20,8, [2,7]⟩,⟨some 8,9, []⟩]
  (fun w'=> w'.heap[gt]? =some (.cells #[.float .f64 0,.slice none 0 0,.slice none 0 0] 35 (0,0))∧VecM w' qx n x M)
  (fun oq v xs ww lo hi=> (match oq with | 0=> v=.float .f64 om | 1=> v=.int .i64 k | 2=> True | 3=> v=.slice (some ⟨qx,0,none⟩) n n | 4=> v=.int .i64 n | 5=> v=.int .i64 k | 6=> v=.int .i64 m | 7=> True | 8=> v=.agg #[.float .f64 om,xs.getD 0 undef,xs.getD 1 undef] | 9=> True | _=> True)∧(oq=2→MkC k v ww lo hi)∧(oq=7→MkC m v ww lo hi)∧(oq=9→ZS v ww lo hi)) (by kernel_rfl) ?hSm (fun _ _ hb h=> ⟨heap_laterS hb h.1,h.2.below hb⟩) (fun _ _ _ _ _ _ _ hb _ h=> ⟨h.1,fun e=> (h.2.1 e).later hb,fun e=> (h.2.2.1 e).later hb,fun e=> (h.2.2.2 e).later hb⟩) ?hopm ?hendm
 case hSm=> exact ⟨heap_laterS (Below.refl _ _).drew HT2.out,HX2.out.below (Below.refl _ _).drew⟩
 case hopm=>
  delta Owed
  simp only [fillD,Act.put,List.setIfInBounds_toArray,lz,ls];refine Each.cons rfl ?_ (Each.cons rfl ?_ (Each.cons rfl ?_ (Each.cons rfl ?_ (Each.cons rfl ?_ (Each.cons rfl ?_ (Each.cons rfl ?_ (Each.cons rfl ?_ (Each.cons rfl ?_ (Each.cons rfl ?_ Each.nil)))))))))
  all_goals intro vs w2 hb2 hS2 hR2 K hK;try simp only [lz,ls] at hK⊢
  · go_simp;exact hK.out _ _ (Below.refl _ _) ⟨rfl,(fun e=> (by cases e)),(fun e=> (by cases e)),(fun e=> (by cases e))⟩
  · go_simp;exact hK.out _ _ (Below.refl _ _) ⟨rfl,(fun e=> (by cases e)),(fun e=> (by cases e)),(fun e=> (by cases e))⟩
  · have h1:vs 1=_:=exR (hR2 1 (by kernel_rfl)) (fun _ _ h=> h.1);simp only [h1] at hK⊢;have hmk:=mk_many k w2 (by have h:=HKM.out;have h2:=HN.out;omega);go_simp;exact hK.out _ _ ((Below.refl _ _).alloc (Nat.le_refl _) _) ⟨trivial,fun _=> ⟨w2.heap.size,rfl,Nat.le_refl _,by simp,heap_alloc_new _ _⟩,(fun e=> (by cases e)),(fun e=> (by cases e))⟩
  · go_simp;exact hK.out _ _ (Below.refl _ _) ⟨rfl,(fun e=> (by cases e)),(fun e=> (by cases e)),(fun e=> (by cases e))⟩
  · have h3:vs 3=_:=exR (hR2 3 (by kernel_rfl)) (fun _ _ h=> h.1);simp only [h3] at hK⊢;go_simp;exact hK.out _ _ (Below.refl _ _) ⟨rfl,(fun e=> (by cases e)),(fun e=> (by cases e)),(fun e=> (by cases e))⟩
  · go_simp;exact hK.out _ _ (Below.refl _ _) ⟨rfl,(fun e=> (by cases e)),(fun e=> (by cases e)),(fun e=> (by cases e))⟩
  · have h4:vs 4=_:=exR (hR2 4 (by kernel_rfl)) (fun _ _ h=> h.1);have h5:vs 5=_:=exR (hR2 5 (by kernel_rfl)) (fun _ _ h=> h.1);simp only [h4,h5] at hK⊢;go_simp;exact hK.out _ _ (Below.refl _ _) ⟨rfl,(fun e=> (by cases e)),(fun e=> (by cases e)),(fun e=> (by cases e))⟩
  · have h6:vs 6=_:=exR (hR2 6 (by kernel_rfl)) (fun _ _ h=> h.1);simp only [h6] at hK⊢;have hmk:=mk_many m w2 (by have h:=HKM.out;have h2:=HN.out;omega);go_simp;exact hK.out _ _ ((Below.refl _ _).alloc (Nat.le_refl _) _) ⟨trivial,(fun e=> (by cases e)),fun _=> ⟨w2.heap.size,rfl,Nat.le_refl _,by simp,heap_alloc_new _ _⟩,(fun e=> (by cases e))⟩
  · have h0:vs 0=_:=exR (hR2 0 (by kernel_rfl)) (fun _ _ h=> h.1);obtain ⟨_,_,_,H2⟩:=hR2 2 (by kernel_rfl);have Y2:=H2.2.1 rfl;obtain ⟨_,_,_,H7⟩:=hR2 7 (by kernel_rfl);have Y7:=H7.2.2.1 rfl;simp only [h0] at hK⊢;obtain ⟨b2,h2,_⟩:=Y2;obtain ⟨b7,h7,_⟩:=Y7;simp only [h2,h7] at hK⊢;go_simp;exact hK.out _ _ (Below.refl _ _) ⟨(by show _=Value.agg #[.float .f64 om,vs 2,vs 7];rw [h2,h7]),(fun e=> (by cases e)),(fun e=> (by cases e)),(fun e=> (by cases e))⟩
  · go_simp;exact hK.out _ _ ((Below.refl _ _).alloc (Nat.le_refl _) _) ⟨trivial,(fun e=> (by cases e)),(fun e=> (by cases e)),fun _=> BlkD.new _ _⟩
 case hendm=>
  intro vs wx lo hiv hbx hSx hRx hdx;have h0:vs 0=_:=(hRx 0 (by kernel_rfl)).1.1;have h1:vs 1=_:=(hRx 1 (by kernel_rfl)).1.1;have Y2:=(hRx 2 (by kernel_rfl)).1.2.1 rfl;have Z2:=(hRx 2 (by kernel_rfl)).2;have h3:vs 3=_:=(hRx 3 (by kernel_rfl)).1.1;have h4:vs 4=_:=(hRx 4 (by kernel_rfl)).1.1;have h5:vs 5=_:=(hRx 5 (by kernel_rfl)).1.1;have h6:vs 6=_:=(hRx 6 (by kernel_rfl)).1.1;have Y7:=(hRx 7 (by kernel_rfl)).1.2.2.1 rfl;have Z7:=(hRx 7 (by kernel_rfl)).2;have h8:vs 8=.agg #[.float .f64 om,vs 2,vs 7]:=(hRx 8 (by kernel_rfl)).1.1;have Y9:=(hRx 9 (by kernel_rfl)).1.2.2.2 rfl;have Z9:=(hRx 9 (by kernel_rfl)).2;simp only [fillD,Act.put,List.setIfInBounds_toArray,lz,ls,h0,h1,h3,h4,h5,h6,h8];obtain ⟨q1,h2,lo2,hi2,hr2⟩:=Y2;obtain ⟨q2,h7,lo7,hi7,hr7⟩:=Y7;obtain ⟨gs,h9,lo9,hi9,hr9⟩:=Y9;have hn1:q1≠q2:=fun e=> by rcases hdx 2 7 (by kernel_rfl) with h | h <;> omega
  have hn2:q1≠gs:=fun e=> by rcases hdx 2 9 (by kernel_rfl) with h | h <;> omega
  have hn3:q2≠gs:=fun e=> by rcases hdx 7 9 (by kernel_rfl) with h | h <;> omega
  have l1:w2.heap.size≤q1:=Nat.le_trans Z2.1 lo2;have l2:w2.heap.size≤q2:=Nat.le_trans Z7.1 lo7;have l3:w2.heap.size≤gs:=Nat.le_trans Z9.1 lo9;have hb:=below_drew_left hbx;have lt:gt < w2.heap.size:=(Array.getElem?_eq_some_iff.1 HT2.out).1;have lx:qx < w2.heap.size:=(Array.getElem?_eq_some_iff.1 HX2.out.row).1;have HT3:=hid hSx.1;have HX3:=hid hSx.2;have HB3:=hid (below_next HB2.out hb);have HS3:=hid hr9;have HQ1:=hid hr2;have HQ2:=hid hr7;have HL:=hid (show w.heap.size≤q1∧w.heap.size≤q2∧w.heap.size≤gs∧q1≠q2∧q1≠gs∧q2≠gs∧gt < gs∧gt < q1∧gt < q2∧qx < gs∧qx < q1∧qx < q2 from by have:=HB2.out.size;omega);simp only [h8,h2,h7,h9];clear hbx hSx hRx hdx hr2 hr7 hr9 lo2 hi2 lo7 hi7 lo9 hi9 hn1 hn2 hn3 l1 l2 l3 hb lt lx HT2 HX2 HB2 Z2 Z7 Z9 h0 h1 h2 h3 h4 h5 h6 h7 h8 h9;have hbk:=block_cells HS3.out;have f0:=hbk.2 0;have f1:=hbk.2 1;have f2:=hbk.2 2;have v0:=hbk.1 0 _ rfl;have v1:=hbk.1 1 _ rfl;have v2:=hbk.1 2 _ rfl;clear hbk;refine wpAny_one (i:=10) (by kernel_rfl) rfl (fun K hK=> ?_);go_simp;refine hK.out _ _ ?_;clear hK;refine wpAny_done (by kernel_rfl) ?_ _;clear f0 f1 f2 v0 v1 v2;have hgr:wx.grownBy (((wx.setCell ⟨gs,0,none⟩ (.float .f64 om)).setCell ⟨gs,1,none⟩ (.slice (some ⟨q1,0,none⟩) k k)).setCell ⟨gs,2,none⟩ (.slice (some ⟨q2,0,none⟩) m m)) (some gs):=grown_trans (grown_trans (set1_grown wx gs 0 _) (set1_grown _ gs 1 _)) (set1_grown _ gs 2 _);have HS4:=hid (show (((wx.setCell ⟨gs,0,none⟩ (.float .f64 om)).setCell ⟨gs,1,none⟩ (.slice (some ⟨q1,0,none⟩) k k)).setCell ⟨gs,2,none⟩ (.slice (some ⟨q2,0,none⟩) m m)).heap[gs]? =some (.cells #[.float .f64 om,.slice (some ⟨q1,0,none⟩) k k,.slice (some ⟨q2,0,none⟩) m m] 35 (0,0)) from blk_set1 (blk_set1 (blk_set1 HS3.out _) _) _);have HT4:=hid (heap_nextG hgr (by have:=HL.out;omega) HT3.out);have HX4:=hid (HX3.out.grow hgr (by have:=HL.out;omega));have HQ14:=hid (heap_nextG hgr (by have:=HL.out;omega) HQ1.out)
  have HQ24:=hid (heap_nextG hgr (by have:=HL.out;omega) HQ2.out);have HB4:=hid (HB3.out.grown hgr (by have:=HB3.out.size;omega) (by intro k e;cases e;have:=HL.out;omega));clear hgr HS3 HT3 HX3 HQ1 HQ2 HB3;generalize (((wx.setCell ⟨gs,0,none⟩ (.float .f64 om)).setCell ⟨gs,1,none⟩ (.slice (some ⟨q1,0,none⟩) k k)).setCell ⟨gs,2,none⟩ (.slice (some ⟨q2,0,none⟩) m m))=w4 at *;have hbk:=block_cells HS4.out;have v1:=hbk.1 1 _ rfl;clear hbk;have hcut:=fun w'=> cut_to (a:=⟨qx,0,none⟩) (nn:=n) (c:=n) (k:=k) (by have:=HKM.out;omega) w'
  obtain ⟨cs,hcs⟩:∃cs,(M.take k).map mkC=cs:=⟨_,rfl⟩;have HCS:=hid hcs;have HCL:=hid (show cs.length=k by rw [←hcs,List.length_map,List.length_take,HX4.out.len];have:=HKM.out;omega);have H1C:=hid (show∀v∈cs,v.oneCell'=true by intro v hv;rw [←hcs] at hv;obtain ⟨x,_,rfl⟩:=List.mem_map.1 hv;rfl);clear hcs;go_upto_region 3 with fail
  go_still_tail 5,(by kernel_rfl)
  change wpList _ _ _ _ _ w4.drew;go_wp2_with (refine wpList_copy_grown rfl (.tmp 22) (.tmp 25) _ _ rfl _ Tryz.underlying33 (by rw [hic];simp [hc1]) (some ⟨q1,0,none⟩) (some ⟨qx,0,none⟩) k k k n rfl rfl q1 0 ((List.replicate k (0,0)).map mkC) 43 HQ14.out cs (HCL.out.trans (Nat.min_self k).symm) (fun _=> ⟨rfl,_,rfl,?_⟩) (by rw [HCL.out];simp) H1C.out ?_)
  · intro j v hv;have hj:j < k:=by have:=(List.getElem?_eq_some_iff.1 hv).1;rw [HCL.out] at this;exact this
    rw [add_flat,Nat.zero_add];rw [←HCS.out,List.getElem?_map,List.getElem?_take,if_pos hj,List.getElem?_eq_getElem (by rw [HX4.out.len];have:=HKM.out;omega)] at hv;have h:=HX4.out.cell (j:=j) (by have:=HKM.out;omega);rw [List.getD_eq_getElem?_getD,List.getElem?_eq_getElem (by rw [HX4.out.len];have:=HKM.out;omega)] at h;exact h.trans hv
  intro w5 hq hg5;have hgr:w4.grownBy w5 (some q1):=⟨hg5.os,hg5.tape,hg5.output,hg5.size,hg5.block⟩;have HV1:=hid (vec_of (n:=k) (r:=x) (M:=M.take k) hq.out (by rw [splice_len HCL.out (by simp),HCS.out]) (by rw [List.length_take,HX4.out.len];have:=HKM.out;omega) (fun i hi=> by rw [←HX4.out.num i (by have:=HKM.out;omega),List.getD_eq_getElem?_getD,List.getD_eq_getElem?_getD,List.getElem?_take,if_pos hi]));have HS5:=hid (heap_nextG hgr (by have:=HL.out;omega) HS4.out);have HT5:=hid (heap_nextG hgr (by have:=HL.out;omega) HT4.out);have HX5:=hid (HX4.out.grow hgr (by have:=HL.out;omega));have HQ25:=hid (heap_nextG hgr (by have:=HL.out;omega) HQ24.out);have HB5:=hid (HB4.out.grown hgr (by have:=HB4.out.size;omega) (by intro k e;cases e;have:=HL.out;omega));clear hgr HS4 HT4 HX4 HQ14 HQ24 HB4 v1 hcut HCS HCL H1C hq hg5;have hbk:=block_cells HS5.out;have v1:=hbk.1 2 _ rfl;clear hbk;have hnk:n - k=m:=by have:=HKM.out;omega
  obtain ⟨ba,hba,hcut⟩:=cut_rest (a:=⟨qx,0,none⟩) (nn:=n) (k:=k) (by have:=HKM.out;omega);rw [hnk] at hcut;have HBA:=hid hba;obtain ⟨cs2,hcs⟩:∃cs,(M.drop k).map mkC=cs:=⟨_,rfl⟩;have HCS:=hid hcs;have HCL:=hid (show cs2.length=m by rw [←hcs,List.length_map,List.length_drop,HX5.out.len];exact hnk);have H1C:=hid (show∀v∈cs2,v.oneCell'=true by intro v hv;rw [←hcs] at hv;obtain ⟨x,_,rfl⟩:=List.mem_map.1 hv;rfl);clear hcs hba hnk;go_upto_region 4 with fail
  go_still_tail 5,(by kernel_rfl)
  change wpList _ _ _ _ _ w5.drew;go_wp2_with (refine wpList_copy_grown rfl (.tmp 28) (.tmp 31) _ _ rfl _ Tryz.underlying33 (by rw [hic];simp [hc1]) (some ⟨q2,0,none⟩) ba m m m m rfl rfl q2 0 ((List.replicate m (0,0)).map mkC) 43 HQ25.out cs2 (HCL.out.trans (Nat.min_self m).symm) (fun hp=> ⟨rfl,_,HBA.out (by rw [HCL.out] at hp;have:=HKM.out;omega),?_⟩) (by rw [HCL.out];simp) H1C.out ?_)
  · intro j v hv;have hj:j < m:=by have:=(List.getElem?_eq_some_iff.1 hv).1;rw [HCL.out] at this;exact this
    rw [add_flat,add_flat,Nat.zero_add];rw [←HCS.out,List.getElem?_map,List.getElem?_drop,List.getElem?_eq_getElem (by rw [HX5.out.len];have:=HKM.out;omega)] at hv;have h:=HX5.out.cell (j:=k+j) (by have:=HKM.out;omega);rw [List.getD_eq_getElem?_getD,List.getElem?_eq_getElem (by rw [HX5.out.len];have:=HKM.out;omega)] at h;exact h.trans hv
  intro w6 hq hg5;have hgr:w5.grownBy w6 (some q2):=⟨hg5.os,hg5.tape,hg5.output,hg5.size,hg5.block⟩;have HV2:=hid (vec_of (n:=m) (r:=fun i=> x (k+i)) (M:=M.drop k) hq.out (by rw [splice_len HCL.out (by simp),HCS.out]) (by rw [List.length_drop,HX5.out.len];have:=HKM.out;omega) (fun i hi=> by rw [←HX5.out.num (k+i) (by have:=HKM.out;omega),List.getD_eq_getElem?_getD,List.getD_eq_getElem?_getD,List.getElem?_drop]));have HV16:=hid (show VecR w6 q1 k x from by obtain ⟨M1,h1⟩:=HV1.out;exact ⟨M1,h1.grow hgr (by have:=HL.out;omega)⟩);have HS6:=hid (heap_nextG hgr (by have:=HL.out;omega) HS5.out);have HT6:=hid (heap_nextG hgr (by have:=HL.out;omega) HT5.out);have HB6:=hid (HB5.out.grown hgr (by have:=HB5.out.size;omega) (by intro k e;cases e;have:=HL.out;omega));clear hgr HS5 HT5 HX5 HQ25 HB5 v1 hcut HCS HCL H1C hq hg5 HBA HV1;have hbk:=block_cells HS6.out;have v0:=hbk.1 0 _ rfl;have v1:=hbk.1 1 _ rfl;have v2:=hbk.1 2 _ rfl;have hbt:=block_cells HT6.out;have f0:=hbt.2 0;have f1:=hbt.2 1;have f2:=hbt.2 2;have t0:=hbt.1 0 _ rfl;have t1:=hbt.1 1 _ rfl;have t2:=hbt.1 2 _ rfl;clear hbk hbt;go_wp2_with fail;refine bodyPost_ret (v:=.agg #[.float .f64 om,.slice (some ⟨q1,0,none⟩) k k,.slice (some ⟨q2,0,none⟩) m m]) ?_ rfl ?_
  · first | (rw [results_cell rfl];go_simp;done) | (rw [results_cell1 rfl];go_simp;done) | (unfold results;go_simp;done)
  have hgr:w6.grownBy (((w6.setCell ⟨gt,0,none⟩ (.float .f64 om)).setCell ⟨gt,1,none⟩ (.slice (some ⟨q1,0,none⟩) k k)).setCell ⟨gt,2,none⟩ (.slice (some ⟨q2,0,none⟩) m m)) (some gt):=grown_trans (grown_trans (set1_grown w6 gt 0 _) (set1_grown _ gt 1 _)) (set1_grown _ gt 2 _);refine ⟨q1,q2,rfl,by have:=HL.out;omega,by have:=HL.out;omega,by have:=HL.out;omega,?_,?_,?_⟩
  · obtain ⟨M1,h1⟩:=HV16.out;exact ⟨M1,h1.grow hgr (by have:=HL.out;omega)⟩
  · obtain ⟨M1,h1⟩:=HV2.out;exact ⟨M1,h1.grow hgr (by have:=HL.out;omega)⟩
  · exact HB6.out.grown hgr (by have:=HB6.out.size;omega) (by intro k e;cases e;have:=HGT.out;omega)
end
section
open Go.RowKit
theorem results_cell1N {fn:Func} {p:Tmp} {ty:TypeId} (h:fn.results=#[.cell p ty]) (tmps:Array Value) (P:Program) (w:World):
 (results fn tmps).run P w=((asAddr (tmps.getD p undef)).run P w).andThen fun a w₁=> (loadVar ty a).run P w₁:=by
 simp only [results,h]
 simp [Sem.run_bind,Result.andThen]
def noneS (e:Int):Value:=if e=0 then .agg #[.int .i64 0,.int .i64 0] else .agg #[.int .i64 e,.int .i64 (-1)]
theorem pnone_any (e:Int) (w:World):
 Calls Tryz.prog 20 #[.int .i64 e] w fun en w'=> en=.returned (noneS e)∧Below w.heap.size w w':=by
 by_cases h:e=0
 · subst h;go_enter Tryz.func20,Tryz.ntmps20;go_wp2;refine bodyPost_ret (v:=.agg #[.int .i64 0,.int .i64 0]) ?_ rfl ⟨rfl,?_⟩
   · rw [results_cell1N rfl];go_simp
   · repeat (first | exact (Below.refl w.heap.size w).alloc (Nat.le_refl _) _ | refine Below.setCell ?_ (by dsimp only;omega) _)
 · have hb:(e==0)=false:=by simpa using h
   go_enter Tryz.func20,Tryz.ntmps20;go_wp2;refine bodyPost_ret (v:=.agg #[.int .i64 e,.int .i64 (-1)]) ?_ rfl ⟨congrArg Ending.returned (if_neg h).symm,?_⟩
   · rw [results_cell1N rfl];go_simp
   · repeat (first | exact (Below.refl w.heap.size w).alloc (Nat.le_refl _) _ | refine Below.setCell ?_ (by dsimp only;omega) _)
end
end Go.Proofs.YtaegmlhfecfgkaaGreatDoor
