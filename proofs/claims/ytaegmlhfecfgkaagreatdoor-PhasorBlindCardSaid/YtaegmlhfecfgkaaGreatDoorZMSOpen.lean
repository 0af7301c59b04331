/- a part of the proof of the last text -/
import Derived.Test.YtaegmlhfecfgkaaGreatDoorZLw3
namespace Go.Proofs.YtaegmlhfecfgkaaGreatDoor
set_option linter.all false
set_option maxHeartbeats 4000000
set_option maxRecDepth 100000
section
open Go.RowKit
def lessS (t:Cx × Bool) (a b:Cx):Cx × Bool:=(csub t.1 (cmul a b),t.2 && cfin (csub t.1 (cmul a b)))
def foldS (A x:Nat→Cx) (lo:Nat) (t:Cx × Bool):Nat→Cx × Bool
 | 0=> t
 | m+1=> lessS (foldS A x lo t m) (A (lo+m)) (x (lo+m))
def fwdS (L:Mx) (b:Nat→Cx):Nat→(Nat→Cx) × Bool
 | 0=> (fun _=> cZ0,true)
 | i+1=> (upd (fwdS L b i).1 i (foldS (L i) (fwdS L b i).1 0 (b i,(fwdS L b i).2) i).1,(foldS (L i) (fwdS L b i).1 0 (b i,(fwdS L b i).2) i).2)
where cZ0:Cx:=(fc 0,fc 0)
def bwdS (n:Nat) (U:Mx) (y:Nat→Cx) (ok:Bool):Nat→(Nat→Cx) × Bool
 | 0=> (y,ok)
 | m+1=> (upd (bwdS n U y ok m).1 (n - 1 - m) (cdiv (foldS (U (n - 1 - m)) (bwdS n U y ok m).1 (n - m) ((bwdS n U y ok m).1 (n - 1 - m),(bwdS n U y ok m).2) m).1 (U (n - 1 - m) (n - 1 - m))),
  (foldS (U (n - 1 - m)) (bwdS n U y ok m).1 (n - m) ((bwdS n U y ok m).1 (n - 1 - m),(bwdS n U y ok m).2) m).2 &&
   cfin (cdiv (foldS (U (n - 1 - m)) (bwdS n U y ok m).1 (n - m) ((bwdS n U y ok m).1 (n - 1 - m),(bwdS n U y ok m).2) m).1 (U (n - 1 - m) (n - 1 - m))))
def solveE (n:Nat) (s:Es) (b:Nat→Cx):(Nat→Cx) × Bool:=bwdS n s.R (fwdS s.R (fun i=> b (s.ord i)) n).1 (fwdS s.R (fun i=> b (s.ord i)) n).2 n
end
section
open Go.RowKit
def plain (e:Int):Int × Int:=if e=0 then (0,0) else (e,-1)
def askS (b:Bool) (om:Nat):Int:=if b=true then 1 else angE om
def lowM (n:Nat) (m:Nat→Cx):Option Es × (Int × Int):=
 match (List.range (n * n)).find? fun p=> !cfin (m p) with
 | some p=> (none,(5,p))
 | none=> lowE n m
def withS (b:Bool) (l:List El) (om:Nat) (r:List Cx):Option (Nat→Cx) × (Int × Int):=
 if askS b om≠0 then (none,plain (askS b om)) else if r.length≠szL l then (none,(4,-1)) else if r.all cfin=false then (none,(5,-1))
 else if grdS false l≠ (0,0) then (none,grdS false l) else if (matS false l om).2≠ (0,0) then (none,(matS false l om).2)
 else match lowM (szL l) (matK l om l.length) with
  | (none,f)=> (none,f)
  | (some s,_)=> if (solveE (szL l) s fun i=> r.getD i (0,0)).2=true then (some (solveE (szL l) s fun i=> r.getD i (0,0)).1,(0,0)) else (none,(6,-1))
def solS (b:Bool) (l:List El) (om:Nat):Option (Nat→Cx) × (Int × Int):=
 if askS b om≠0 then (none,plain (askS b om)) else if grdS false l≠ (0,0) then (none,grdS false l) else if (matS false l om).2≠ (0,0) then (none,(matS false l om).2)
 else if (rgtE false l).2≠ (0,0) then (none,(rgtE false l).2) else withS false l om (rgtE false l).1
end
section
open Go.RowKit
def RetLowOf (n:Nat) (S:Option Es × (Int × Int)) (w:World) (e:Ending) (w':World):Prop:=
 ∃p:Value,e=.returned (.tuple #[p,.agg #[.int .i64 S.2.1,.int .i64 S.2.2]])∧Below w.heap.size w w'∧
  ((S.1=none∧p=.pointer none)∨∃s g vR vO bj M ord sg,S.1=some s∧p=.pointer (some ⟨g,0,none⟩)∧LwAt w.heap.size w' g vR vO n n n bj M ord sg∧LwS n s M ord sg)
theorem lowM_bad {n k:Nat} {m:Nat→Cx} (hk:k < n * n) (h:∀i,i < k→cfin (m i)=true) (hp:cfin (m k)=false):lowM n m=(none,(5,(k:Int))):=by
 unfold lowM;rw [find_at hk (fun i hi=> by simp [h i hi]) (by simp [hp])]
theorem lowM_go {n:Nat} {m:Nat→Cx} (h:∀i,i < n * n→cfin (m i)=true):lowM n m=lowE n m:=by
 unfold lowM;rw [List.find?_eq_none.2 (fun i hi=> by simp [h i (by simpa using hi)])]
theorem getD_at {α:Type} {l:List α} {k:Nat} {z d:α} (h:l[k]? =some z):l.getD k d=z:=by rw [List.getD_eq_getElem?_getD,h];rfl
theorem start_s {n:Nat} {xs:List Cx} {m:Nat→Cx} (hx:xs.length=n * n) (hm:∀i,i < n * n→m i=ck (xs.getD i (0,0))):LwS n (esK n m 0) (fun j=> (xs.drop (j * n)).take n) ((List.range n).map Int.ofNat) 1:=by
 refine ⟨fun i j hi hj=> ?_,by simp,fun i hi=> ?_,rfl⟩
 · show ck (((xs.drop (i * n)).take n).getD j (0,0))=m (i * n+j);rw [hm _ (by have:=Nat.mul_le_mul_right n (show i+1≤n from hi);rw [Nat.add_mul] at this;omega)];rw [List.getD_eq_getElem?_getD,List.getElem?_take,if_pos hj,List.getElem?_drop,←List.getD_eq_getElem?_getD]
 · rw [List.getElem?_map,List.getElem?_range hi];rfl
theorem fault_set {w w1:World} {B g:Nat} (hb:Below B w w1) (hg:B≤g) (x y:Value):Below B w ((w1.setCell ⟨g,0,none⟩ x).setCell ⟨g,1,none⟩ y):=(hb.setCell (p:=⟨g,0,none⟩) hg x).setCell (p:=⟨g,1,none⟩) hg y
theorem LwAt.base {B B' g n m mo:Nat} {w:World} {vR vO:Value} {bj:Nat→Nat} {M:Nat→List Cx} {ord:List Int} {sg:Int} (h:LwAt B w g vR vO n m mo bj M ord sg) (hB:B'≤B):LwAt B' w g vR vO n m mo bj M ord sg:=
 ⟨Nat.le_trans hB h.gB,fun j hj=> Nat.le_trans hB (h.bB j hj),h.box,own_base h.oR hB,own_base h.oO hB,h.row,h.len,h.inj⟩
theorem LwAt.fault {B g n m mo r:Nat} {w:World} {vR vO:Value} {bj:Nat→Nat} {M:Nat→List Cx} {ord:List Int} {sg:Int} {cs:Array Value} (h:LwAt B w g vR vO n m mo bj M ord sg) (hr:w.heap[r]? =some (.cells cs 38 (0,0))) (x y:Value):
 LwAt B ((w.setCell ⟨r,0,none⟩ x).setCell ⟨r,1,none⟩ y) g vR vO n m mo bj M ord sg:=
 h.typ hr (grown_trans (set1_grown w r 0 x) (set1_grown _ r 1 y)) (by decide) (by decide) (by decide) (.inl (by decide))
theorem lowof_any (n nn:Nat) (v:Value) (xs:List Cx) (m:Nat→Cx) (w:World) (hv:IsSl w 1 v nn (xs.map mkC)) (hn:n≤64) (hnn:nn=n * n) (hm:∀i,i < n * n→m i=ck (xs.getD i (0,0))):
 Calls Tryz.prog 81 #[.agg #[.int .i64 n,.int .i64 n,v]] w (RetLowOf n (lowM n m) w):=by
 obtain ⟨aD,cD,rfl⟩:=hv.form;have hxl:xs.length=nn:=by have:=hv.1;simp at this;omega
 have HXL:=hid (show xs.length=n * n by rw [hxl,hnn]);have HXN:=hid hxl;obtain ⟨t1,t2,t3⟩:=two_blocks w (.cells #[.int .i64 n,.int .i64 n,.slice aD nn cD] 64) (.cells #[.int .i64 0,.int .i64 0] 38);have HM:=hid t1;have HF:=hid t2;have HB:=hid t3;have HV:=hid (hv.below t3 (Nat.le_refl _));have HNN:=hid hnn;have hn40:nn≤4096:=by rw [hnn];exact Nat.le_trans (Nat.mul_le_mul hn hn) (by decide)
 obtain ⟨ic,hic,hc0,hc1,hc2⟩:=info_parts infoC;have HMM:=hid hm;have HS0:=hid (start_s HXL.out hm);clear hm;clear hv hxl hnn t1 t2 t3;go_enter Tryz.func81,Tryz.ntmps81;go_upto_region 1 with fail;generalize (w.alloc (.cells #[.int .i64 n,.int .i64 n,.slice aD nn cD] 64)).alloc (.cells #[.int .i64 0,.int .i64 0] 38)=w1 at *;obtain ⟨gm,hgm⟩:∃gm,w.heap.size=gm:=⟨_,rfl⟩;rw [hgm] at HM HF HB⊢;rw [←hgm] at HB;have HGM:=hid hgm;clear hgm;have hsc:=block_cells HM.out;have m0:=hsc.1 0 _ rfl;have m1:=hsc.1 1 _ rfl;have m2:=hsc.1 2 _ rfl;clear hsc;go_upto_region 3 with (go_at_call 101;refine (mcheck_any n nn aD cD _ hn HNN.out).mono ?_;rintro e w2 ⟨rfl,hb⟩;have HM1:=hid (heap_later2 hb HM.out);have HF1:=hid (heap_later2 hb HF.out);have HV1:=hid (HV.out.below hb (Nat.le_refl _));have HB1:=hid (below_next HB.out hb);clear m0 m1 m2;have hm:=block_cells HM1.out;have m0:=hm.1 0 _ rfl;have m1:=hm.1 1 _ rfl;have m2:=hm.1 2 _ rfl;clear hm;clear hb);clear HM HF HV HB;go_wp2
 go_loopw [23] (fun i wr=> ∃k:Nat,k≤nn∧i=.int .i64 k∧Below w2.heap.size w2 wr∧∀j,j < k→cfin (m j)=true) (fun i _=> nn - (intOf i).toNat)
 case atStart=> exact ⟨0,Nat.zero_le _,rfl,Below.refl _ _,fun j hj=> absurd hj (Nat.not_lt_zero _)⟩
 case round=>
  obtain ⟨k,hk,rfl,hb,hfi⟩:=hrel;have HFI:=hid hfi;have HBW:=hid hb;clear hfi m0 m1 m2;have HM2:=hid (heap_later2 hb HM1.out);have HF2:=hid (heap_later2 hb HF1.out);have HV2:=hid (HV1.out.below hb (Nat.le_refl _));have HB2:=hid (below_next HB1.out hb);clear hb HM1 HF1 HV1 HB1
  by_cases hlt:k < nn
  · obtain ⟨g,o2,x,hidx,hg,hcell,hx⟩:=IsSl.at1 Tryz.underlying33 hic hc1 HV2.out (k:=k) hlt;obtain ⟨z,hz,rfl⟩:=map_getElem? hx;obtain ⟨z1,z2⟩:=z;unfold mkC at hcell;dsimp only at hcell;have HZ:=hid (show m k=(fc z1,fc z2) by rw [HMM.out k (by rw [←HNN.out];exact hlt),getD_at hz];rfl);have HKN:=hid hlt;clear hx hz hg;cases hf:cfin (fc z1,fc z2)
    · have HCF:=hid hf;go_upto_region 7 with (go_at_call 47;refine (pfin_any z1 z2 _).mono ?_;rintro e w4 ⟨v,nn4,rfl,he,rfl⟩;have hb4:Below wr.heap.size wr w4:=(by rw [he];exact below_n (Below.refl _ _) nn4);have HF4:=hid (heap_later2 hb4 HF2.out);have HB4:=hid (below_next HB2.out hb4);clear he hb4);have hfc:=block_cells HF4.out;have z0:=hfc.1 0 _ rfl;have z1':=hfc.1 1 _ rfl;have f0:=hfc.2 0;have f1:=hfc.2 1;clear hfc;have HS:=hid (lowM_bad (n:=n) (m:=m) (k:=k) (by rw [←HNN.out];exact HKN.out) HFI.out (by rw [HZ.out];exact HCF.out));go_wp2_with fail
      (try rw [Exit.noGoto_ret])
      refine bodyPost_ret (v:=.tuple #[.pointer none,.agg #[.int .i64 5,.int .i64 k]]) ?_ rfl ⟨.pointer none,by rw [HS.out],fault_set HB4.out (by rw [HGM.out];omega) _ _,.inl ⟨by rw [HS.out],rfl⟩⟩;rw [results_tmp_cell rfl];go_simp
    · have HCF:=hid hf;go_wp2_with (go_at_call 47;refine (pfin_any z1 z2 _).mono ?_;rintro e w4 ⟨v,nn4,rfl,he,rfl⟩;have hb4:Below w2.heap.size w2 w4:=(by rw [he];exact below_n HBW.out nn4);clear he);go_roundw
      case rel=> exact ⟨k+1,hlt,by go_num,hb4,fun j hj=> by
       by_cases e:j=k
       · subst e;rw [HZ.out];exact HCF.out
       · exact HFI.out j (by omega)⟩
      case measure=> simp [intOf];omega
  · obtain rfl:k=nn:=by omega
    have HALL:=hid (show lowM n m=lowE n m from lowM_go (fun i hi=> HFI.out i (by rw [HNN.out];exact hi)));clear HFI HBW;go_upto_region 9 with fail;have hsc:=block_cells HM2.out;have m0:=hsc.1 0 _ rfl;have m1:=hsc.1 1 _ rfl;have m2:=hsc.1 2 _ rfl;clear hsc;obtain ⟨B5,hB5⟩:∃B5,wr.heap.size=B5:=⟨_,rfl⟩;have HB5:=hid hB5;have HLTB:=hid (show w.heap.size≤B5 by rw [←hB5];exact HB2.out.size);have HFB5:=hid (show gm+1 < B5 by rw [←hB5];exact (Array.getElem?_eq_some_iff.1 HF2.out).1);clear hB5;go_upto_region 10 with (go_at_call 102;refine (lstart_any n k _ xs _ HV2.out hn HNN.out).mono ?_;rintro e w5 ⟨g,vR,vO,bj,rfl,hla,hb⟩;rw [HB5.out] at hla;have HLA:=hid hla;have HM3:=hid (heap_later2 hb HM2.out);have HF3:=hid (heap_later2 hb HF2.out);have HV3:=hid (HV2.out.below hb (Nat.le_refl _));have HB3:=hid (below_next HB2.out hb);clear hla hb);clear m0 m1 m2 HM2 HF2 HV2 HB2;obtain ⟨aR,cR,rfl⟩:=(IsSl.of_own HLA.out.oR).form;have c1:=(cells_ofS HLA.out.box).1 1 _ rfl;go_wp2
    go_loopw [41] (fun i wr=> ∃ (k:Nat) (bj:Nat→Nat) (M:Nat→List Cx) (ord:List Int) (sg:Int),k≤n∧i=.int .i64 k∧LwAt B5 wr g (.slice aR n cR) vO n n n bj M ord sg∧LwS n (esK n m k) M ord sg∧Below w.heap.size w wr∧wr.heap[gm+1]? =some (.cells #[.int .i64 0,.int .i64 0] 38 (0,0))∧∀i,i < k→(stepE n (esK n m i) i).2=0) (fun i _=> n - (intOf i).toNat)
    case atStart=> exact ⟨0,bj,_,_,1,Nat.zero_le _,rfl,HLA.out,HS0.out,HB3.out,HF3.out,fun i hi=> absurd hi (Nat.not_lt_zero _)⟩
    case round=>
     obtain ⟨q,bj2,M,ord,sg,hq,rfl,hla,hls,hbq,hfq,hst⟩:=hrel;have HLQ:=hid hla;have HSQ:=hid hls;have HBQ:=hid hbq;have HFQ:=hid hfq;have HST:=hid hst;clear hla hls hbq hfq hst c1 HLA HS0 HB3 HF3
     by_cases hqn:q < n
     · have HQN:=hid hqn;have HFC:=hid (show w.heap.size≤gm+1 by rw [HGM.out];omega);cases hz:((stepE n (esK n m q) q).2==0)
       · have HZ:=hid (show (stepE n (esK n m q) q).2≠0 by simpa using hz);have hz2:((stepE n (esK n m q) q).2 !=0)=true:=by simpa using hz
         clear hz;go_upto_region 15 with (go_at_call 103;refine (lstep_any B5 n g q (.slice aR n cR) vO bj2 M ord sg (esK n m q) _ HLQ.out HSQ.out hqn hn).mono ?_;rintro e w6 ⟨rfl,hb6,hok6⟩;have HB6:=hid (HBQ.out.trans (hb6.mono HLTB.out));have HF6:=hid (show w6.heap[gm+1]? =some (.cells #[.int .i64 0,.int .i64 0] 38 (0,0)) from (hb6.block _ HFB5.out).trans HFQ.out);clear hb6 hok6);have hfc:=block_cells HF6.out;have z0:=hfc.1 0 _ rfl;have z1:=hfc.1 1 _ rfl;have f0:=hfc.2 0;have f1:=hfc.2 1;clear hfc;have HS:=hid (HALL.out.trans (low_stop HQN.out HST.out HZ.out));go_wp2_with fail
         (try rw [Exit.noGoto_ret])
         rw [HS.out];refine bodyPost_ret (v:=.tuple #[.pointer none,.agg #[.int .i64 (stepE n (esK n m q) q).2,.int .i64 q]]) ?_ rfl ⟨.pointer none,rfl,fault_set HB6.out HFC.out _ _,.inl ⟨rfl,rfl⟩⟩;rw [results_tmp_cell rfl];go_simp
       · have HZ:=hid (show (stepE n (esK n m q) q).2=0 by simpa using hz);clear hz;go_wp2_with (go_at_call 103;refine (lstep_any B5 n g q (.slice aR n cR) vO bj2 M ord sg (esK n m q) _ HLQ.out HSQ.out hqn hn).mono ?_;rintro e w6 ⟨rfl,hb6,hok6⟩;have HB6:=hid (HBQ.out.trans (hb6.mono HLTB.out));have HF6:=hid (show w6.heap[gm+1]? =some (.cells #[.int .i64 0,.int .i64 0] 38 (0,0)) from (hb6.block _ HFB5.out).trans HFQ.out);obtain ⟨bj6,M6,ord6,sg6,h6a,h6b⟩:=hok6 HZ.out;have HL6:=hid h6a;have HS6:=hid h6b;clear hb6 hok6 h6a h6b;rw [HZ.out]);go_roundw
         case rel=> exact ⟨q+1,bj6,M6,ord6,sg6,hqn,by go_num,HL6.out,HS6.out,HB6.out,HF6.out,fun i hi=> by
          by_cases e:i=q
          · subst e;exact HZ.out
          · exact HST.out i (by omega)⟩
         case measure=> simp [intOf];omega
     · obtain rfl:q=n:=by omega
       have hfc:=block_cells HFQ.out;have z0:=hfc.1 0 _ rfl;have z1:=hfc.1 1 _ rfl;have f0:=hfc.2 0;have f1:=hfc.2 1;clear hfc;have HS:=hid (HALL.out.trans (low_done HST.out));go_wp2_with fail
       (try rw [Exit.noGoto_ret])
       rw [HS.out];refine bodyPost_ret (v:=.tuple #[.pointer (some ⟨g,0,none⟩),.agg #[.int .i64 0,.int .i64 0]]) ?_ rfl ⟨_,rfl,fault_set HBQ.out (by rw [HGM.out];omega) _ _,.inr ⟨_,g,_,vO,bj2,M,ord,sg,rfl,rfl,(HLQ.out.fault HFQ.out _ _).base HLTB.out,HSQ.out⟩⟩;rw [results_tmp_cell rfl];go_simp
end
section
open Go.RowKit
theorem four_frozen {w:World} {g:Nat} {a b c d:Value} {t:TypeId} (h:w.heap[g]? =some (.cells #[a,b,c,d] t (0,0))):
 w.frozen? ⟨g,0,none⟩=false∧w.frozen? ⟨g,1,none⟩=false∧w.frozen? ⟨g,2,none⟩=false∧w.frozen? ⟨g,3,none⟩=false:=by
 refine ⟨?_,?_,?_,?_⟩ <;> simp [World.frozen?,h]
def RetOpen (n:Nat) (R:Nat→List Cx) (ord:List Int) (w:World) (e:Ending) (w':World):Prop:=
 ∃vl vu vo,e=.returned (.tuple #[.agg #[.int .i64 n,vl,vu,vo],.bool true])∧IsSl w' 1 vl (n * n) ((matL (lowL R) n n 0).map mkC)∧IsSl w' 1 vu (n * n) ((matL (lowU R) n n 0).map mkC)∧
  IsSl w' 1 vo n (ord.map (Value.int .i64))∧Below w.heap.size w w'
theorem sopen_any (p:Value) (n:Nat) (R:Nat→List Cx) (ord:List Int) (sg:Int) (w:World) (h:LowAt w p n R ord sg) (hn:n≤64) (hlen:ord.length=n) (hsg:(sg==0)=false):
 Calls Tryz.prog 82 #[p] w (RetOpen n R ord w):=by
 have H:=hid h;obtain ⟨g,vR,vO,V,rfl,_⟩:=h;have hfd:∀ (a b:Int) (v:Option Addr) (m c:Nat) (w:World),(Instr.field 64 (.agg #[.int .i64 a,.int .i64 b,.slice v m c]) 2).run Tryz.prog w=.ok (.slice v m c) w:=fun _ _ _ _ _ _=> by kernel_rfl
 have HLEN:=hid hlen;clear hlen;have HBW:=hid ((Below.refl w.heap.size w).alloc (Nat.le_refl _) (.cells #[.int .i64 0,.slice none 0 0,.slice none 0 0,.slice none 0 0] 141));have HZ:=hid (heap_alloc_new w (.cells #[.int .i64 0,.slice none 0 0,.slice none 0 0,.slice none 0 0] 141));have HLT:=hid (show w.heap.size < (w.alloc (.cells #[.int .i64 0,.slice none 0 0,.slice none 0 0,.slice none 0 0] 141)).heap.size by simp);have HL:=hid (H.out.below HBW.out);go_enter Tryz.func82,Tryz.ntmps82;go_upto_region 3 with (go_at_call 104;refine (low_sign _ _ _ _ _ _ HL.out).mono ?_;rintro e w' ⟨rfl,rfl⟩);generalize w.alloc (.cells #[.int .i64 0,.slice none 0 0,.slice none 0 0,.slice none 0 0] 141)=w1 at *;go_wp2_with (first | (go_at_call 105;refine (low_size _ _ _ _ _ _ HL.out).mono ?_;rintro e w' ⟨rfl,rfl⟩) | (go_at_call 106;refine (low_L _ _ _ _ _ _ HL.out hn).mono ?_;rintro e w2 ⟨v1,rfl,ho1,hb2⟩;obtain ⟨a1,c1,rfl⟩:=(IsSl.of_own ho1).form;have H1:=hid ho1;have HB2:=hid hb2;clear ho1 hb2) | (go_at_call 107;refine (low_U _ _ _ _ _ _ (HL.out.below HB2.out) hn).mono ?_;rintro e w3 ⟨v2,rfl,ho2,hb3⟩;obtain ⟨a2,c2,rfl⟩:=(IsSl.of_own ho2).form;have H2:=hid (World.ownsRow.mono ho2 HB2.out.size);have H13:=hid (own_none H1.out (grown_of_below hb3 none));have HB3:=hid (below_step HB2.out hb3);clear ho2 hb3));refine (low_order _ _ _ _ _ _ (HL.out.below HB3.out) HLEN.out hn).mono ?_;rintro e w4 ⟨v3,xs3,rfl,ho3,rfl,hb4⟩;obtain ⟨a3,c3,rfl⟩:=(IsSl.of_own ho3).form;have H3:=hid (World.ownsRow.mono ho3 HB3.out.size);have H14:=hid (own_none H13.out (grown_of_below hb4 none));have H24:=hid (own_none H2.out (grown_of_below hb4 none));have HB4:=hid (below_step HB3.out hb4);obtain ⟨z0,z1,z2,z3⟩:=low_cells (block_keep (below_step HB3.out hb4) HZ.out)
 obtain ⟨y0,y1,y2,y3⟩:=four_frozen (block_keep (below_step HB3.out hb4) HZ.out);clear ho3 hb4;go_wp2_with fail
 (try simp only [Exit.inBlock,Exit.then])
 (try rw [Exit.noGoto_ret])
 refine bodyPost_ret (v:=.tuple #[.agg #[.int .i64 n,.slice a1 (n * n) c1,.slice a2 (n * n) c2,.slice a3 n c3],.bool true]) ?_ rfl ⟨_,_,_,rfl,IsSl.of_own (B:=w1.heap.size) (ownsRow_setCell_below (ownsRow_setCell_below (ownsRow_setCell_below (ownsRow_setCell_below H14.out HLT.out _) HLT.out _) HLT.out _) HLT.out _),IsSl.of_own (B:=w1.heap.size) (ownsRow_setCell_below (ownsRow_setCell_below (ownsRow_setCell_below (ownsRow_setCell_below H24.out HLT.out _) HLT.out _) HLT.out _) HLT.out _),IsSl.of_own (B:=w1.heap.size) (ownsRow_setCell_below (ownsRow_setCell_below (ownsRow_setCell_below (ownsRow_setCell_below H3.out HLT.out _) HLT.out _) HLT.out _) HLT.out _),((((HBW.out.trans (HB4.out.mono HBW.out.size)).setCell (Nat.le_refl _) _).setCell (Nat.le_refl _) _).setCell (Nat.le_refl _) _).setCell (Nat.le_refl _) _⟩;rw [results_cell_tmp rfl];go_simp
end
end Go.Proofs.YtaegmlhfecfgkaaGreatDoor
