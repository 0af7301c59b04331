/- a part of the proof of the last text -/
import Derived.Test.YtejooaeppcjhjaaGreatZRCol
namespace Go.Proofs.YtejooaeppcjhjaaGreat
set_option linter.all false
set_option maxHeartbeats 4000000
set_option maxRecDepth 100000
section
open Go.RowKit
def lessS (t:Cx × Bool) (a b:Cx):Cx × Bool:=(csub t.1 (cmul a b),t.2 && cfin (csub t.1 (cmul a b)))
def zDp (A x:Nat→Cx) (lo:Nat) (t:Cx × Bool):Nat→Cx × Bool
 | 0=> t
 | m+1=> lessS (zDp A x lo t m) (A (lo+m)) (x (lo+m))
def fwdS (L:Mx) (b:Nat→Cx):Nat→(Nat→Cx) × Bool
 | 0=> (fun _=> cZ0,true)
 | i+1=> (upd (fwdS L b i).1 i (zDp (L i) (fwdS L b i).1 0 (b i,(fwdS L b i).2) i).1,(zDp (L i) (fwdS L b i).1 0 (b i,(fwdS L b i).2) i).2)
where cZ0:Cx:=(fc 0,fc 0)
def bwdS (n:Nat) (U:Mx) (y:Nat→Cx) (ok:Bool):Nat→(Nat→Cx) × Bool
 | 0=> (y,ok)
 | m+1=> (upd (bwdS n U y ok m).1 (n - 1 - m) (cdiv (zDp (U (n - 1 - m)) (bwdS n U y ok m).1 (n - m) ((bwdS n U y ok m).1 (n - 1 - m),(bwdS n U y ok m).2) m).1 (U (n - 1 - m) (n - 1 - m))),
  (zDp (U (n - 1 - m)) (bwdS n U y ok m).1 (n - m) ((bwdS n U y ok m).1 (n - 1 - m),(bwdS n U y ok m).2) m).2 &&
   cfin (cdiv (zDp (U (n - 1 - m)) (bwdS n U y ok m).1 (n - m) ((bwdS n U y ok m).1 (n - 1 - m),(bwdS n U y ok m).2) m).1 (U (n - 1 - m) (n - 1 - m))))
def zDr (n:Nat) (s:Es) (b:Nat→Cx):(Nat→Cx) × Bool:=bwdS n s.R (fwdS s.R (fun i=> b (s.ord i)) n).1 (fwdS s.R (fun i=> b (s.ord i)) n).2 n
end
section
open Go.RowKit
def zEj (e:Int):Int × Int:=if e=0 then (0,0) else (e,-1)
def askS (b:Bool) (om:Nat):Int:=if b=true then 1 else angE om
def lowM (n:Nat) (m:Nat→Cx):Option Es × (Int × Int):=
 match (List.range (n * n)).find? fun p=> !cfin (m p) with
 | some p=> (none,(5,p))
 | none=> lowE n m
def zDd (b:Bool) (l:List El) (om:Nat) (r:List Cx):Option (Nat→Cx) × (Int × Int):=
 if askS b om≠0 then (none,zEj (askS b om)) else if r.length≠szL l then (none,(4,-1)) else if r.all cfin=false then (none,(5,-1))
 else if grdS false l≠ (0,0) then (none,grdS false l) else if (matS false l om).2≠ (0,0) then (none,(matS false l om).2)
 else match lowM (szL l) (matK l om l.length) with
  | (none,f)=> (none,f)
  | (some s,_)=> if (zDr (szL l) s fun i=> r.getD i (0,0)).2=true then (some (zDr (szL l) s fun i=> r.getD i (0,0)).1,(0,0)) else (none,(6,-1))
def solS (b:Bool) (l:List El) (om:Nat):Option (Nat→Cx) × (Int × Int):=
 if askS b om≠0 then (none,zEj (askS b om)) else if grdS false l≠ (0,0) then (none,grdS false l) else if (matS false l om).2≠ (0,0) then (none,(matS false l om).2)
 else if (rgtE false l).2≠ (0,0) then (none,(rgtE false l).2) else zDd false l om (rgtE false l).1
end
section
open Go.RowKit
def RetLowOf (n:Nat) (S:Option Es × (Int × Int)) (w:World) (e:Ending) (w':World):Prop:=
 ∃p:Value,e=.returned (.tuple #[p,.agg #[.int .i64 S.2.1,.int .i64 S.2.2]])∧Below w.heap.size w w'∧
  ((S.1=none∧p=.pointer none)∨∃s g vR vO bj M ord sg,S.1=some s∧p=.pointer (some ⟨g,0,none⟩)∧LwAt w.heap.size w' g vR vO n n n bj M ord sg∧LwS n s M ord sg)
theorem lowM_bad {n k:Nat} {m:Nat→Cx} (hk:k < n * n) (h:∀i,i < k→cfin (m i)=true) (hp:cfin (m k)=false):lowM n m=(none,(5,(k:Int))):=by
 unfold lowM;rw [find_at hk (fun i hi=> by simp [h i hi]) (by simp [hp])]
theorem lowM_go {n:Nat} {m:Nat→Cx} (h:∀i,i < n * n→cfin (m i)=true):lowM n m=lowE n m:=by
 unfold lowM;rw [List.find?_eq_none.2 (fun i hi=> by simp [h i (by simpa using hi)])]
theorem getD_at {α:Type} {l:List α} {k:Nat} {z d:α} (h:l[k]? =some z):l.getD k d=z:=by rw [List.getD_eq_getElem?_getD,h];rfl
theorem start_s {n:Nat} {xs:List Cx} {m:Nat→Cx} (hx:xs.length=n * n) (hm:∀i,i < n * n→m i=ck (xs.getD i (0,0))):LwS n (esK n m 0) (fun j=> (xs.drop (j * n)).take n) ((List.range n).map Int.ofNat) 1:=by
 refine ⟨fun i j hi hj=> ?_,by simp,fun i hi=> ?_,rfl⟩
 · show ck (((xs.drop (i * n)).take n).getD j (0,0))=m (i * n+j);rw [hm _ (by have:=Nat.mul_le_mul_right n (show i+1≤n from hi);rw [Nat.add_mul] at this;omega)];rw [List.getD_eq_getElem?_getD,List.getElem?_take,if_pos hj,List.getElem?_drop,←List.getD_eq_getElem?_getD]
 · rw [List.getElem?_map,List.getElem?_range hi];rfl
theorem zGw {w w1:World} {B g:Nat} (hb:Below B w w1) (hg:B≤g) (x y:Value):Below B w ((w1.setCell ⟨g,0,none⟩ x).setCell ⟨g,1,none⟩ y):=(hb.setCell (p:=⟨g,0,none⟩) hg x).setCell (p:=⟨g,1,none⟩) hg y
theorem LwAt.base {B B' g n m mo:Nat} {w:World} {vR vO:Value} {bj:Nat→Nat} {M:Nat→List Cx} {ord:List Int} {sg:Int} (h:LwAt B w g vR vO n m mo bj M ord sg) (hB:B'≤B):LwAt B' w g vR vO n m mo bj M ord sg:=
 ⟨Nat.le_trans hB h.gB,fun j hj=> Nat.le_trans hB (h.bB j hj),h.box,zBs h.oR hB,zBs h.oO hB,h.row,h.len,h.inj⟩
theorem LwAt.fault {B g n m mo r:Nat} {w:World} {vR vO:Value} {bj:Nat→Nat} {M:Nat→List Cx} {ord:List Int} {sg:Int} {cs:Array Value} (h:LwAt B w g vR vO n m mo bj M ord sg) (hr:w.heap[r]? =some (.cells cs 32 (0,0))) (x y:Value):
 LwAt B ((w.setCell ⟨r,0,none⟩ x).setCell ⟨r,1,none⟩ y) g vR vO n m mo bj M ord sg:=
 h.typ hr (zAf (zAj w r 0 x) (zAj _ r 1 y)) (by decide) (by decide) (by decide) (.inl (by decide))
theorem lowof_any (n nn:Nat) (v:Value) (xs:List Cx) (m:Nat→Cx) (w:World) (hv:IsSl w 1 v nn (xs.map mkC)) (hn:n≤64) (hnn:nn=n * n) (hm:∀i,i < n * n→m i=ck (xs.getD i (0,0))):
 Calls Tryz.prog 137 #[.agg #[.int .i64 n,.int .i64 n,v]] w (RetLowOf n (lowM n m) w):=by
 obtain ⟨aD,cD,rfl⟩:=hv.form;have hxl:xs.length=nn:=by have:=hv.1;simp at this;omega
 have HXL:=hid (show xs.length=n * n by rw [hxl,hnn]);have HXN:=hid hxl;obtain ⟨t1,t2,t3⟩:=zDk w (.cells #[.int .i64 n,.int .i64 n,.slice aD nn cD] 99) (.cells #[.int .i64 0,.int .i64 0] 32);have HM:=hid t1;have HF:=hid t2;have HB:=hid t3;have HV:=hid (hv.below t3 (Nat.le_refl _));have HNN:=hid hnn;have hn40:nn≤4096:=by rw [hnn];exact Nat.le_trans (Nat.mul_le_mul hn hn) (by decide)
 obtain ⟨ic,hic,hc0,hc1,hc2⟩:=info_parts zEm;have HMM:=hid hm;have HS0:=hid (start_s HXL.out hm);clear hm;clear hv hxl hnn t1 t2 t3;go_enter Tryz.func137,Tryz.ntmps137;go_upto_region 1 with fail;generalize (w.alloc (.cells #[.int .i64 n,.int .i64 n,.slice aD nn cD] 99)).alloc (.cells #[.int .i64 0,.int .i64 0] 32)=w1 at *;obtain ⟨gm,hgm⟩:∃gm,w.heap.size=gm:=⟨_,rfl⟩;rw [hgm] at HM HF HB⊢;rw [←hgm] at HB;have HGM:=hid hgm;clear hgm;have hsc:=zAb HM.out;have m0:=hsc.1 0 _ rfl;have m1:=hsc.1 1 _ rfl;have m2:=hsc.1 2 _ rfl;clear hsc;go_upto_region 3 with (go_at_call 169;refine (mcheck_any n nn aD cD _ hn HNN.out).mono ?_;rintro e w2 ⟨rfl,hb⟩;have HM1:=hid (zAc hb HM.out);have HF1:=hid (zAc hb HF.out);have HV1:=hid (HV.out.below hb (Nat.le_refl _));have HB1:=hid (zAd HB.out hb);clear m0 m1 m2;have hm:=zAb HM1.out;have m0:=hm.1 0 _ rfl;have m1:=hm.1 1 _ rfl;have m2:=hm.1 2 _ rfl;clear hm;clear hb);clear HM HF HV HB;go_wp2
 go_loopw [23] (fun i wr=> ∃k:Nat,k≤nn∧i=.int .i64 k∧Below w2.heap.size w2 wr∧∀j,j < k→cfin (m j)=true) (fun i _=> nn - (intOf i).toNat)
 case atStart=> exact ⟨0,Nat.zero_le _,rfl,Below.refl _ _,fun j hj=> absurd hj (Nat.not_lt_zero _)⟩
 case round=>
  obtain ⟨k,hk,rfl,hb,hfi⟩:=hrel;have HFI:=hid hfi;have HBW:=hid hb;clear hfi m0 m1 m2;have HM2:=hid (zAc hb HM1.out);have HF2:=hid (zAc hb HF1.out);have HV2:=hid (HV1.out.below hb (Nat.le_refl _));have HB2:=hid (zAd HB1.out hb);clear hb HM1 HF1 HV1 HB1
  by_cases hlt:k < nn
  · obtain ⟨g,o2,x,hidx,hg,hcell,hx⟩:=IsSl.at1 Tryz.underlying70 hic hc1 HV2.out (k:=k) hlt;obtain ⟨z,hz,rfl⟩:=map_getElem? hx;obtain ⟨z1,z2⟩:=z;unfold mkC at hcell;dsimp only at hcell;have HZ:=hid (show m k=(fc z1,fc z2) by rw [HMM.out k (by rw [←HNN.out];exact hlt),getD_at hz];rfl);have HKN:=hid hlt;clear hx hz hg;cases hf:cfin (fc z1,fc z2)
    · have HCF:=hid hf;go_upto_region 7 with (go_at_call 38;refine (zCj z1 z2 _).mono ?_;rintro e w4 ⟨v,nn4,rfl,he,rfl⟩;have hb4:Below wr.heap.size wr w4:=(by rw [he];exact zAg (Below.refl _ _) nn4);have HF4:=hid (zAc hb4 HF2.out);have HB4:=hid (zAd HB2.out hb4);clear he hb4);have hfc:=zAb HF4.out;have z0:=hfc.1 0 _ rfl;have z1':=hfc.1 1 _ rfl;have f0:=hfc.2 0;have f1:=hfc.2 1;clear hfc;have HS:=hid (lowM_bad (n:=n) (m:=m) (k:=k) (by rw [←HNN.out];exact HKN.out) HFI.out (by rw [HZ.out];exact HCF.out));go_wp2_with fail
      (try rw [Exit.noGoto_ret])
      refine bodyPost_ret (v:=.tuple #[.pointer none,.agg #[.int .i64 5,.int .i64 k]]) ?_ rfl ⟨.pointer none,by rw [HS.out],zGw HB4.out (by rw [HGM.out];omega) _ _,.inl ⟨by rw [HS.out],rfl⟩⟩;rw [zAi rfl];go_simp
    · have HCF:=hid hf;go_wp2_with (go_at_call 38;refine (zCj z1 z2 _).mono ?_;rintro e w4 ⟨v,nn4,rfl,he,rfl⟩;have hb4:Below w2.heap.size w2 w4:=(by rw [he];exact zAg HBW.out nn4);clear he);go_roundw
      case rel=> exact ⟨k+1,hlt,by go_num,hb4,fun j hj=> by
       by_cases e:j=k
       · subst e;rw [HZ.out];exact HCF.out
       · exact HFI.out j (by omega)⟩
      case measure=> simp [intOf];omega
  · obtain rfl:k=nn:=by omega
    have HALL:=hid (show lowM n m=lowE n m from lowM_go (fun i hi=> HFI.out i (by rw [HNN.out];exact hi)));clear HFI HBW;go_upto_region 9 with fail;have hsc:=zAb HM2.out;have m0:=hsc.1 0 _ rfl;have m1:=hsc.1 1 _ rfl;have m2:=hsc.1 2 _ rfl;clear hsc;obtain ⟨B5,hB5⟩:∃B5,wr.heap.size=B5:=⟨_,rfl⟩;have HB5:=hid hB5;have HLTB:=hid (show w.heap.size≤B5 by rw [←hB5];exact HB2.out.size);have HFB5:=hid (show gm+1 < B5 by rw [←hB5];exact (Array.getElem?_eq_some_iff.1 HF2.out).1);clear hB5;go_upto_region 10 with (go_at_call 170;refine (lstart_any n k _ xs _ HV2.out hn HNN.out).mono ?_;rintro e w5 ⟨g,vR,vO,bj,rfl,hla,hb⟩;rw [HB5.out] at hla;have HLA:=hid hla;have HM3:=hid (zAc hb HM2.out);have HF3:=hid (zAc hb HF2.out);have HV3:=hid (HV2.out.below hb (Nat.le_refl _));have HB3:=hid (zAd HB2.out hb);clear hla hb);clear m0 m1 m2 HM2 HF2 HV2 HB2;obtain ⟨aR,cR,rfl⟩:=(IsSl.of_own HLA.out.oR).form;have c1:=(zAa HLA.out.box).1 1 _ rfl;go_wp2
    go_loopw [41] (fun i wr=> ∃ (k:Nat) (bj:Nat→Nat) (M:Nat→List Cx) (ord:List Int) (sg:Int),k≤n∧i=.int .i64 k∧LwAt B5 wr g (.slice aR n cR) vO n n n bj M ord sg∧LwS n (esK n m k) M ord sg∧Below w.heap.size w wr∧wr.heap[gm+1]? =some (.cells #[.int .i64 0,.int .i64 0] 32 (0,0))∧∀i,i < k→(zDu n (esK n m i) i).2=0) (fun i _=> n - (intOf i).toNat)
    case atStart=> exact ⟨0,bj,_,_,1,Nat.zero_le _,rfl,HLA.out,HS0.out,HB3.out,HF3.out,fun i hi=> absurd hi (Nat.not_lt_zero _)⟩
    case round=>
     obtain ⟨q,bj2,M,ord,sg,hq,rfl,hla,hls,hbq,hfq,hst⟩:=hrel;have HLQ:=hid hla;have HSQ:=hid hls;have HBQ:=hid hbq;have HFQ:=hid hfq;have HST:=hid hst;clear hla hls hbq hfq hst c1 HLA HS0 HB3 HF3
     by_cases hqn:q < n
     · have HQN:=hid hqn;have HFC:=hid (show w.heap.size≤gm+1 by rw [HGM.out];omega);cases hz:((zDu n (esK n m q) q).2==0)
       · have HZ:=hid (show (zDu n (esK n m q) q).2≠0 by simpa using hz);have hz2:((zDu n (esK n m q) q).2 !=0)=true:=by simpa using hz
         clear hz;go_upto_region 15 with (go_at_call 171;refine (lstep_any B5 n g q (.slice aR n cR) vO bj2 M ord sg (esK n m q) _ HLQ.out HSQ.out hqn hn).mono ?_;rintro e w6 ⟨rfl,hb6,hok6⟩;have HB6:=hid (HBQ.out.trans (hb6.mono HLTB.out));have HF6:=hid (show w6.heap[gm+1]? =some (.cells #[.int .i64 0,.int .i64 0] 32 (0,0)) from (hb6.block _ HFB5.out).trans HFQ.out);clear hb6 hok6);have hfc:=zAb HF6.out;have z0:=hfc.1 0 _ rfl;have z1:=hfc.1 1 _ rfl;have f0:=hfc.2 0;have f1:=hfc.2 1;clear hfc;have HS:=hid (HALL.out.trans (low_stop HQN.out HST.out HZ.out));go_wp2_with fail
         (try rw [Exit.noGoto_ret])
         rw [HS.out];refine bodyPost_ret (v:=.tuple #[.pointer none,.agg #[.int .i64 (zDu n (esK n m q) q).2,.int .i64 q]]) ?_ rfl ⟨.pointer none,rfl,zGw HB6.out HFC.out _ _,.inl ⟨rfl,rfl⟩⟩;rw [zAi rfl];go_simp
       · have HZ:=hid (show (zDu n (esK n m q) q).2=0 by simpa using hz);clear hz;go_wp2_with (go_at_call 171;refine (lstep_any B5 n g q (.slice aR n cR) vO bj2 M ord sg (esK n m q) _ HLQ.out HSQ.out hqn hn).mono ?_;rintro e w6 ⟨rfl,hb6,hok6⟩;have HB6:=hid (HBQ.out.trans (hb6.mono HLTB.out));have HF6:=hid (show w6.heap[gm+1]? =some (.cells #[.int .i64 0,.int .i64 0] 32 (0,0)) from (hb6.block _ HFB5.out).trans HFQ.out);obtain ⟨bj6,M6,ord6,sg6,h6a,h6b⟩:=hok6 HZ.out;have HL6:=hid h6a;have HS6:=hid h6b;clear hb6 hok6 h6a h6b;rw [HZ.out]);go_roundw
         case rel=> exact ⟨q+1,bj6,M6,ord6,sg6,hqn,by go_num,HL6.out,HS6.out,HB6.out,HF6.out,fun i hi=> by
          by_cases e:i=q
          · subst e;exact HZ.out
          · exact HST.out i (by omega)⟩
         case measure=> simp [intOf];omega
     · obtain rfl:q=n:=by omega
       have hfc:=zAb HFQ.out;have z0:=hfc.1 0 _ rfl;have z1:=hfc.1 1 _ rfl;have f0:=hfc.2 0;have f1:=hfc.2 1;clear hfc;have HS:=hid (HALL.out.trans (low_done HST.out));go_wp2_with fail
       (try rw [Exit.noGoto_ret])
       rw [HS.out];refine bodyPost_ret (v:=.tuple #[.pointer (some ⟨g,0,none⟩),.agg #[.int .i64 0,.int .i64 0]]) ?_ rfl ⟨_,rfl,zGw HBQ.out (by rw [HGM.out];omega) _ _,.inr ⟨_,g,_,vO,bj2,M,ord,sg,rfl,rfl,(HLQ.out.fault HFQ.out _ _).base HLTB.out,HSQ.out⟩⟩;rw [zAi rfl];go_simp
end
section
open Go.RowKit
def RetRLo (n:Nat) (S:Option Es × (Int × Int)) (w:World) (e:Ending) (w':World):Prop:=
 ∃p:Value,e=.returned (.tuple #[p,.agg #[.int .i64 S.2.1,.int .i64 S.2.2]])∧Below w.heap.size w w'∧
  ((S.1=none∧p=.pointer none)∨∃s g vR vO V M ord odd ties,S.1=some s∧p=.pointer (some ⟨g,0,none⟩)∧RLw w.heap.size w' g vR vO n n n V M ord odd ties∧RLs n s M ord odd)
theorem RLw.base {B B' g n m mo:Nat} {w:World} {vR vO:Value} {V:Nat→Value} {M:Nat→List Cx} {ord:List Int} {odd ties:Bool} (h:RLw B w g vR vO n m mo V M ord odd ties) (hB:B'≤B):RLw B' w g vR vO n m mo V M ord odd ties:=
 ⟨Nat.le_trans hB h.gB,h.box,zBs h.oR hB,zBs h.oO hB,fun j hj=> zBs (h.row j hj) hB,h.len,h.inj⟩
theorem RLw.fault {B g n m mo r:Nat} {w:World} {vR vO:Value} {V:Nat→Value} {M:Nat→List Cx} {ord:List Int} {odd ties:Bool} {cs:Array Value} (h:RLw B w g vR vO n m mo V M ord odd ties) (hr:w.heap[r]? =some (.cells cs 32 (0,0))) (x y:Value):
 RLw B ((w.setCell ⟨r,0,none⟩ x).setCell ⟨r,1,none⟩ y) g vR vO n m mo V M ord odd ties:=by
 have hg:=zAf (zAj w r 0 x) (zAj (w.setCell ⟨r,0,none⟩ x) r 1 y);exact ⟨h.gB,zAk hg (Ne.symm (zAv hr h.box (by decide))) h.box,zAz h.oR hg (fun k e1 e2=> by obtain rfl:=Option.some.inj e2;obtain ⟨_,c2,hc2⟩:=zAx h.oR e1;exact zAv hr hc2 (by decide) rfl),zAz h.oO hg (fun k e1 e2=> by obtain rfl:=Option.some.inj e2;obtain ⟨_,c2,hc2⟩:=zAx h.oO e1;exact zAv hr hc2 (by decide) rfl),fun j hj=> zAz (h.row j hj) hg (fun k e1 e2=> by obtain rfl:=Option.some.inj e2;obtain ⟨_,c2,hc2⟩:=zAx (h.row j hj) e1;exact zAv hr hc2 (by decide) rfl),h.len,h.inj⟩
theorem row_push {w wr w3:World} {g1 m:Nat} {v:Value} {xs:List Cx} (hb:Below w.heap.size w wr) (hown:wr.ownsRow w.heap.size 49 1 v m (xs.map mkC))
 (two:(v.ownBlock=some g1∧wr.grownBy w3 (some g1))∨(wr.heap.size≤g1∧wr.grownBy w3 none)):Below w.heap.size w w3:=by
 rcases two with ⟨e,hg⟩ | ⟨_,hg⟩
 · exact hb.grown hg hb.size (by intro k e2;cases e2;exact (hown.lt _ e).1)
 · exact hb.grown hg hb.size (by intro k e2;cases e2)
theorem own_below {B e m g1:Nat} {w w2 w3:World} {v:Value} {xs:List Value} (hb:Below B w w2) (hs:B≤w2.heap.size) (hown:w2.ownsRow B e 1 v m xs)
 (two:(v.ownBlock=some g1∧w2.grownBy w3 (some g1))∨(w2.heap.size≤g1∧w2.grownBy w3 none)):Below B w w3:=by
 rcases two with ⟨e,hg⟩ | ⟨_,hg⟩
 · exact hb.grown hg hs (by intro k e2;cases e2;exact (hown.lt _ e).1)
 · exact hb.grown hg hs (by intro k e2;cases e2)
theorem take_more {xs:List Cx} {k n j:Nat} {z:Cx} (hz:xs[k * n+j]? =some z):(xs.drop (k * n)).take (j+1)=(xs.drop (k * n)).take j++ [z]:=by
 rw [List.take_add_one,List.getElem?_drop,hz];rfl
theorem rlowof_any (n nn:Nat) (v:Value) (xs:List Cx) (m:Nat→Cx) (w:World) (hv:IsSl w 1 v nn (xs.map mkC)) (hn:n≤64) (hnn:nn=n * n) (hm:∀i,i < n * n→m i=ck (xs.getD i (0,0))):
 Calls Tryz.prog 53 #[.agg #[.int .i64 n,.int .i64 n,v]] w (RetRLo n (lowM n m) w):=by
 obtain ⟨aD,cD,rfl⟩:=hv.form;have hxl:xs.length=nn:=by have:=hv.1;simp at this;omega
 have HXL:=hid (show xs.length=n * n by rw [hxl,hnn]);have HXN:=hid hxl;obtain ⟨t1,t2,t3⟩:=zDk w (.cells #[.int .i64 n,.int .i64 n,.slice aD nn cD] 99) (.cells #[.int .i64 0,.int .i64 0] 32);have HM:=hid t1;have HF:=hid t2;have HB:=hid t3;have HV:=hid (hv.below t3 (Nat.le_refl _));have HNN:=hid hnn;have hn40:nn≤4096:=by rw [hnn];exact Nat.le_trans (Nat.mul_le_mul hn hn) (by decide)
 obtain ⟨ic,hic,hc0,hc1,hc2⟩:=info_parts zEm;obtain ⟨ir,hir,hr0,hr1,hr2⟩:=info_parts infoCs;obtain ⟨ii,hii,hi0,hi1,hi2⟩:=info_parts zHf;have HMM:=hid hm;have HS0:=hid (start_s HXL.out hm);clear hm;clear hv hxl hnn t1 t2 t3;go_enter Tryz.func53,Tryz.ntmps53;go_upto_region 1 with fail;generalize (w.alloc (.cells #[.int .i64 n,.int .i64 n,.slice aD nn cD] 99)).alloc (.cells #[.int .i64 0,.int .i64 0] 32)=w1 at *;obtain ⟨gm,hgm⟩:∃gm,w.heap.size=gm:=⟨_,rfl⟩;rw [hgm] at HM HF HB⊢;rw [←hgm] at HB;have HGM:=hid hgm;clear hgm;have hsc:=zAb HM.out;have m0:=hsc.1 0 _ rfl;have m1:=hsc.1 1 _ rfl;have m2:=hsc.1 2 _ rfl;clear hsc;go_upto_region 3 with (go_at_call 97;refine (rshaped_any n nn aD cD _ hn HNN.out).mono ?_;rintro e w2 ⟨rfl,hb⟩;have HM1:=hid (zAc hb HM.out);have HF1:=hid (zAc hb HF.out);have HV1:=hid (HV.out.below hb (Nat.le_refl _));have HB1:=hid (zAd HB.out hb);clear m0 m1 m2;have hm:=zAb HM1.out;have m0:=hm.1 0 _ rfl;have m1:=hm.1 1 _ rfl;have m2:=hm.1 2 _ rfl;clear hm;clear hb);clear HM HF HV HB;go_wp2
 go_loopw [4] (fun i wr=> ∃k:Nat,k≤nn∧i=.int .i64 k∧Below w2.heap.size w2 wr∧∀j,j < k→cfin (m j)=true) (fun i _=> nn - (intOf i).toNat)
 case atStart=> exact ⟨0,Nat.zero_le _,rfl,Below.refl _ _,fun j hj=> absurd hj (Nat.not_lt_zero _)⟩
 case round=>
  obtain ⟨k,hk,rfl,hb,hfi⟩:=hrel;have HFI:=hid hfi;have HBW:=hid hb;clear hfi m0 m1 m2;have HM2:=hid (zAc hb HM1.out);have HF2:=hid (zAc hb HF1.out);have HV2:=hid (HV1.out.below hb (Nat.le_refl _));have HB2:=hid (zAd HB1.out hb);clear hb HM1 HF1 HV1 HB1;have hsc:=zAb HM2.out;have m0:=hsc.1 0 _ rfl;have m1:=hsc.1 1 _ rfl;have m2:=hsc.1 2 _ rfl;clear hsc
  by_cases hlt:k < nn
  · obtain ⟨g,o2,x,hidx,hg,hcell,hx⟩:=IsSl.at1 Tryz.underlying70 hic hc1 HV2.out (k:=k) hlt;obtain ⟨z,hz,rfl⟩:=map_getElem? hx;obtain ⟨z1,z2⟩:=z;unfold mkC at hcell;dsimp only at hcell;have HZ:=hid (show m k=(fc z1,fc z2) by rw [HMM.out k (by rw [←HNN.out];exact hlt),getD_at hz];rfl);have HKN:=hid hlt;clear hx hz hg;cases hf:cfin (fc z1,fc z2)
    · have HCF:=hid hf;clear hf;go_upto_region 7 with (go_at_call 35;refine (zBp z1 z2 _).mono ?_;rintro e w4 ⟨v,nn4,rfl,he,rfl⟩;rw [HCF.out];have hb4:Below wr.heap.size wr w4:=(by rw [he];exact zAg (Below.refl _ _) nn4);have HF4:=hid (zAc hb4 HF2.out);have HB4:=hid (zAd HB2.out hb4);clear he hb4);have hfc:=zAb HF4.out;have z0:=hfc.1 0 _ rfl;have z1':=hfc.1 1 _ rfl;have f0:=hfc.2 0;have f1:=hfc.2 1;clear hfc;have HS:=hid (lowM_bad (n:=n) (m:=m) (k:=k) (by rw [←HNN.out];exact HKN.out) HFI.out (by rw [HZ.out];exact HCF.out));go_wp2_with fail
      (try rw [Exit.noGoto_ret])
      refine bodyPost_ret (v:=.tuple #[.pointer none,.agg #[.int .i64 5,.int .i64 k]]) ?_ rfl ⟨.pointer none,by rw [HS.out],zGw HB4.out (by rw [HGM.out];omega) _ _,.inl ⟨by rw [HS.out],rfl⟩⟩;rw [zAi rfl];go_simp
    · have HCF:=hid hf;clear hf;go_wp2_with (go_at_call 35;refine (zBp z1 z2 _).mono ?_;rintro e w4 ⟨v,nn4,rfl,he,rfl⟩;rw [HCF.out];have hb4:Below w2.heap.size w2 w4:=(by rw [he];exact zAg HBW.out nn4);clear he);go_roundw
      case rel=> exact ⟨k+1,hlt,by go_num,hb4,fun j hj=> by
       by_cases e:j=k
       · subst e;rw [HZ.out];exact HCF.out
       · exact HFI.out j (by omega)⟩
      case measure=> simp [intOf];omega
  · obtain rfl:k=nn:=by omega
    have HALL:=hid (show lowM n m=lowE n m from lowM_go (fun i hi=> HFI.out i (by rw [HNN.out];exact hi)));have HFE:=hid (show∀p,p < n * n→cfin (m p)=true from fun i hi=> HFI.out i (by rw [HNN.out];exact hi));clear HFI HBW;go_upto_region 10 with fail;obtain ⟨B5,hB5⟩:∃B5,wr.heap.size=B5:=⟨_,rfl⟩;have HB5:=hid hB5;have HLTB:=hid (show w.heap.size≤B5 by rw [←hB5];exact HB2.out.size);have HFB5:=hid (show gm+1 < B5 by rw [←hB5];exact (Array.getElem?_eq_some_iff.1 HF2.out).1);have hb1:=(Below.refl wr.heap.size wr).alloc (Nat.le_refl _) (.cells #[.int .i64 n,.slice none 0 0,.slice none 0 0,.bool false,.bool false,.bool true] 155);have HBX:=hid (heap_alloc_new wr (.cells #[.int .i64 n,.slice none 0 0,.slice none 0 0,.bool false,.bool false,.bool true] 155));have HB3:=hid (show Below B5 wr (wr.alloc (.cells #[.int .i64 n,.slice none 0 0,.slice none 0 0,.bool false,.bool false,.bool true] 155)) by rw [←hB5];exact hb1);rw [hB5] at HBX⊢;clear hB5 hb1 m0 m1 m2;generalize wr.alloc (.cells #[.int .i64 n,.slice none 0 0,.slice none 0 0,.bool false,.bool false,.bool true] 155)=w5 at *;obtain ⟨wf,rfl⟩:∃wf:World,wf=wr:=⟨_,rfl⟩;have HL0:=hid (show RLw B5 w5 B5 (.slice none 0 0) (.slice none 0 0) n 0 0 (fun _=> .slice none 0 0) (fun j=> (xs.drop (j * n)).take n) ((List.range 0).map Int.ofNat) false false from
     ⟨Nat.le_refl _,HBX.out,World.ownsRow_nil _ _ _ _,World.ownsRow_nil _ _ _ _,fun j hj=> absurd hj (Nat.not_lt_zero _),fun j hj=> absurd hj (Nat.not_lt_zero _),fun i j k hi=> absurd hi (Nat.not_lt_zero _)⟩)
    have HMB:=hid (show∀W:World,Below B5 wf W→W.heap[gm]? =some (.cells #[.int .i64 n,.int .i64 n,.slice aD k cD] 99 (0,0))∧W.heap[gm+1]? =some (.cells #[.int .i64 0,.int .i64 0] 32 (0,0))∧IsSl W 1 (.slice aD k cD) k (xs.map mkC)∧Below w.heap.size w W from
     fun W h=> by
      have hf5:=HFB5.out;refine ⟨(h.block _ (by omega)).trans HM2.out,(h.block _ hf5).trans HF2.out,HV2.out.below h (Nat.le_of_eq HB5.out),HB2.out.trans (h.mono HLTB.out)⟩)
    clear HM2 HF2 HV2 HB2 HBX;go_wp2
    go_loopw [7] (fun i wr=> ∃ (q:Nat) (vR vO:Value) (V:Nat→Value),q≤n∧i=.int .i64 q∧RLw B5 wr B5 vR vO n q q V (fun j=> (xs.drop (j * n)).take n) ((List.range q).map Int.ofNat) false false∧Below B5 wf wr) (fun i _=> n - (intOf i).toNat)
    case atStart=> exact ⟨0,.slice none 0 0,.slice none 0 0,_,Nat.zero_le _,rfl,HL0.out,HB3.out⟩
    case round=>
     obtain ⟨wo,rfl⟩:∃wo:World,wo=wr:=⟨_,rfl⟩;obtain ⟨q,vR,vO,V,hq,rfl,hl,hb⟩:=hrel;have HL:=hid hl;have HBo:=hid hb;clear hl hb HL0 HB3
     by_cases hlt:q < n
     · have HLT:=hid hlt;obtain ⟨aR,cR,rfl⟩:=(IsSl.of_own HL.out.oR).form;obtain ⟨aO,cO,rfl⟩:=(IsSl.of_own HL.out.oO).form;have HBS:=hid (show B5≤wo.heap.size from HL.out.lt);obtain ⟨qn,hqn⟩:∃qn,q * n=qn:=⟨_,rfl⟩;have HQN:=hid hqn;have hqk:qn+n≤k:=by
        have h:=Nat.mul_le_mul_right n (show q+1≤n from hlt);rw [Nat.add_mul,hqn] at h;rw [HNN.out];omega
       have HQK:=hid hqk;clear hqn hqk;go_wp2
       go_loopw [8,9] (fun v j wr=> ∃ (j':Nat) (a:Option Addr) (c:Nat),j'≤n∧j=.int .i64 j'∧v=.slice a j' c∧wr.ownsRow wo.heap.size 49 1 (.slice a j' c) j' (((xs.drop (q * n)).take j').map mkC)∧Below wo.heap.size wo wr) (fun _ j _=> n - (intOf j).toNat)
       case atStart=> exact ⟨0,none,0,Nat.zero_le _,rfl,rfl,World.ownsRow_nil _ _ _ _,Below.refl _ _⟩
       case round=>
        obtain ⟨wj,rfl⟩:∃wj:World,wj=wr:=⟨_,rfl⟩;obtain ⟨j,aj,cj,hjn,rfl,rfl,ho,hb⟩:=hrel;have HO:=hid ho;have HBj:=hid hb;have HBW:=hid (HBo.out.trans (hb.mono HBS.out));clear ho hb
        by_cases hjl:j < n
        · obtain ⟨k1,k2,k3,k4⟩:=HMB.out wj HBW.out;have hsc:=zAb k1;have m2:=hsc.1 2 _ rfl;have hw1:=in_wrap hn (show q≤64 by omega);rw [HQN.out] at hw1;have hqk:=HQK.out;have hw2:IntKind.i64.wrap ((qn:Int)+(j:Int))=((qn+j:Nat):Int):=by rw [IntWalk.i64_in _ ⟨by omega,by omega⟩];simp
          obtain ⟨r,hr⟩:∃r,qn+j=r:=⟨_,rfl⟩;rw [hr] at hw2;obtain ⟨g3,o3,x3,hidx3,hg3,hc3,hx3⟩:=IsSl.at1 Tryz.underlying70 hic hc1 k3 (k:=r) (by omega);obtain ⟨z,hz,rfl⟩:=map_getElem? hx3;have HZ:=hid (show xs[q * n+j]? =some z by rw [HQN.out,hr];exact hz);obtain ⟨za,zb⟩:=z;unfold mkC at hc3;dsimp only at hc3;have HSJ:=hid HBj.out.size;obtain ⟨ys,hys⟩:∃ys,(xs.drop (q * n)).take j=ys:=⟨_,rfl⟩;have HYS:=hid hys;rw [hys] at HO;clear hsc k1 k2 k3 k4 hr hz hx3 hg3 hqk hys;go_wp2_with (refine zBj rfl rfl _ rfl _ _ _ rfl rfl wo.heap.size 49 1 16 ic (.complex .f64 0 0) Tryz.underlying70 hic hc0 hc1 hc2 rfl (by decide) (by decide) _ j _ HO.out HSJ.out (mkC (za,zb)) rfl rfl (by intro u hu;simp [Value.cells,mkC] at hu;subst hu;rfl) rfl rfl (by simp [maxLen];omega) (by omega) ?_;intro g1 cap1 w3 hown1 hg1 htwo;have HOW:=hid hown1;have HB9:=hid (row_push HBj.out HO.out htwo);clear hown1 hg1 htwo);go_roundw
          case rel=> exact ⟨j+1,some ⟨g1,0,none⟩,cap1,by omega,by go_num,rfl,by have h:=HOW.out;rw [take_more HZ.out,HYS.out,List.map_append];exact h,HB9.out⟩
          case measure=> simp [intOf];omega
        · obtain rfl:j=n:=by omega
          obtain ⟨row,hrow⟩:∃row,(xs.drop (q * j)).take j=row:=⟨_,rfl⟩;have HROW:=hid hrow;have HRL:=hid (show row.length=j by
           rw [←hrow,List.length_take,List.length_drop,HXN.out,HQN.out];have:=HQK.out
           omega)
          rw [hrow] at HO;have HL2:=hid (HL.out.later HBj.out);have HQ2:=hid (zBs HO.out HBS.out);have HQD:=hid (show∀i b,i < q→(V i).ownBlock=some b→(Value.slice aj j cj).ownBlock≠some b from fun i b hi h1 h2=> by
           have e1:=((HL.out.row i hi).lt b h1).2;have e2:=(HO.out.lt b h2).1
           omega)
          have HSZ2:=hid HL2.out.lt;have HQL:=hid hq;have c0:=(zAa HL2.out.box).1 0 _ rfl;have c1:=(zAa HL2.out.box).1 1 _ rfl;have c2:=(zAa HL2.out.box).1 2 _ rfl;clear hrow HL HO HBj HBo;go_upto_region 18 with fail;go_upto_region 19 with (refine zBj rfl rfl _ rfl _ _ _ rfl rfl B5 70 1 24 ir (.slice none 0 0) Tryz.underlying152 hir hr0 hr1 hr2 rfl (by decide) (by decide) _ q _ HL2.out.oR HSZ2.out (.slice aj j cj) rfl rfl (by intro u hu;simp [Value.cells] at hu;subst hu;rfl) rfl rfl (by simp [maxLen];omega) (by omega) ?_;intro g1 cap1 w3 hown1 hg1 htwo;obtain ⟨hk1,hk2⟩:=HL2.out.pushRow HQ2.out HRL.out HQD.out hown1 htwo;have HL4:=hid hk2;have HK1:=hid hk1;have f1:=(zAa hk1).2 1;have d1:=(zAa hk1).1 1 _ rfl;have HB4:=hid ((own_below HBW.out HSZ2.out HL2.out.oR htwo).setCell (p:=⟨B5,1,none⟩) (Nat.le_refl _) (.slice (some ⟨g1,0,none⟩) (q+1) cap1));clear c0 c1 c2 hk1 hk2 hown1 hg1 htwo);clear f1 d1 HL2 HBW HQ2 HK1 HSZ2 HQD;generalize w3.setCell ⟨B5,1,none⟩ (.slice (some ⟨g1,0,none⟩) (q+1) cap1)=w4 at *;have HSZ4:=hid HL4.out.lt;have c0:=(zAa HL4.out.box).1 0 _ rfl;have c1:=(zAa HL4.out.box).1 1 _ rfl;have c2:=(zAa HL4.out.box).1 2 _ rfl;go_wp2_with (refine zBj rfl rfl _ rfl _ _ _ rfl rfl B5 3 1 8 ii (.int .i64 0) Tryz.underlying153 hii hi0 hi1 hi2 rfl (by decide) (by decide) _ q _ HL4.out.oO HSZ4.out (.int .i64 q) rfl rfl (by intro u hu;simp [Value.cells] at hu;subst hu;rfl) rfl rfl (by simp [maxLen];omega) (by omega) ?_;intro g2 cap2 w5 hown2 hg2 htwo2;obtain ⟨hk1,hk2⟩:=HL4.out.pushOrd (x:=q) hown2 htwo2;have HL6:=hid hk2;have HK5:=hid hk1;have f2:=(zAa hk1).2 2;have d2:=(zAa hk1).1 2 _ rfl;have HB6:=hid ((own_below HB4.out HSZ4.out HL4.out.oO htwo2).setCell (p:=⟨B5,2,none⟩) (Nat.le_refl _) (.slice (some ⟨g2,0,none⟩) (q+1) cap2));clear c0 c1 c2 hk1 hk2 hown2 hg2 htwo2);go_roundw
          case rel=> exact ⟨q+1,.slice (some ⟨g1,0,none⟩) (q+1) cap1,.slice (some ⟨g2,0,none⟩) (q+1) cap2,upd V q (.slice aj j cj),HLT.out,by go_num,by
           have h:=HL6.out;rw [←HROW.out] at h;have h2:=upd_self (fun i=> (xs.drop (i * j)).take j) q;rw [h2,show (List.range q).map Int.ofNat++ [(q:Int)]=(List.range (q+1)).map Int.ofNat by rw [List.range_succ,List.map_append];rfl] at h;exact h,HB6.out⟩
          case measure=> simp [intOf];omega
     · obtain rfl:q=n:=by omega
       obtain ⟨aR,cR,rfl⟩:=(IsSl.of_own HL.out.oR).form;go_wp2
       go_loopw [10] (fun i wr=> ∃ (p:Nat) (V:Nat→Value) (M:Nat→List Cx) (ord:List Int) (odd ties:Bool),p≤q∧i=.int .i64 p∧RLw B5 wr B5 (.slice aR q cR) vO q q q V M ord odd ties∧RLs q (esK q m p) M ord odd∧Below B5 wf wr∧∀i,i < p→(zDu q (esK q m i) i).2=0) (fun i _=> q - (intOf i).toNat)
       case atStart=> exact ⟨0,V,_,_,false,false,Nat.zero_le _,rfl,HL.out,⟨HS0.out.num,HS0.out.ln,HS0.out.ord,rfl⟩,HBo.out,fun i hi=> absurd hi (Nat.not_lt_zero _)⟩
       case round=>
        obtain ⟨wp,rfl⟩:∃wp:World,wp=wr:=⟨_,rfl⟩;obtain ⟨p,V2,M,ord,odd,ties,hp,rfl,hla,hls,hbq,hst⟩:=hrel;have HLQ:=hid hla;have HSQ:=hid hls;have HBQ:=hid hbq;have HST:=hid hst;have HBS:=hid (show B5≤wp.heap.size from hla.lt);clear hla hls hbq hst HL HS0
        by_cases hpn:p < q
        · have HPN:=hid hpn;have HFC:=hid (show w.heap.size≤gm+1 by rw [HGM.out];omega);have HFP:=hid (fin_all HFE.out p HST.out);cases hz:((zDu q (esK q m p) p).2==0)
          · have HZ:=hid (show (zDu q (esK q m p) p).2≠0 by simpa using hz);have hz2:((zDu q (esK q m p) p).2 !=0)=true:=by simpa using hz
            clear hz;go_upto_region 25 with (go_at_call 98;refine (rcol_any B5 q B5 p (.slice aR q cR) vO V2 M ord odd ties (esK q m p) _ HLQ.out HSQ.out hpn hn HFP.out).mono ?_;rintro e w6 ⟨rfl,hb6,hok6⟩;obtain ⟨k1,k2,k3,k4⟩:=HMB.out w6 (HBQ.out.trans hb6);have HF6:=hid k2;have HB6:=hid k4;clear hb6 hok6 k1 k2 k3 k4);have hfc:=zAb HF6.out;have z0:=hfc.1 0 _ rfl;have z1:=hfc.1 1 _ rfl;have f0:=hfc.2 0;have f1:=hfc.2 1;clear hfc;have HS:=hid (HALL.out.trans (low_stop HPN.out HST.out HZ.out));go_wp2_with fail
            (try rw [Exit.noGoto_ret])
            rw [HS.out];refine bodyPost_ret (v:=.tuple #[.pointer none,.agg #[.int .i64 (zDu q (esK q m p) p).2,.int .i64 p]]) ?_ rfl ⟨.pointer none,rfl,zGw HB6.out HFC.out _ _,.inl ⟨rfl,rfl⟩⟩;rw [zAi rfl];go_simp
          · have HZ:=hid (show (zDu q (esK q m p) p).2=0 by simpa using hz);clear hz;go_wp2_with (go_at_call 98;refine (rcol_any B5 q B5 p (.slice aR q cR) vO V2 M ord odd ties (esK q m p) _ HLQ.out HSQ.out hpn hn HFP.out).mono ?_;rintro e w6 ⟨rfl,hb6,hok6⟩;have HB6:=hid (HBQ.out.trans hb6);obtain ⟨V6,M6,ord6,odd6,ties6,h6a,h6b⟩:=hok6 HZ.out;have HL6:=hid h6a;have HS6:=hid h6b;clear hb6 hok6 h6a h6b;rw [HZ.out]);go_roundw
            case rel=> exact ⟨p+1,V6,M6,ord6,odd6,ties6,HPN.out,by go_num,HL6.out,HS6.out,HB6.out,fun i hi=> by
             by_cases e:i=p
             · subst e;exact HZ.out
             · exact HST.out i (by omega)⟩
            case measure=> simp [intOf];omega
        · obtain rfl:p=q:=by omega
          obtain ⟨k1,k2,k3,k4⟩:=HMB.out wp HBQ.out;have HF6:=hid k2;have HB6:=hid k4;clear k1 k2 k3 k4;have hfc:=zAb HF6.out;have z0:=hfc.1 0 _ rfl;have z1:=hfc.1 1 _ rfl;have f0:=hfc.2 0;have f1:=hfc.2 1;clear hfc;have HS:=hid (HALL.out.trans (low_done HST.out));go_wp2_with fail
          (try rw [Exit.noGoto_ret])
          rw [HS.out];refine bodyPost_ret (v:=.tuple #[.pointer (some ⟨B5,0,none⟩),.agg #[.int .i64 0,.int .i64 0]]) ?_ rfl ⟨_,rfl,zGw HB6.out (by rw [HGM.out];omega) _ _,.inr ⟨_,B5,_,vO,V2,M,ord,odd,ties,rfl,rfl,(HLQ.out.fault HF6.out _ _).base HLTB.out,HSQ.out⟩⟩;rw [zAi rfl];go_simp
end
section
open Go.RowKit
theorem four_frozen {w:World} {g:Nat} {a b c d:Value} {t:TypeId} (h:w.heap[g]? =some (.cells #[a,b,c,d] t (0,0))):
 w.frozen? ⟨g,0,none⟩=false∧w.frozen? ⟨g,1,none⟩=false∧w.frozen? ⟨g,2,none⟩=false∧w.frozen? ⟨g,3,none⟩=false:=by
 refine ⟨?_,?_,?_,?_⟩ <;> simp [World.frozen?,h]
def RetOpen (n:Nat) (R:Nat→List Cx) (ord:List Int) (w:World) (e:Ending) (w':World):Prop:=
 ∃vl vu vo,e=.returned (.tuple #[.agg #[.int .i64 n,vl,vu,vo],.bool true])∧IsSl w' 1 vl (n * n) ((matL (lowL R) n n 0).map mkC)∧IsSl w' 1 vu (n * n) ((matL (lowU R) n n 0).map mkC)∧
  IsSl w' 1 vo n (ord.map (Value.int .i64))∧Below w.heap.size w w'
theorem sopen_any (p:Value) (n:Nat) (R:Nat→List Cx) (ord:List Int) (sg:Int) (w:World) (h:LowAt w p n R ord sg) (hn:n≤64) (hlen:ord.length=n) (hsg:(sg==0)=false):
 Calls Tryz.prog 138 #[p] w (RetOpen n R ord w):=by
 have H:=hid h;obtain ⟨g,vR,vO,V,rfl,_⟩:=h;have hfd:∀ (a b:Int) (v:Option Addr) (m c:Nat) (w:World),(Instr.field 99 (.agg #[.int .i64 a,.int .i64 b,.slice v m c]) 2).run Tryz.prog w=.ok (.slice v m c) w:=fun _ _ _ _ _ _=> by kernel_rfl
 have HLEN:=hid hlen;clear hlen;have HBW:=hid ((Below.refl w.heap.size w).alloc (Nat.le_refl _) (.cells #[.int .i64 0,.slice none 0 0,.slice none 0 0,.slice none 0 0] 193));have HZ:=hid (heap_alloc_new w (.cells #[.int .i64 0,.slice none 0 0,.slice none 0 0,.slice none 0 0] 193));have HLT:=hid (show w.heap.size < (w.alloc (.cells #[.int .i64 0,.slice none 0 0,.slice none 0 0,.slice none 0 0] 193)).heap.size by simp);have HL:=hid (H.out.below HBW.out);go_enter Tryz.func138,Tryz.ntmps138;go_upto_region 3 with (go_at_call 172;refine (low_sign _ _ _ _ _ _ HL.out).mono ?_;rintro e w' ⟨rfl,rfl⟩);generalize w.alloc (.cells #[.int .i64 0,.slice none 0 0,.slice none 0 0,.slice none 0 0] 193)=w1 at *;go_wp2_with (first | (go_at_call 173;refine (low_size _ _ _ _ _ _ HL.out).mono ?_;rintro e w' ⟨rfl,rfl⟩) | (go_at_call 174;refine (low_L _ _ _ _ _ _ HL.out hn).mono ?_;rintro e w2 ⟨v1,rfl,ho1,hb2⟩;obtain ⟨a1,c1,rfl⟩:=(IsSl.of_own ho1).form;have H1:=hid ho1;have HB2:=hid hb2;clear ho1 hb2) | (go_at_call 175;refine (low_U _ _ _ _ _ _ (HL.out.below HB2.out) hn).mono ?_;rintro e w3 ⟨v2,rfl,ho2,hb3⟩;obtain ⟨a2,c2,rfl⟩:=(IsSl.of_own ho2).form;have H2:=hid (World.ownsRow.mono ho2 HB2.out.size);have H13:=hid (zBa H1.out (zAe hb3 none));have HB3:=hid (zBb HB2.out hb3);clear ho2 hb3));refine (low_order _ _ _ _ _ _ (HL.out.below HB3.out) HLEN.out hn).mono ?_;rintro e w4 ⟨v3,xs3,rfl,ho3,rfl,hb4⟩;obtain ⟨a3,c3,rfl⟩:=(IsSl.of_own ho3).form;have H3:=hid (World.ownsRow.mono ho3 HB3.out.size);have H14:=hid (zBa H13.out (zAe hb4 none));have H24:=hid (zBa H2.out (zAe hb4 none));have HB4:=hid (zBb HB3.out hb4);obtain ⟨z0,z1,z2,z3⟩:=zEk (zBn (zBb HB3.out hb4) HZ.out);obtain ⟨y0,y1,y2,y3⟩:=four_frozen (zBn (zBb HB3.out hb4) HZ.out)
 clear ho3 hb4;go_wp2_with fail
 (try simp only [Exit.inBlock,Exit.then])
 (try rw [Exit.noGoto_ret])
 refine bodyPost_ret (v:=.tuple #[.agg #[.int .i64 n,.slice a1 (n * n) c1,.slice a2 (n * n) c2,.slice a3 n c3],.bool true]) ?_ rfl ⟨_,_,_,rfl,IsSl.of_own (B:=w1.heap.size) (ownsRow_setCell_below (ownsRow_setCell_below (ownsRow_setCell_below (ownsRow_setCell_below H14.out HLT.out _) HLT.out _) HLT.out _) HLT.out _),IsSl.of_own (B:=w1.heap.size) (ownsRow_setCell_below (ownsRow_setCell_below (ownsRow_setCell_below (ownsRow_setCell_below H24.out HLT.out _) HLT.out _) HLT.out _) HLT.out _),IsSl.of_own (B:=w1.heap.size) (ownsRow_setCell_below (ownsRow_setCell_below (ownsRow_setCell_below (ownsRow_setCell_below H3.out HLT.out _) HLT.out _) HLT.out _) HLT.out _),((((HBW.out.trans (HB4.out.mono HBW.out.size)).setCell (Nat.le_refl _) _).setCell (Nat.le_refl _) _).setCell (Nat.le_refl _) _).setCell (Nat.le_refl _) _⟩;rw [results_cell_tmp rfl];go_simp
end
end Go.Proofs.YtejooaeppcjhjaaGreat
