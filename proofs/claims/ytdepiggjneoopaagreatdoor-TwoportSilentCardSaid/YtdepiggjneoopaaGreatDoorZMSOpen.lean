/- a part of the proof of the last text -/
import Derived.Test.YtdepiggjneoopaaGreatDoorZLw3
namespace Go.Proofs.YtdepiggjneoopaaGreatDoor
set_option linter.all false
set_option maxHeartbeats 4000000
set_option maxRecDepth 100000
section
open Go.RowKit
def lessS (t:Cx × Bool) (a b:Cx):Cx × Bool:=(csub t.1 (cmul a b),t.2 && cfin (csub t.1 (cmul a b)))
def zDg (A x:Nat→Cx) (lo:Nat) (t:Cx × Bool):Nat→Cx × Bool
 | 0=> t
 | m+1=> lessS (zDg A x lo t m) (A (lo+m)) (x (lo+m))
def fwdS (L:Mx) (b:Nat→Cx):Nat→(Nat→Cx) × Bool
 | 0=> (fun _=> cZ0,true)
 | i+1=> (upd (fwdS L b i).1 i (zDg (L i) (fwdS L b i).1 0 (b i,(fwdS L b i).2) i).1,(zDg (L i) (fwdS L b i).1 0 (b i,(fwdS L b i).2) i).2)
where cZ0:Cx:=(fc 0,fc 0)
def bwdS (n:Nat) (U:Mx) (y:Nat→Cx) (ok:Bool):Nat→(Nat→Cx) × Bool
 | 0=> (y,ok)
 | m+1=> (upd (bwdS n U y ok m).1 (n - 1 - m) (cdiv (zDg (U (n - 1 - m)) (bwdS n U y ok m).1 (n - m) ((bwdS n U y ok m).1 (n - 1 - m),(bwdS n U y ok m).2) m).1 (U (n - 1 - m) (n - 1 - m))),
  (zDg (U (n - 1 - m)) (bwdS n U y ok m).1 (n - m) ((bwdS n U y ok m).1 (n - 1 - m),(bwdS n U y ok m).2) m).2 &&
   cfin (cdiv (zDg (U (n - 1 - m)) (bwdS n U y ok m).1 (n - m) ((bwdS n U y ok m).1 (n - 1 - m),(bwdS n U y ok m).2) m).1 (U (n - 1 - m) (n - 1 - m))))
def zDh (n:Nat) (s:Es) (b:Nat→Cx):(Nat→Cx) × Bool:=bwdS n s.R (fwdS s.R (fun i=> b (s.ord i)) n).1 (fwdS s.R (fun i=> b (s.ord i)) n).2 n
end
section
open Go.RowKit
def plain (e:Int):Int × Int:=if e=0 then (0,0) else (e,-1)
def askS (b:Bool) (om:Nat):Int:=if b=true then 1 else angE om
def lowM (n:Nat) (m:Nat→Cx):Option Es × (Int × Int):=
 match (List.range (n * n)).find? fun p=> !cfin (m p) with
 | some p=> (none,(5,p))
 | none=> lowE n m
def zCu (b:Bool) (l:List El) (om:Nat) (r:List Cx):Option (Nat→Cx) × (Int × Int):=
 if askS b om≠0 then (none,plain (askS b om)) else if r.length≠szL l then (none,(4,-1)) else if r.all cfin=false then (none,(5,-1))
 else if grdS false l≠ (0,0) then (none,grdS false l) else if (matS false l om).2≠ (0,0) then (none,(matS false l om).2)
 else match lowM (szL l) (matK l om l.length) with
  | (none,f)=> (none,f)
  | (some s,_)=> if (zDh (szL l) s fun i=> r.getD i (0,0)).2=true then (some (zDh (szL l) s fun i=> r.getD i (0,0)).1,(0,0)) else (none,(6,-1))
end
section
open Go.RowKit
def RetLowOf (n:Nat) (S:Option Es × (Int × Int)) (w:World) (e:Ending) (w':World):Prop:=
 ∃p:Value,e=.returned (.tuple #[p,.agg #[.int .i64 S.2.1,.int .i64 S.2.2]])∧Below w.heap.size w w'∧
  ((S.1=none∧p=.pointer none)∨∃s g vR vO bj M ord sg,S.1=some s∧p=.pointer (some ⟨g,0,none⟩)∧LwAt w.heap.size w' g vR vO n n n bj M ord sg∧LwS n s M ord sg)
theorem lowM_bad {n k:Nat} {m:Nat→Cx} (hk:k < n * n) (h:∀i,i < k→cfin (m i)=true) (hp:cfin (m k)=false):lowM n m=(none,(5,(k:Int))):=by
 unfold lowM;rw [find_at hk (fun i hi=> by simp [h i hi]) (by simp [hp])]
theorem lowM_go {n:Nat} {m:Nat→Cx} (h:∀i,i < n * n→cfin (m i)=true):lowM n m=lowE n m:=by
 unfold lowM;rw [List.find?_eq_none.2 (fun i hi=> by simp [h i (by simpa using hi)])]
theorem getD_at {α:Type} {l:List α} {k:Nat} {z d:α} (h:l[k]? =some z):l.getD k d=z:=by rw [List.getD_eq_getElem?_getD,h];rfl
theorem start_s {n:Nat} {xs:List Cx} {m:Nat→Cx} (hx:xs.length=n * n) (hm:∀i,i < n * n→m i=ck (xs.getD i (0,0))):LwS n (esK n m 0) (fun j=> (xs.drop (j * n)).take n) ((List.range n).map Int.ofNat) 1:=by
 refine ⟨fun i j hi hj=> ?_,by simp,fun i hi=> ?_,rfl⟩
 · show ck (((xs.drop (i * n)).take n).getD j (0,0))=m (i * n+j);rw [hm _ (by have:=Nat.mul_le_mul_right n (show i+1≤n from hi);rw [Nat.add_mul] at this;omega)];rw [List.getD_eq_getElem?_getD,List.getElem?_take,if_pos hj,List.getElem?_drop,←List.getD_eq_getElem?_getD]
 · rw [List.getElem?_map,List.getElem?_range hi];rfl
theorem zCo {w w1:World} {B g:Nat} (hb:Below B w w1) (hg:B≤g) (x y:Value):Below B w ((w1.setCell ⟨g,0,none⟩ x).setCell ⟨g,1,none⟩ y):=(hb.setCell (p:=⟨g,0,none⟩) hg x).setCell (p:=⟨g,1,none⟩) hg y
theorem LwAt.base {B B' g n m mo:Nat} {w:World} {vR vO:Value} {bj:Nat→Nat} {M:Nat→List Cx} {ord:List Int} {sg:Int} (h:LwAt B w g vR vO n m mo bj M ord sg) (hB:B'≤B):LwAt B' w g vR vO n m mo bj M ord sg:=
 ⟨Nat.le_trans hB h.gB,fun j hj=> Nat.le_trans hB (h.bB j hj),h.box,zEx h.oR hB,zEx h.oO hB,h.row,h.len,h.inj⟩
theorem LwAt.fault {B g n m mo r:Nat} {w:World} {vR vO:Value} {bj:Nat→Nat} {M:Nat→List Cx} {ord:List Int} {sg:Int} {cs:Array Value} (h:LwAt B w g vR vO n m mo bj M ord sg) (hr:w.heap[r]? =some (.cells cs 38 (0,0))) (x y:Value):
 LwAt B ((w.setCell ⟨r,0,none⟩ x).setCell ⟨r,1,none⟩ y) g vR vO n m mo bj M ord sg:=
 h.typ hr (zAf (zAn w r 0 x) (zAn _ r 1 y)) (by decide) (by decide) (by decide) (.inl (by decide))
theorem lowof_any (n nn:Nat) (v:Value) (xs:List Cx) (m:Nat→Cx) (w:World) (hv:IsSl w 1 v nn (xs.map mkC)) (hn:n≤64) (fU:nn=n * n) (hm:∀i,i < n * n→m i=ck (xs.getD i (0,0))):
 Calls Tryz.prog 101 #[.agg #[.int .i64 n,.int .i64 n,v]] w (RetLowOf n (lowM n m) w):=by
 obtain ⟨aD,cD,rfl⟩:=hv.form;have qK:xs.length=nn:=by have:=hv.1;simp at this;omega
 have mG:=hid (show xs.length=n * n by rw [qK,fU]);have HXN:=hid qK;obtain ⟨t1,t2,t3⟩:=zEc w (.cells #[.int .i64 n,.int .i64 n,.slice aD nn cD] 43) (.cells #[.int .i64 0,.int .i64 0] 38);have HM:=hid t1;have HF:=hid t2;have HB:=hid t3;have HV:=hid (hv.below t3 (Nat.le_refl _));have lP:=hid fU;have hn40:nn≤4096:=by rw [fU];exact Nat.le_trans (Nat.mul_le_mul hn hn) (by decide)
 obtain ⟨ic,qX,hc0,kN,cC⟩:=info_parts zFh;have tX:=hid hm;have iF:=hid (start_s mG.out hm);clear hm;clear hv qK fU t1 t2 t3;go_enter Tryz.func101,Tryz.ntmps101;go_upto_region 1 with fail;generalize (w.alloc (.cells #[.int .i64 n,.int .i64 n,.slice aD nn cD] 43)).alloc (.cells #[.int .i64 0,.int .i64 0] 38)=w1 at *;obtain ⟨gm,jW⟩:∃gm,w.heap.size=gm:=⟨_,rfl⟩;rw [jW] at HM HF HB⊢;rw [←jW] at HB;have HGM:=hid jW;clear jW;have aE:=zAc HM.out;have m0:=aE.1 0 _ rfl;have m1:=aE.1 1 _ rfl;have m2:=aE.1 2 _ rfl;clear aE;go_upto_region 3 with (go_at_call 82;refine (mcheck_any n nn aD cD _ hn lP.out).mono ?_;rintro e w2 ⟨rfl,hb⟩;have HM1:=hid (zAa hb HM.out);have kU:=hid (zAa hb HF.out);have iN:=hid (HV.out.below hb (Nat.le_refl _));have aL:=hid (zAd HB.out hb);clear m0 m1 m2;have hm:=zAc HM1.out;have m0:=hm.1 0 _ rfl;have m1:=hm.1 1 _ rfl;have m2:=hm.1 2 _ rfl;clear hm;clear hb);clear HM HF HV HB;go_wp2
 go_loopw [23] (fun i wr=> ∃k:Nat,k≤nn∧i=.int .i64 k∧Below w2.heap.size w2 wr∧∀j,j < k→cfin (m j)=true) (fun i _=> nn - (intOf i).toNat)
 case atStart=> exact ⟨0,Nat.zero_le _,rfl,Below.refl _ _,fun j hj=> absurd hj (Nat.not_lt_zero _)⟩
 case round=>
  obtain ⟨k,hk,rfl,hb,hfi⟩:=hrel;have vQ:=hid hfi;have bC:=hid hb;clear hfi m0 m1 m2;have HM2:=hid (zAa hb HM1.out);have iS:=hid (zAa hb kU.out);have hC:=hid (iN.out.below hb (Nat.le_refl _));have aG:=hid (zAd aL.out hb);clear hb HM1 kU iN aL
  by_cases aM:k < nn
  · obtain ⟨g,o2,x,aZ,hg,aA,hx⟩:=IsSl.at1 Tryz.underlying41 qX kN hC.out (k:=k) aM;obtain ⟨z,hz,rfl⟩:=map_getElem? hx;obtain ⟨z1,z2⟩:=z;unfold mkC at aA;dsimp only at aA;have HZ:=hid (show m k=(fc z1,fc z2) by rw [tX.out k (by rw [←lP.out];exact aM),getD_at hz];rfl);have iP:=hid aM;clear hx hz hg;cases hf:cfin (fc z1,fc z2)
    · have HCF:=hid hf;go_upto_region 7 with (go_at_call 41;refine (zBk z1 z2 _).mono ?_;rintro e w4 ⟨v,nn4,rfl,he,rfl⟩;have cI:Below wr.heap.size wr w4:=(by rw [he];exact zAg (Below.refl _ _) nn4);have HF4:=hid (zAa cI iS.out);have bI:=hid (zAd aG.out cI);clear he cI);have mE:=zAc HF4.out;have z0:=mE.1 0 _ rfl;have z1':=mE.1 1 _ rfl;have f0:=mE.2 0;have f1:=mE.2 1;clear mE;have HS:=hid (lowM_bad (n:=n) (m:=m) (k:=k) (by rw [←lP.out];exact iP.out) vQ.out (by rw [HZ.out];exact HCF.out));go_wp2_with fail
      (try rw [Exit.noGoto_ret])
      refine bodyPost_ret (v:=.tuple #[.pointer none,.agg #[.int .i64 5,.int .i64 k]]) ?_ rfl ⟨.pointer none,by rw [HS.out],zCo bI.out (by rw [HGM.out];omega) _ _,.inl ⟨by rw [HS.out],rfl⟩⟩;rw [zAq rfl];go_simp
    · have HCF:=hid hf;go_wp2_with (go_at_call 41;refine (zBk z1 z2 _).mono ?_;rintro e w4 ⟨v,nn4,rfl,he,rfl⟩;have cI:Below w2.heap.size w2 w4:=(by rw [he];exact zAg bC.out nn4);clear he);go_roundw
      case rel=> exact ⟨k+1,aM,by go_num,cI,fun j hj=> by
       by_cases e:j=k
       · subst e;rw [HZ.out];exact HCF.out
       · exact vQ.out j (by omega)⟩
      case measure=> simp [intOf];omega
  · obtain rfl:k=nn:=by omega
    have mU:=hid (show lowM n m=lowE n m from lowM_go (fun i hi=> vQ.out i (by rw [lP.out];exact hi)));clear vQ bC;go_upto_region 9 with fail;have aE:=zAc HM2.out;have m0:=aE.1 0 _ rfl;have m1:=aE.1 1 _ rfl;have m2:=aE.1 2 _ rfl;clear aE;obtain ⟨B5,hB5⟩:∃B5,wr.heap.size=B5:=⟨_,rfl⟩;have cL:=hid hB5;have HLTB:=hid (show w.heap.size≤B5 by rw [←hB5];exact aG.out.size);have HFB5:=hid (show gm+1 < B5 by rw [←hB5];exact (Array.getElem?_eq_some_iff.1 iS.out).1);clear hB5;go_upto_region 10 with (go_at_call 132;refine (lstart_any n k _ xs _ hC.out hn lP.out).mono ?_;rintro e w5 ⟨g,vR,vO,bj,rfl,uN,hb⟩;rw [cL.out] at uN;have tZ:=hid uN;have HM3:=hid (zAa hb HM2.out);have oW:=hid (zAa hb iS.out);have qB:=hid (hC.out.below hb (Nat.le_refl _));have aT:=hid (zAd aG.out hb);clear uN hb);clear m0 m1 m2 HM2 iS hC aG;obtain ⟨aR,cR,rfl⟩:=(IsSl.of_own tZ.out.oR).form;have c1:=(zAb tZ.out.box).1 1 _ rfl;go_wp2
    go_loopw [41] (fun i wr=> ∃ (k:Nat) (bj:Nat→Nat) (M:Nat→List Cx) (ord:List Int) (sg:Int),k≤n∧i=.int .i64 k∧LwAt B5 wr g (.slice aR n cR) vO n n n bj M ord sg∧LwS n (esK n m k) M ord sg∧Below w.heap.size w wr∧wr.heap[gm+1]? =some (.cells #[.int .i64 0,.int .i64 0] 38 (0,0))∧∀i,i < k→(zDy n (esK n m i) i).2=0) (fun i _=> n - (intOf i).toNat)
    case atStart=> exact ⟨0,bj,_,_,1,Nat.zero_le _,rfl,tZ.out,iF.out,aT.out,oW.out,fun i hi=> absurd hi (Nat.not_lt_zero _)⟩
    case round=>
     obtain ⟨q,bj2,M,ord,sg,hq,rfl,uN,hls,zO,hfq,bT⟩:=hrel;have HLQ:=hid uN;have HSQ:=hid hls;have kB:=hid zO;have xV:=hid hfq;have aQ:=hid bT;clear uN hls zO hfq bT c1 tZ iF aT oW
     by_cases pX:q < n
     · have fW:=hid pX;have HFC:=hid (show w.heap.size≤gm+1 by rw [HGM.out];omega);cases hz:((zDy n (esK n m q) q).2==0)
       · have HZ:=hid (show (zDy n (esK n m q) q).2≠0 by simpa using hz);have cB:((zDy n (esK n m q) q).2 !=0)=true:=by simpa using hz
         clear hz;go_upto_region 15 with (go_at_call 133;refine (lstep_any B5 n g q (.slice aR n cR) vO bj2 M ord sg (esK n m q) _ HLQ.out HSQ.out pX hn).mono ?_;rintro e w6 ⟨rfl,kO,uK⟩;have cJ:=hid (kB.out.trans (kO.mono HLTB.out));have sK:=hid (show w6.heap[gm+1]? =some (.cells #[.int .i64 0,.int .i64 0] 38 (0,0)) from (kO.block _ HFB5.out).trans xV.out);clear kO uK);have mE:=zAc sK.out;have z0:=mE.1 0 _ rfl;have z1:=mE.1 1 _ rfl;have f0:=mE.2 0;have f1:=mE.2 1;clear mE;have HS:=hid (mU.out.trans (low_stop fW.out aQ.out HZ.out));go_wp2_with fail
         (try rw [Exit.noGoto_ret])
         rw [HS.out];refine bodyPost_ret (v:=.tuple #[.pointer none,.agg #[.int .i64 (zDy n (esK n m q) q).2,.int .i64 q]]) ?_ rfl ⟨.pointer none,rfl,zCo cJ.out HFC.out _ _,.inl ⟨rfl,rfl⟩⟩;rw [zAq rfl];go_simp
       · have HZ:=hid (show (zDy n (esK n m q) q).2=0 by simpa using hz);clear hz;go_wp2_with (go_at_call 133;refine (lstep_any B5 n g q (.slice aR n cR) vO bj2 M ord sg (esK n m q) _ HLQ.out HSQ.out pX hn).mono ?_;rintro e w6 ⟨rfl,kO,uK⟩;have cJ:=hid (kB.out.trans (kO.mono HLTB.out));have sK:=hid (show w6.heap[gm+1]? =some (.cells #[.int .i64 0,.int .i64 0] 38 (0,0)) from (kO.block _ HFB5.out).trans xV.out);obtain ⟨bj6,M6,ord6,sg6,h6a,h6b⟩:=uK HZ.out;have HL6:=hid h6a;have dY:=hid h6b;clear kO uK h6a h6b;rw [HZ.out]);go_roundw
         case rel=> exact ⟨q+1,bj6,M6,ord6,sg6,pX,by go_num,HL6.out,dY.out,cJ.out,sK.out,fun i hi=> by
          by_cases e:i=q
          · subst e;exact HZ.out
          · exact aQ.out i (by omega)⟩
         case measure=> simp [intOf];omega
     · obtain rfl:q=n:=by omega
       have mE:=zAc xV.out;have z0:=mE.1 0 _ rfl;have z1:=mE.1 1 _ rfl;have f0:=mE.2 0;have f1:=mE.2 1;clear mE;have HS:=hid (mU.out.trans (low_done aQ.out));go_wp2_with fail
       (try rw [Exit.noGoto_ret])
       rw [HS.out];refine bodyPost_ret (v:=.tuple #[.pointer (some ⟨g,0,none⟩),.agg #[.int .i64 0,.int .i64 0]]) ?_ rfl ⟨_,rfl,zCo kB.out (by rw [HGM.out];omega) _ _,.inr ⟨_,g,_,vO,bj2,M,ord,sg,rfl,rfl,(HLQ.out.fault xV.out _ _).base HLTB.out,HSQ.out⟩⟩;rw [zAq rfl];go_simp
end
section
open Go.RowKit
theorem four_frozen {w:World} {g:Nat} {a b c d:Value} {t:TypeId} (h:w.heap[g]? =some (.cells #[a,b,c,d] t (0,0))):
 w.frozen? ⟨g,0,none⟩=false∧w.frozen? ⟨g,1,none⟩=false∧w.frozen? ⟨g,2,none⟩=false∧w.frozen? ⟨g,3,none⟩=false:=by
 refine ⟨?_,?_,?_,?_⟩ <;> simp [World.frozen?,h]
def RetOpen (n:Nat) (R:Nat→List Cx) (ord:List Int) (w:World) (e:Ending) (w':World):Prop:=
 ∃vl vu vo,e=.returned (.tuple #[.agg #[.int .i64 n,vl,vu,vo],.bool true])∧IsSl w' 1 vl (n * n) ((matL (lowL R) n n 0).map mkC)∧IsSl w' 1 vu (n * n) ((matL (lowU R) n n 0).map mkC)∧
  IsSl w' 1 vo n (ord.map (Value.int .i64))∧Below w.heap.size w w'
theorem sopen_any (p:Value) (n:Nat) (R:Nat→List Cx) (ord:List Int) (sg:Int) (w:World) (h:LowAt w p n R ord sg) (hn:n≤64) (hlen:ord.length=n) (hsg:(sg==0)=false):
 Calls Tryz.prog 102 #[p] w (RetOpen n R ord w):=by
 have H:=hid h;obtain ⟨g,vR,vO,V,rfl,_⟩:=h;have hfd:∀ (a b:Int) (v:Option Addr) (m c:Nat) (w:World),(Instr.field 43 (.agg #[.int .i64 a,.int .i64 b,.slice v m c]) 2).run Tryz.prog w=.ok (.slice v m c) w:=fun _ _ _ _ _ _=> by kernel_rfl
 have nU:=hid hlen;clear hlen;have bC:=hid ((Below.refl w.heap.size w).alloc (Nat.le_refl _) (.cells #[.int .i64 0,.slice none 0 0,.slice none 0 0,.slice none 0 0] 167));have HZ:=hid (heap_alloc_new w (.cells #[.int .i64 0,.slice none 0 0,.slice none 0 0,.slice none 0 0] 167));have gY:=hid (show w.heap.size < (w.alloc (.cells #[.int .i64 0,.slice none 0 0,.slice none 0 0,.slice none 0 0] 167)).heap.size by simp);have HL:=hid (H.out.below bC.out);go_enter Tryz.func102,Tryz.ntmps102;go_upto_region 3 with (go_at_call 134;refine (low_sign _ _ _ _ _ _ HL.out).mono ?_;rintro e w' ⟨rfl,rfl⟩);generalize w.alloc (.cells #[.int .i64 0,.slice none 0 0,.slice none 0 0,.slice none 0 0] 167)=w1 at *;go_wp2_with (first | (go_at_call 135;refine (low_size _ _ _ _ _ _ HL.out).mono ?_;rintro e w' ⟨rfl,rfl⟩) | (go_at_call 136;refine (low_L _ _ _ _ _ _ HL.out hn).mono ?_;rintro e w2 ⟨v1,rfl,tE,aV⟩;obtain ⟨a1,c1,rfl⟩:=(IsSl.of_own tE).form;have H1:=hid tE;have aG:=hid aV;clear tE aV) | (go_at_call 137;refine (low_U _ _ _ _ _ _ (HL.out.below aG.out) hn).mono ?_;rintro e w3 ⟨v2,rfl,tD,fP⟩;obtain ⟨a2,c2,rfl⟩:=(IsSl.of_own tD).form;have H2:=hid (World.ownsRow.mono tD aG.out.size);have H13:=hid (zBf H1.out (zAe fP none));have aT:=hid (zBh aG.out fP);clear tD fP));refine (low_order _ _ _ _ _ _ (HL.out.below aT.out) nU.out hn).mono ?_;rintro e w4 ⟨v3,xs3,rfl,ho3,rfl,cI⟩;obtain ⟨a3,c3,rfl⟩:=(IsSl.of_own ho3).form;have H3:=hid (World.ownsRow.mono ho3 aT.out.size);have H14:=hid (zBf H13.out (zAe cI none));have H24:=hid (zBf H2.out (zAe cI none));have bI:=hid (zBh aT.out cI);obtain ⟨z0,z1,z2,z3⟩:=zDc (zBn (zBh aT.out cI) HZ.out);obtain ⟨y0,y1,y2,y3⟩:=four_frozen (zBn (zBh aT.out cI) HZ.out)
 clear ho3 cI;go_wp2_with fail
 (try simp only [Exit.inBlock,Exit.then])
 (try rw [Exit.noGoto_ret])
 refine bodyPost_ret (v:=.tuple #[.agg #[.int .i64 n,.slice a1 (n * n) c1,.slice a2 (n * n) c2,.slice a3 n c3],.bool true]) ?_ rfl ⟨_,_,_,rfl,IsSl.of_own (B:=w1.heap.size) (ownsRow_setCell_below (ownsRow_setCell_below (ownsRow_setCell_below (ownsRow_setCell_below H14.out gY.out _) gY.out _) gY.out _) gY.out _),IsSl.of_own (B:=w1.heap.size) (ownsRow_setCell_below (ownsRow_setCell_below (ownsRow_setCell_below (ownsRow_setCell_below H24.out gY.out _) gY.out _) gY.out _) gY.out _),IsSl.of_own (B:=w1.heap.size) (ownsRow_setCell_below (ownsRow_setCell_below (ownsRow_setCell_below (ownsRow_setCell_below H3.out gY.out _) gY.out _) gY.out _) gY.out _),((((bC.out.trans (bI.out.mono bC.out.size)).setCell (Nat.le_refl _) _).setCell (Nat.le_refl _) _).setCell (Nat.le_refl _) _).setCell (Nat.le_refl _) _⟩;rw [results_cell_tmp rfl];go_simp
end
end Go.Proofs.YtdepiggjneoopaaGreatDoor
