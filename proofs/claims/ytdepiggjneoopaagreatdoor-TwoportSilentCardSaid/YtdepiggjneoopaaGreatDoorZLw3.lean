/- a part of the proof of the last text -/
import Derived.Test.YtdepiggjneoopaaGreatDoorZMLw2
namespace Go.Proofs.YtdepiggjneoopaaGreatDoor
set_option linter.all false
set_option maxHeartbeats 4000000
set_option maxRecDepth 100000
open Go.RowKit
def RetStep (B n g:Nat) (vR vO:Value) (S:Es × Int) (w:World) (e:Ending) (w':World):Prop:=
 e=.returned (.int .i64 S.2)∧Below B w w'∧(S.2=0→∃bj M ord sg,LwAt B w' g vR vO n n n bj M ord sg∧LwS n S.1 M ord sg)
def NumM (n:Nat) (M:Nat→List Cx) (R:Mx):Prop:=∀i j,i < n→j < n→ck ((M i).getD j (0,0))=R i j
theorem NumM.put {n i j:Nat} {M:Nat→List Cx} {R R':Mx} {z:Cx} (h:NumM n M R) (hi:i < n) (hj:j < n) (hl:(M i).length=n) (hR:∀a b,a < n→b < n→R' a b=if a=i∧b=j then ck z else R a b):NumM n (upd M i ((M i).set j z)) R':=by
 intro a b ha hb;rw [hR a b ha hb]
 by_cases ea:a=i
 · subst ea;rw [zAm]
   by_cases eb:b=j
   · subst eb;rw [if_pos ⟨rfl,rfl⟩,List.getD_eq_getElem?_getD,List.getElem?_set_self (by rw [hl];exact hj)];rfl
   · rw [if_neg (fun e=> eb e.2),←h a b ha hb,List.getD_eq_getElem?_getD,List.getD_eq_getElem?_getD,List.getElem?_set_ne (Ne.symm eb)]
 · rw [if_neg (fun e=> ea e.1),zAp _ _ ea];exact h a b ha hb
theorem elP_at {R:Mx} {k a y:Nat}:elP R k a y a y=R a y:=by
 unfold elP;rw [if_neg (by omega),if_neg (by omega)]
theorem elP_top {R:Mx} {k a q y:Nat} (h:k < a):elP R k a q k y=R k y:=by
 unfold elP;rw [if_neg (by omega),if_neg (by omega)]
theorem elP_diag {R:Mx} {k a:Nat}:elP R k a (k+1) a k=R a k:=by
 unfold elP;rw [if_neg (by omega),if_neg (by omega)]
theorem rowE_mid {R:Mx} {k a y:Nat} (h:k < y):rowE R k a y=csub (R a y) (cmul (factE R k a) (R k y)):=by
 unfold rowE;rw [if_neg (by omega),if_pos h]
theorem LwAt.nc {B g n m mo i j:Nat} {w:World} {vR vO:Value} {bj:Nat→Nat} {M:Nat→List Cx} {ord:List Int} {sg:Int} (h:LwAt B w g vR vO n m mo bj M ord sg) (hi:i < m) (hj:j < n):
 w.cell? ⟨bj i,j,none⟩=some (mkC ((M i).getD j (0,0)))∧w.frozen? ⟨bj i,j,none⟩=false:=
 ⟨(zAb (h.row i hi)).1 j _ (row_at (by rw [h.len i hi];exact hj)),(zAb (h.row i hi)).2 j⟩
theorem LwS.same {n k:Nat} {s:Es} {M:Nat→List Cx} {ord:List Int} {sg:Int} (h:LwS n s M ord sg):LwS n (swS s k k) M ord sg:=by
 refine ⟨fun i j hi hj=> ?_,h.ln,fun i hi=> ?_,?_⟩
 · show _=s.R (swp k k i) j;rw [swp_same];exact h.num i j hi hj
 · show _=some ((s.ord (swp k k i):Nat):Int);rw [swp_same];exact h.ord i hi
 · show sg=if (if k=k then s.neg else !s.neg)=true then -1 else 1;rw [if_pos rfl];exact h.sg
theorem stepE_bad {n k:Nat} {s:Es} {e:Int} {p:Int} (h:zCb (colL n s.R k) k=(p,e)) (he:e≠0):zDy n s k=(s,e):=by
 unfold zDy;rw [h,if_pos he]
theorem stepE_ok {n k b:Nat} {s:Es} (h:zCb (colL n s.R k) k=((b:Int),0)):zDy n s k=(⟨elimR (swS s b k).R k n,(swS s b k).ord,(swS s b k).neg⟩,if zEq (swS s b k).R k n n=true then 0 else 6):=by
 unfold zDy;rw [h,if_neg (fun h=> h rfl)]
 rfl
theorem lstep_any (B n g k:Nat) (vR vO:Value) (bj:Nat→Nat) (M:Nat→List Cx) (ord:List Int) (sg:Int) (s:Es) (w:World) (h:LwAt B w g vR vO n n n bj M ord sg) (hs:LwS n s M ord sg) (hk:k < n) (hn:n≤64):
 Calls Tryz.prog 133 #[.pointer (some ⟨g,0,none⟩),.int .i64 k] w (RetStep B n g vR vO (zDy n s k) w):=by
 obtain ⟨aR,cR,rfl⟩:=(IsSl.of_own h.oR).form;obtain ⟨aO,cO,rfl⟩:=(IsSl.of_own h.oO).form;obtain ⟨ir,wL,hr0,nG,fO⟩:=info_parts infoCs;obtain ⟨ii,tG,kG,gX,pA⟩:=info_parts infoI;obtain ⟨gR,tI⟩:∃gR,(Value.slice aR n cR).ownBlock=some gR:=by obtain ⟨gR,_,_,_,_,_,_,_,tI,_⟩:=zEk Tryz.underlying204 wL nG h.oR hk;exact ⟨gR,tI⟩
 obtain ⟨gO,tJ⟩:∃gO,(Value.slice aO n cO).ownBlock=some gO:=by obtain ⟨gO,_,_,_,_,_,_,_,tJ,_⟩:=zEk Tryz.underlying151 tG gX h.oO hk;exact ⟨gO,tJ⟩
 have dL:=hid tI;have HGO:=hid tJ;have HL:=hid h;have pM:=hid hs;have iP:=hid hk;have qV:=fun w'=> mk_many n w' (by omega)
 have hx:=zAb h.box;have c1:=hx.1 1 _ rfl;have cN:=(Below.refl w.heap.size w).alloc (Nat.le_refl _) (.cells (zrow n) 48);have HQ0:=hid (heap_alloc_new w (.cells (zrow n) 48));have HV0:=hid (show VecR (w.alloc (.cells (zrow n) 48)) w.heap.size n (fun _=> (fc 0,fc 0)) from vec_new HQ0.out);have HL0:=hid (h.later cN);have oB:=hid (cN.mono h.lt);have fW:=hid (show∀j,j < n→bj j≠w.heap.size from fun j hj e=> by have h1:=(Array.getElem?_eq_some_iff.1 (h.row j hj)).1;omega);have kB:=hid (show B≤w.heap.size from h.lt);clear hx tI tJ h hs cN;go_enter Tryz.func133,Tryz.ntmps133;go_upto_region 2 with fail;generalize w.alloc (.cells (zrow n) 48)=w0 at *;obtain ⟨q,hq⟩:∃q,w.heap.size=q:=⟨_,rfl⟩;rw [hq] at HQ0 HV0 fW kB⊢;clear hq qV c1;have KL:=hid (show∀W:World,w0.grownBy W (some q)→LwAt B W g (.slice aR n cR) (.slice aO n cO) n n n bj M ord sg from fun W hg=> HL0.out.typ HQ0.out hg (by decide) (by decide) (by decide) (.inr fW.out));have KB:=hid (show∀W:World,w0.grownBy W (some q)→Below B w W from fun W hg=> oB.out.trans ⟨hg.os,hg.tape,hg.output,hg.size,fun j hj=> hg.block j (by have:=oB.out.size;have:=HL.out.lt;omega) (fun e=> by have:=Option.some.inj e;have:=kB.out;omega)⟩);have c1:=(zAb HL0.out.box).1 1 _ rfl;clear HL0 oB HQ0;go_wp2;clear c1
 go_loopw [26] (fun i wr=> ∃a:Nat,a≤n∧i=.int .i64 a∧VecR wr q n (fun x=> if x < a then s.R x k else (fc 0,fc 0))∧w0.grownBy wr (some q)) (fun i _=> n - (intOf i).toNat)
 case atStart=> exact ⟨0,Nat.zero_le _,rfl,HV0.out.congr (fun x _=> (if_neg (Nat.not_lt_zero x)).symm),World.grownBy.refl _ _⟩
 case round=>
  obtain ⟨a,ha,rfl,hv,aF⟩:=hrel;have HV:=hid hv;have HG:=hid aF;have mO:=hid (KL.out _ aF);clear hv aF HV0
  by_cases aM:a < n
  · have kV:=hid aM;obtain ⟨M0,hM⟩:=HV.out;have HM:=hid hM;have cz:=(zAb hM.row).1 a _ (row_at (by rw [hM.len];exact aM));have fz:=(zAb hM.row).2 a;obtain ⟨ra,_,iD⟩:=mO.out.rc aM dL.out;have na:=(mO.out.nc aM hk).1;have HNA:=hid (pM.out.num a k aM hk);have eD:∀w',(Instr.indexAt 41 (.slice (some ⟨bj a,0,none⟩) n n) (.int .i64 k)).run Tryz.prog w'=.ok (.pointer (some ⟨bj a,k,none⟩)) w':=fun w'=> zEy iP.out w'
    have hat2:∀w',(Instr.indexAt 41 (.slice (some ⟨q,0,none⟩) n n) (.int .i64 a)).run Tryz.prog w'=.ok (.pointer (some ⟨q,a,none⟩)) w':=fun w'=> zEy kV.out w'
    clear hM HV;generalize (M a).getD k (0,0)=z at *;obtain ⟨z1,z2⟩:=z;go_wp2_with fail;have h9:=HM.out.sto kV.out (c:=s.R a k) HNA.out;have h9g:=zAf HG.out (zAn wr q a (.complex .f64 z1 z2));go_roundw
    case rel=> exact ⟨a+1,aM,by go_num,h9.congr (fun x hx=> by
     by_cases e:x=a
     · subst e;rw [zAm,if_pos (Nat.lt_succ_self _)]
     · rw [zAp _ _ e]
       by_cases e2:x < a
       · rw [if_pos e2,if_pos (by omega)]
       · rw [if_neg e2,if_neg (by omega)]),h9g⟩
    case measure=> simp [intOf];omega
  · obtain rfl:n=a:=by omega
    have HC:=hid (HV.out.congr (q:=fun x=> s.R x k) (fun x hx=> if_pos hx));obtain ⟨xs,qK,hxe,hxo⟩:=vec_own HC.out kB.out (by omega);have mG:=hid qK;have HXE:=hid (show xs.map ck=colL n s.R k from hxe);have wT:=hid hxo;have mS:=hid (KB.out _ HG.out);clear qK hxe hxo HV HC HG KL KB;go_upto_region 8 with (go_at_call 155;refine (choose_any _ xs k _ (IsSl.of_own wT.out) (by rw [mG.out];omega) (by rw [mG.out];exact hk)).mono ?_;rintro e w3 ⟨p,er,rfl,tC,hb⟩;have HPE:=hid tC;have vJ:=hid (mO.out.later hb);have aT:=hid (mS.out.trans (hb.mono (by have:=mO.out.lt;omega)));clear tC hb mO mS wT);have vV:=hid (show zCb (colL n s.R k) k=(p,er) by rw [←HXE.out];exact HPE.out.symm);clear HPE HXE mG
    by_cases her:er=0
    · subst her;obtain ⟨b,aI,aV,fP⟩:=choose_ok (c:=colL n s.R k) (k:=k) (by rw [colL_len];exact hk) (by rw [vV.out]);rw [colL_len] at fP;rw [vV.out] at aI;obtain rfl:p=(b:Int):=congrArg Prod.fst aI;have zZ:=hid (stepE_ok vV.out);have HBN:=hid fP;clear aI;go_upto_if 50 with fail
      go_cut [] from 50 to 110 (fun wx=> ∃bj2 M2 ord2 sg2,LwAt B wx g (.slice aR n cR) (.slice aO n cO) n n n bj2 M2 ord2 sg2∧LwS n (swS s b k) M2 ord2 sg2∧Below B w wx)
      case first=>
       by_cases aB:b=k
       · have nM:((b:Int) !=(k:Int))=false:=by rw [aB];simp
         have nC:=hid aB;clear aB;go_wp2_with fail;go_meet;exact ⟨bj,M,ord,sg,vJ.out,by rw [nC.out];exact pM.out.same,aT.out⟩
       · have nM:((b:Int) !=(k:Int))=true:=by rw [bne_iff_ne];omega
         have fR:=hid aB;clear aB;have hng:IntKind.i64.wrap (-sg)=-sg:=by rw [pM.out.sg];cases s.neg <;> rfl
         obtain ⟨ok,aY⟩:∃ok,((s.ord k:Nat):Int)=ok:=⟨_,rfl⟩;obtain ⟨op,eQ⟩:∃op,((s.ord b:Nat):Int)=op:=⟨_,rfl⟩;have HOKK:=hid (show ord[k]? =some ok by rw [←aY];exact pM.out.ord k hk);have HOP:=hid (show ord[b]? =some op by rw [←eQ];exact pM.out.ord b fP);have HOKE:=hid aY;have HOPE:=hid eQ;clear aY eQ;have xT:=hid (vJ.out.later (Below.refl w3.heap.size w3).drew);have aJ:=hid (aT.out.drew);clear vJ aT;go_upto_region 11 with fail;simp only [nM];clear nM;refine wp_region_any (by kernel_rfl) ?_;change wpAny _ _ _ _ _ _ _ (World.drew _);generalize w3.drew=wd at *;obtain ⟨st,bT⟩:∃st,st=swStp gR gO g k b (.slice (some ⟨bj b,0,none⟩) n n) (.slice (some ⟨bj k,0,none⟩) n n) (.int .i64 op) (.int .i64 ok) (.int .i64 (-sg)):=⟨_,rfl⟩;have aQ:=hid bT;have HW:=hid (xT.out.swap (ok:=ok) (op:=op) (sg':=-sg) iP.out HBN.out iP.out HBN.out fR.out dL.out HGO.out bT);clear bT;obtain ⟨r1,r2,r3⟩:=xT.out.rc HBN.out dL.out;obtain ⟨r4,r5,r6⟩:=xT.out.rc iP.out dL.out;obtain ⟨r7,r8,r9⟩:=xT.out.oc HBN.out HOP.out HGO.out;obtain ⟨q1,q2,q3⟩:=xT.out.oc iP.out HOKK.out HGO.out;have HRB:=hid r1;have HRK:=hid r4;have HF0:=hid r5;have fN:=hid r7;have cH:=hid q1;have HC1:=hid ((zAb xT.out.box).1 1 _ rfl);have HC2:=hid ((zAb xT.out.box).1 2 _ rfl);have HC3:=hid ((zAb xT.out.box).1 3 _ rfl);clear r1 r2 r4 r5 r7 r8 q1 q2;refine wpAny_makersUD [⟨some 51,0, []⟩,⟨some 52,1, []⟩,⟨some 53,2, []⟩,⟨some 54,3, []⟩,⟨some 55,4, []⟩,⟨some 56,5, []⟩,⟨some 57,6, []⟩,⟨some 58,7, []⟩,⟨some 59,8, []⟩,⟨some 60,9, []⟩,⟨some 61,10, []⟩,⟨some 62,11, []⟩,⟨some 63,12, []⟩,⟨some 64,13, []⟩,⟨some 65,14, []⟩,⟨some 66,15, []⟩,⟨some 67,16, []⟩,⟨some 68,17, []⟩,⟨some 69,18, []⟩,⟨some 70,19, []⟩,⟨some 71,20, []⟩,⟨some 72,21, []⟩,⟨some 73,22, []⟩,⟨some 74,23, []⟩,⟨some 75,24, []⟩,⟨some 76,25, []⟩,⟨some 77,26, []⟩,⟨some 78,27, []⟩,⟨some 79,28, []⟩,⟨some 80,29, []⟩,⟨some 81,30, []⟩,⟨some 82,31, []⟩,⟨some 83,32, []⟩,⟨some 84,33, []⟩,⟨some 85,34, []⟩,⟨some 86,35, []⟩,⟨some 87,36, []⟩,⟨some 88,37, []⟩,⟨some 89,38, []⟩,⟨some 90,39, []⟩,⟨some 91,40, []⟩,⟨some 92,41, []⟩,⟨some 93,42, []⟩,⟨some 94,43, []⟩,⟨some 95,44, []⟩,⟨some 96,45, []⟩,⟨some 97,46, []⟩,⟨some 98,47, []⟩,⟨some 99,48, []⟩,⟨some 100,49, []⟩,⟨some 101,50, []⟩,⟨some 102,51, []⟩,⟨some 103,52, []⟩,⟨some 104,53, []⟩,⟨some 105,54, []⟩,⟨none,55, []⟩,⟨some 106,56, []⟩,⟨none,57, []⟩,⟨some 107,58, []⟩,⟨none,59, []⟩,⟨some 108,60, []⟩,⟨none,61, []⟩,⟨some 109,62, []⟩,⟨some 110,63, []⟩,⟨none,64, []⟩] (fun u u'=> u.heap.size≤u'.heap.size) (fun k u u'=> u'=st k u)
          (fun d w'=> w'=swCh st d wd)
          (fun oq v _ _ _ _=> match oq with | 0=> v=.pointer (some ⟨g,0,none⟩) | 1=> v=.pointer (some ⟨g,0,none⟩) | 2=> v=.pointer (some ⟨g,1,none⟩) | 3=> v=.slice aR n cR | 4=> v=.int .i64 k | 5=> v=.pointer (some ⟨g,0,none⟩) | 6=> v=.pointer (some ⟨g,0,none⟩) | 7=> v=.pointer (some ⟨g,1,none⟩) | 8=> v=.slice aR n cR | 9=> v=.int .i64 b | 10=> v=.pointer (some ⟨g,0,none⟩) | 11=> v=.pointer (some ⟨g,0,none⟩) | 12=> v=.pointer (some ⟨g,2,none⟩) | 13=> v=.slice aO n cO | 14=> v=.int .i64 k | 15=> v=.pointer (some ⟨g,0,none⟩) | 16=> v=.pointer (some ⟨g,0,none⟩) | 17=> v=.pointer (some ⟨g,2,none⟩) | 18=> v=.slice aO n cO | 19=> v=.int .i64 b | 20=> v=.pointer (some ⟨g,0,none⟩) | 21=> v=.pointer (some ⟨g,0,none⟩) | 22=> v=.pointer (some ⟨g,0,none⟩) | 23=> v=.pointer (some ⟨g,1,none⟩) | 24=> v=.slice aR n cR | 25=> v=.int .i64 b | 26=> v=.pointer (some ⟨gR,b,none⟩) | 27=> v=.slice (some ⟨bj b,0,none⟩) n n | 28=> v=.pointer (some ⟨g,0,none⟩) | 29=> v=.pointer (some ⟨g,0,none⟩) | 30=> v=.pointer (some ⟨g,1,none⟩) | 31=> v=.slice aR n cR | 32=> v=.int .i64 k | 33=> v=.pointer (some ⟨gR,k,none⟩) | 34=> v=.slice (some ⟨bj k,0,none⟩) n n | 35=> v=.pointer (some ⟨g,0,none⟩) | 36=> v=.pointer (some ⟨g,0,none⟩) | 37=> v=.pointer (some ⟨g,2,none⟩) | 38=> v=.slice aO n cO | 39=> v=.int .i64 b | 40=> v=.pointer (some ⟨gO,b,none⟩) | 41=> v=.int .i64 op | 42=> v=.pointer (some ⟨g,0,none⟩) | 43=> v=.pointer (some ⟨g,0,none⟩) | 44=> v=.pointer (some ⟨g,2,none⟩) | 45=> v=.slice aO n cO | 46=> v=.int .i64 k | 47=> v=.pointer (some ⟨gO,k,none⟩) | 48=> v=.int .i64 ok | 49=> v=.pointer (some ⟨g,0,none⟩) | 50=> v=.pointer (some ⟨g,0,none⟩) | 51=> v=.pointer (some ⟨g,3,none⟩) | 52=> v=.int .i64 sg | 53=> v=.int .i64 (-sg) | 54=> v=.pointer (some ⟨gR,k,none⟩) | 55=> True | 56=> v=.pointer (some ⟨gR,b,none⟩) | 57=> True | 58=> v=.pointer (some ⟨gO,k,none⟩) | 59=> True | 60=> v=.pointer (some ⟨gO,b,none⟩) | 61=> True | 62=> v=.pointer (some ⟨g,0,none⟩) | 63=> v=.pointer (some ⟨g,3,none⟩) | 64=> True | _=> True) (by kernel_rfl) ?hSs (fun _=> Nat.le_refl _) (fun _ _ _ h1 h2=> Nat.le_trans h1 h2) (fun _ _ h=> h) (fun k u u' h=> by rw [h,aQ.out];exact swStp_size _ _ _ _ _ _ _ _ _ _ k u) (fun j d u u' hd hr hc _ hw' hw=> swCh_step (fun j w h1 h2 h3 h4 h5=> by rw [aQ.out];exact swStp_other h1 h2 h3 h4 h5) hd (fun h=> hc 57 h 55 (zAk.1 (by kernel_rfl))) (fun h=> hc 59 h 57 (zAk.1 (by kernel_rfl))) (fun h=> hc 61 h 59 (zAk.1 (by kernel_rfl))) (fun h=> hc 64 h 61 (zAk.1 (by kernel_rfl))) (fun h=> by subst h;exact hr 55 (zAk.1 (by kernel_rfl))) (fun h=> by subst h;exact hr 57 (zAk.1 (by kernel_rfl))) (fun h=> by subst h;exact hr 59 (zAk.1 (by kernel_rfl))) (fun h=> by subst h;exact hr 61 (zAk.1 (by kernel_rfl))) hw' hw) (fun _ _ _ _ _ _ _ _ _ _ _ _ h=> h) ?hops ?hends
         case hSs=> exact (by unfold swCh;rw [if_neg (by decide)])
         case hops=>
          delta OwedU
          simp only [zBb,Act.put,List.setIfInBounds_toArray,lz,ls];refine Each.cons rfl ?_ (Each.cons rfl ?_ (Each.cons rfl ?_ (Each.cons rfl ?_ (Each.cons rfl ?_ (Each.cons rfl ?_ (Each.cons rfl ?_ (Each.cons rfl ?_ (Each.cons rfl ?_ (Each.cons rfl ?_ (Each.cons rfl ?_ (Each.cons rfl ?_ (Each.cons rfl ?_ (Each.cons rfl ?_ (Each.cons rfl ?_ (Each.cons rfl ?_ (Each.cons rfl ?_ (Each.cons rfl ?_ (Each.cons rfl ?_ (Each.cons rfl ?_ (Each.cons rfl ?_ (Each.cons rfl ?_ (Each.cons rfl ?_ (Each.cons rfl ?_ (Each.cons rfl ?_ (Each.cons rfl ?_ (Each.cons rfl ?_ (Each.cons rfl ?_ (Each.cons rfl ?_ (Each.cons rfl ?_ (Each.cons rfl ?_ (Each.cons rfl ?_ (Each.cons rfl ?_ (Each.cons rfl ?_ (Each.cons rfl ?_ (Each.cons rfl ?_ (Each.cons rfl ?_ (Each.cons rfl ?_ (Each.cons rfl ?_ (Each.cons rfl ?_ (Each.cons rfl ?_ (Each.cons rfl ?_ (Each.cons rfl ?_ (Each.cons rfl ?_ (Each.cons rfl ?_ (Each.cons rfl ?_ (Each.cons rfl ?_ (Each.cons rfl ?_ (Each.cons rfl ?_ (Each.cons rfl ?_ (Each.cons rfl ?_ (Each.cons rfl ?_ (Each.cons rfl ?_ (Each.cons rfl ?_ (Each.cons rfl ?_ (Each.cons rfl ?_ (Each.cons rfl ?_ (Each.cons rfl ?_ (Each.cons rfl ?_ (Each.cons rfl ?_ (Each.cons rfl ?_ (Each.cons rfl ?_ (Each.cons rfl ?_ (Each.cons rfl ?_ (Each.cons rfl ?_ Each.nil))))))))))))))))))))))))))))))))))))))))))))))))))))))))))))))))
          all_goals intro vs d w2 aV gL fO cC hS2 hR2 K hK;try simp only [lz,ls] at hK⊢
          · replace hS2:=hid hS2;go_simp;exact hK.out _ w2 (by rw [aQ.out];exact (swo (by decide)).symm) rfl
          · replace hS2:=hid hS2;have h0:vs 0=_:=exR (hR2 0 (by kernel_rfl)) (fun _ _ h=> h);simp only [h0] at hK⊢;go_simp;exact hK.out _ w2 (by rw [aQ.out];exact (swo (by decide)).symm) rfl
          · replace hS2:=hid hS2;have h1:vs 1=_:=exR (hR2 1 (by kernel_rfl)) (fun _ _ h=> h);simp only [h1] at hK⊢;go_simp;exact hK.out _ w2 (by rw [aQ.out];exact (swo (by decide)).symm) rfl
          · replace hS2:=hid hS2;have h2:vs 2=_:=exR (hR2 2 (by kernel_rfl)) (fun _ _ h=> h);simp only [h2] at hK⊢;have dd:d 55=false:=by
             cases iJ:d 55
             · rfl
             · have eI:=cC 55 iJ 3 (zAk.1 (by kernel_rfl));rw [gL] at eI;cases eI
            have cA:w2=wd:=by rw [hS2.out];unfold swCh;rw [if_neg (by rw [dd];decide)]
            have cc:=HC1.out;rw [←cA] at cc;clear cA dd hS2;go_simp;exact hK.out _ w2 (by rw [aQ.out];exact (swo (by decide)).symm) rfl
          · replace hS2:=hid hS2;go_simp;exact hK.out _ w2 (by rw [aQ.out];exact (swo (by decide)).symm) rfl
          · replace hS2:=hid hS2;go_simp;exact hK.out _ w2 (by rw [aQ.out];exact (swo (by decide)).symm) rfl
          · replace hS2:=hid hS2;have h5:vs 5=_:=exR (hR2 5 (by kernel_rfl)) (fun _ _ h=> h);simp only [h5] at hK⊢;go_simp;exact hK.out _ w2 (by rw [aQ.out];exact (swo (by decide)).symm) rfl
          · replace hS2:=hid hS2;have h6:vs 6=_:=exR (hR2 6 (by kernel_rfl)) (fun _ _ h=> h);simp only [h6] at hK⊢;go_simp;exact hK.out _ w2 (by rw [aQ.out];exact (swo (by decide)).symm) rfl
          · replace hS2:=hid hS2;have h7:vs 7=_:=exR (hR2 7 (by kernel_rfl)) (fun _ _ h=> h);simp only [h7] at hK⊢;have dd:d 55=false:=by
             cases iJ:d 55
             · rfl
             · have eI:=cC 55 iJ 8 (zAk.1 (by kernel_rfl));rw [gL] at eI;cases eI
            have cA:w2=wd:=by rw [hS2.out];unfold swCh;rw [if_neg (by rw [dd];decide)]
            have cc:=HC1.out;rw [←cA] at cc;clear cA dd hS2;go_simp;exact hK.out _ w2 (by rw [aQ.out];exact (swo (by decide)).symm) rfl
          · replace hS2:=hid hS2;go_simp;exact hK.out _ w2 (by rw [aQ.out];exact (swo (by decide)).symm) rfl
          · replace hS2:=hid hS2;go_simp;exact hK.out _ w2 (by rw [aQ.out];exact (swo (by decide)).symm) rfl
          · replace hS2:=hid hS2;have bX:vs 10=_:=exR (hR2 10 (by kernel_rfl)) (fun _ _ h=> h);simp only [bX] at hK⊢;go_simp;exact hK.out _ w2 (by rw [aQ.out];exact (swo (by decide)).symm) rfl
          · replace hS2:=hid hS2;have bQ:vs 11=_:=exR (hR2 11 (by kernel_rfl)) (fun _ _ h=> h);simp only [bQ] at hK⊢;go_simp;exact hK.out _ w2 (by rw [aQ.out];exact (swo (by decide)).symm) rfl
          · replace hS2:=hid hS2;have bW:vs 12=_:=exR (hR2 12 (by kernel_rfl)) (fun _ _ h=> h);simp only [bW] at hK⊢;have dd:d 55=false:=by
             cases iJ:d 55
             · rfl
             · have eI:=cC 55 iJ 13 (zAk.1 (by kernel_rfl));rw [gL] at eI;cases eI
            have cA:w2=wd:=by rw [hS2.out];unfold swCh;rw [if_neg (by rw [dd];decide)]
            have cc:=HC2.out;rw [←cA] at cc;clear cA dd hS2;go_simp;exact hK.out _ w2 (by rw [aQ.out];exact (swo (by decide)).symm) rfl
          · replace hS2:=hid hS2;go_simp;exact hK.out _ w2 (by rw [aQ.out];exact (swo (by decide)).symm) rfl
          · replace hS2:=hid hS2;go_simp;exact hK.out _ w2 (by rw [aQ.out];exact (swo (by decide)).symm) rfl
          · replace hS2:=hid hS2;have cM:vs 15=_:=exR (hR2 15 (by kernel_rfl)) (fun _ _ h=> h);simp only [cM] at hK⊢;go_simp;exact hK.out _ w2 (by rw [aQ.out];exact (swo (by decide)).symm) rfl
          · replace hS2:=hid hS2;have dR:vs 16=_:=exR (hR2 16 (by kernel_rfl)) (fun _ _ h=> h);simp only [dR] at hK⊢;go_simp;exact hK.out _ w2 (by rw [aQ.out];exact (swo (by decide)).symm) rfl
          · replace hS2:=hid hS2;have dQ:vs 17=_:=exR (hR2 17 (by kernel_rfl)) (fun _ _ h=> h);simp only [dQ] at hK⊢;have dd:d 55=false:=by
             cases iJ:d 55
             · rfl
             · have eI:=cC 55 iJ 18 (zAk.1 (by kernel_rfl));rw [gL] at eI;cases eI
            have cA:w2=wd:=by rw [hS2.out];unfold swCh;rw [if_neg (by rw [dd];decide)]
            have cc:=HC2.out;rw [←cA] at cc;clear cA dd hS2;go_simp;exact hK.out _ w2 (by rw [aQ.out];exact (swo (by decide)).symm) rfl
          · replace hS2:=hid hS2;go_simp;exact hK.out _ w2 (by rw [aQ.out];exact (swo (by decide)).symm) rfl
          · replace hS2:=hid hS2;go_simp;exact hK.out _ w2 (by rw [aQ.out];exact (swo (by decide)).symm) rfl
          · replace hS2:=hid hS2;go_simp;exact hK.out _ w2 (by rw [aQ.out];exact (swo (by decide)).symm) rfl
          · replace hS2:=hid hS2;have gQ:vs 21=_:=exR (hR2 21 (by kernel_rfl)) (fun _ _ h=> h);simp only [gQ] at hK⊢;go_simp;exact hK.out _ w2 (by rw [aQ.out];exact (swo (by decide)).symm) rfl
          · replace hS2:=hid hS2;have lK:vs 22=_:=exR (hR2 22 (by kernel_rfl)) (fun _ _ h=> h);simp only [lK] at hK⊢;go_simp;exact hK.out _ w2 (by rw [aQ.out];exact (swo (by decide)).symm) rfl
          · replace hS2:=hid hS2;have mY:vs 23=_:=exR (hR2 23 (by kernel_rfl)) (fun _ _ h=> h);simp only [mY] at hK⊢;have dd:d 55=false:=by
             cases iJ:d 55
             · rfl
             · have eI:=cC 55 iJ 24 (zAk.1 (by kernel_rfl));rw [gL] at eI;cases eI
            have cA:w2=wd:=by rw [hS2.out];unfold swCh;rw [if_neg (by rw [dd];decide)]
            have cc:=HC1.out;rw [←cA] at cc;clear cA dd hS2;go_simp;exact hK.out _ w2 (by rw [aQ.out];exact (swo (by decide)).symm) rfl
          · replace hS2:=hid hS2;go_simp;exact hK.out _ w2 (by rw [aQ.out];exact (swo (by decide)).symm) rfl
          · replace hS2:=hid hS2;obtain ⟨_,_,_,H24⟩:=hR2 24 (by kernel_rfl);have pE:vs 24=.slice aR n cR:=H24;have pD:vs 25=_:=exR (hR2 25 (by kernel_rfl)) (fun _ _ h=> h);simp only [pD,pE] at hK⊢;go_simp;exact hK.out _ w2 (by rw [aQ.out];exact (swo (by decide)).symm) rfl
          · replace hS2:=hid hS2;have mX:vs 26=_:=exR (hR2 26 (by kernel_rfl)) (fun _ _ h=> h);simp only [mX] at hK⊢;have dd:d 55=false:=by
             cases iJ:d 55
             · rfl
             · have eI:=cC 55 iJ 27 (zAk.1 (by kernel_rfl));rw [gL] at eI;cases eI
            have cA:w2=wd:=by rw [hS2.out];unfold swCh;rw [if_neg (by rw [dd];decide)]
            have cc:=HRB.out;rw [←cA] at cc;clear cA dd hS2;go_simp;exact hK.out _ w2 (by rw [aQ.out];exact (swo (by decide)).symm) rfl
          · replace hS2:=hid hS2;go_simp;exact hK.out _ w2 (by rw [aQ.out];exact (swo (by decide)).symm) rfl
          · replace hS2:=hid hS2;have wQ:vs 28=_:=exR (hR2 28 (by kernel_rfl)) (fun _ _ h=> h);simp only [wQ] at hK⊢;go_simp;exact hK.out _ w2 (by rw [aQ.out];exact (swo (by decide)).symm) rfl
          · replace hS2:=hid hS2;have h29:vs 29=_:=exR (hR2 29 (by kernel_rfl)) (fun _ _ h=> h);simp only [h29] at hK⊢;go_simp;exact hK.out _ w2 (by rw [aQ.out];exact (swo (by decide)).symm) rfl
          · replace hS2:=hid hS2;have h30:vs 30=_:=exR (hR2 30 (by kernel_rfl)) (fun _ _ h=> h);simp only [h30] at hK⊢;have dd:d 55=false:=by
             cases iJ:d 55
             · rfl
             · have eI:=cC 55 iJ 31 (zAk.1 (by kernel_rfl));rw [gL] at eI;cases eI
            have cA:w2=wd:=by rw [hS2.out];unfold swCh;rw [if_neg (by rw [dd];decide)]
            have cc:=HC1.out;rw [←cA] at cc;clear cA dd hS2;go_simp;exact hK.out _ w2 (by rw [aQ.out];exact (swo (by decide)).symm) rfl
          · replace hS2:=hid hS2;go_simp;exact hK.out _ w2 (by rw [aQ.out];exact (swo (by decide)).symm) rfl
          · replace hS2:=hid hS2;obtain ⟨_,_,_,H31⟩:=hR2 31 (by kernel_rfl);have h31:vs 31=.slice aR n cR:=H31;have zR:vs 32=_:=exR (hR2 32 (by kernel_rfl)) (fun _ _ h=> h);simp only [zR,h31] at hK⊢;go_simp;exact hK.out _ w2 (by rw [aQ.out];exact (swo (by decide)).symm) rfl
          · replace hS2:=hid hS2;have h33:vs 33=_:=exR (hR2 33 (by kernel_rfl)) (fun _ _ h=> h);simp only [h33] at hK⊢;have dd:d 55=false:=by
             cases iJ:d 55
             · rfl
             · have eI:=cC 55 iJ 34 (zAk.1 (by kernel_rfl));rw [gL] at eI;cases eI
            have cA:w2=wd:=by rw [hS2.out];unfold swCh;rw [if_neg (by rw [dd];decide)]
            have cc:=HRK.out;rw [←cA] at cc;clear cA dd hS2;go_simp;exact hK.out _ w2 (by rw [aQ.out];exact (swo (by decide)).symm) rfl
          · replace hS2:=hid hS2;go_simp;exact hK.out _ w2 (by rw [aQ.out];exact (swo (by decide)).symm) rfl
          · replace hS2:=hid hS2;have h35:vs 35=_:=exR (hR2 35 (by kernel_rfl)) (fun _ _ h=> h);simp only [h35] at hK⊢;go_simp;exact hK.out _ w2 (by rw [aQ.out];exact (swo (by decide)).symm) rfl
          · replace hS2:=hid hS2;have h36:vs 36=_:=exR (hR2 36 (by kernel_rfl)) (fun _ _ h=> h);simp only [h36] at hK⊢;go_simp;exact hK.out _ w2 (by rw [aQ.out];exact (swo (by decide)).symm) rfl
          · replace hS2:=hid hS2;have h37:vs 37=_:=exR (hR2 37 (by kernel_rfl)) (fun _ _ h=> h);simp only [h37] at hK⊢;have dd:d 55=false:=by
             cases iJ:d 55
             · rfl
             · have eI:=cC 55 iJ 38 (zAk.1 (by kernel_rfl));rw [gL] at eI;cases eI
            have cA:w2=wd:=by rw [hS2.out];unfold swCh;rw [if_neg (by rw [dd];decide)]
            have cc:=HC2.out;rw [←cA] at cc;clear cA dd hS2;go_simp;exact hK.out _ w2 (by rw [aQ.out];exact (swo (by decide)).symm) rfl
          · replace hS2:=hid hS2;go_simp;exact hK.out _ w2 (by rw [aQ.out];exact (swo (by decide)).symm) rfl
          · replace hS2:=hid hS2;obtain ⟨_,_,_,H38⟩:=hR2 38 (by kernel_rfl);have h38:vs 38=.slice aO n cO:=H38;have h39:vs 39=_:=exR (hR2 39 (by kernel_rfl)) (fun _ _ h=> h);simp only [h39,h38] at hK⊢;go_simp;exact hK.out _ w2 (by rw [aQ.out];exact (swo (by decide)).symm) rfl
          · replace hS2:=hid hS2;have rK:vs 40=_:=exR (hR2 40 (by kernel_rfl)) (fun _ _ h=> h);simp only [rK] at hK⊢;have dd:d 55=false:=by
             cases iJ:d 55
             · rfl
             · have eI:=cC 55 iJ 41 (zAk.1 (by kernel_rfl));rw [gL] at eI;cases eI
            have cA:w2=wd:=by rw [hS2.out];unfold swCh;rw [if_neg (by rw [dd];decide)]
            have cc:=fN.out;rw [←cA] at cc;clear cA dd hS2;go_simp;exact hK.out _ w2 (by rw [aQ.out];exact (swo (by decide)).symm) rfl
          · replace hS2:=hid hS2;go_simp;exact hK.out _ w2 (by rw [aQ.out];exact (swo (by decide)).symm) rfl
          · replace hS2:=hid hS2;have h42:vs 42=_:=exR (hR2 42 (by kernel_rfl)) (fun _ _ h=> h);simp only [h42] at hK⊢;go_simp;exact hK.out _ w2 (by rw [aQ.out];exact (swo (by decide)).symm) rfl
          · replace hS2:=hid hS2;have h43:vs 43=_:=exR (hR2 43 (by kernel_rfl)) (fun _ _ h=> h);simp only [h43] at hK⊢;go_simp;exact hK.out _ w2 (by rw [aQ.out];exact (swo (by decide)).symm) rfl
          · replace hS2:=hid hS2;have h44:vs 44=_:=exR (hR2 44 (by kernel_rfl)) (fun _ _ h=> h);simp only [h44] at hK⊢;have dd:d 55=false:=by
             cases iJ:d 55
             · rfl
             · have eI:=cC 55 iJ 45 (zAk.1 (by kernel_rfl));rw [gL] at eI;cases eI
            have cA:w2=wd:=by rw [hS2.out];unfold swCh;rw [if_neg (by rw [dd];decide)]
            have cc:=HC2.out;rw [←cA] at cc;clear cA dd hS2;go_simp;exact hK.out _ w2 (by rw [aQ.out];exact (swo (by decide)).symm) rfl
          · replace hS2:=hid hS2;go_simp;exact hK.out _ w2 (by rw [aQ.out];exact (swo (by decide)).symm) rfl
          · replace hS2:=hid hS2;obtain ⟨_,_,_,H45⟩:=hR2 45 (by kernel_rfl);have h45:vs 45=.slice aO n cO:=H45;have h46:vs 46=_:=exR (hR2 46 (by kernel_rfl)) (fun _ _ h=> h);simp only [h46,h45] at hK⊢;go_simp;exact hK.out _ w2 (by rw [aQ.out];exact (swo (by decide)).symm) rfl
          · replace hS2:=hid hS2;have h47:vs 47=_:=exR (hR2 47 (by kernel_rfl)) (fun _ _ h=> h);simp only [h47] at hK⊢;have dd:d 55=false:=by
             cases iJ:d 55
             · rfl
             · have eI:=cC 55 iJ 48 (zAk.1 (by kernel_rfl));rw [gL] at eI;cases eI
            have cA:w2=wd:=by rw [hS2.out];unfold swCh;rw [if_neg (by rw [dd];decide)]
            have cc:=cH.out;rw [←cA] at cc;clear cA dd hS2;go_simp;exact hK.out _ w2 (by rw [aQ.out];exact (swo (by decide)).symm) rfl
          · replace hS2:=hid hS2;go_simp;exact hK.out _ w2 (by rw [aQ.out];exact (swo (by decide)).symm) rfl
          · replace hS2:=hid hS2;have h49:vs 49=_:=exR (hR2 49 (by kernel_rfl)) (fun _ _ h=> h);simp only [h49] at hK⊢;go_simp;exact hK.out _ w2 (by rw [aQ.out];exact (swo (by decide)).symm) rfl
          · replace hS2:=hid hS2;have h50:vs 50=_:=exR (hR2 50 (by kernel_rfl)) (fun _ _ h=> h);simp only [h50] at hK⊢;go_simp;exact hK.out _ w2 (by rw [aQ.out];exact (swo (by decide)).symm) rfl
          · replace hS2:=hid hS2;have h51:vs 51=_:=exR (hR2 51 (by kernel_rfl)) (fun _ _ h=> h);simp only [h51] at hK⊢;have dd:d 55=false:=by
             cases iJ:d 55
             · rfl
             · have eI:=cC 55 iJ 52 (zAk.1 (by kernel_rfl));rw [gL] at eI;cases eI
            have cA:w2=wd:=by rw [hS2.out];unfold swCh;rw [if_neg (by rw [dd];decide)]
            have cc:=HC3.out;rw [←cA] at cc;clear cA dd hS2;go_simp;exact hK.out _ w2 (by rw [aQ.out];exact (swo (by decide)).symm) rfl
          · replace hS2:=hid hS2;obtain ⟨_,_,_,H52⟩:=hR2 52 (by kernel_rfl);have h52:vs 52=.int .i64 sg:=H52;simp only [h52] at hK⊢;go_simp;exact hK.out _ w2 (by rw [aQ.out];exact (swo (by decide)).symm) rfl
          · replace hS2:=hid hS2;obtain ⟨_,_,_,H3⟩:=hR2 3 (by kernel_rfl);have h3:vs 3=.slice aR n cR:=H3;have h4:vs 4=_:=exR (hR2 4 (by kernel_rfl)) (fun _ _ h=> h);simp only [h4,h3] at hK⊢;go_simp;exact hK.out _ w2 (by rw [aQ.out];exact (swo (by decide)).symm) rfl
          · replace hS2:=hid hS2;obtain ⟨_,_,_,H27⟩:=hR2 27 (by kernel_rfl);have wR:vs 27=.slice (some ⟨bj b,0,none⟩) n n:=H27;have h54:vs 54=_:=exR (hR2 54 (by kernel_rfl)) (fun _ _ h=> h)
            (try simp only at hK⊢)
            simp only [h54,wR] at hK⊢;have n55:¬d 55=true:=by rw [gL];decide
            have n57:¬d 57=true:=fun h=> n55 (cC 57 h 55 (zAk.1 (by kernel_rfl)))
            have n59:¬d 59=true:=fun h=> n57 (cC 59 h 57 (zAk.1 (by kernel_rfl)))
            have n61:¬d 61=true:=fun h=> n59 (cC 61 h 59 (zAk.1 (by kernel_rfl)))
            have n64:¬d 64=true:=fun h=> n61 (cC 64 h 61 (zAk.1 (by kernel_rfl)))
            have cA:w2=wd:=by rw [hS2.out];unfold swCh;rw [if_neg n55]
            have cc:=HRK.out;have ff:=HF0.out;rw [←cA] at cc ff;clear cA hS2 n55 n57 n59 n61 n64;go_simp;exact hK.out undef _ (by rw [aQ.out];rfl) trivial
          · replace hS2:=hid hS2;obtain ⟨_,_,_,H8⟩:=hR2 8 (by kernel_rfl);have h8:vs 8=.slice aR n cR:=H8;have h9:vs 9=_:=exR (hR2 9 (by kernel_rfl)) (fun _ _ h=> h);simp only [h9,h8] at hK⊢;go_simp;exact hK.out _ w2 (by rw [aQ.out];exact (swo (by decide)).symm) rfl
          · replace hS2:=hid hS2;obtain ⟨_,_,_,H34⟩:=hR2 34 (by kernel_rfl);have h34:vs 34=.slice (some ⟨bj k,0,none⟩) n n:=H34;have h56:vs 56=_:=exR (hR2 56 (by kernel_rfl)) (fun _ _ h=> h)
            (try simp only at hK⊢)
            simp only [h56,h34] at hK⊢;have t55:d 55=true:=fO 55 (zAk.1 (by kernel_rfl));have n57:¬d 57=true:=by rw [gL];decide
            have n59:¬d 59=true:=fun h=> n57 (cC 59 h 57 (zAk.1 (by kernel_rfl)))
            have n61:¬d 61=true:=fun h=> n59 (cC 61 h 59 (zAk.1 (by kernel_rfl)))
            have n64:¬d 64=true:=fun h=> n61 (cC 64 h 61 (zAk.1 (by kernel_rfl)))
            have cA:w2=(st 55 wd):=by rw [hS2.out];unfold swCh;rw [if_pos t55];rw [if_neg n57]
            obtain ⟨xx,cc⟩:=HW.out.1;have ff:=HW.out.2.1;have HCC:=hid cc;have HFF:=hid ff;rw [←cA] at cc ff;clear cA hS2 HCC HFF n57 n59 n61 n64 t55;go_simp;exact hK.out undef _ (by rw [aQ.out];rfl) trivial
          · replace hS2:=hid hS2;obtain ⟨_,_,_,H13⟩:=hR2 13 (by kernel_rfl);have bV:vs 13=.slice aO n cO:=H13;have bZ:vs 14=_:=exR (hR2 14 (by kernel_rfl)) (fun _ _ h=> h);simp only [bZ,bV] at hK⊢;go_simp;exact hK.out _ w2 (by rw [aQ.out];exact (swo (by decide)).symm) rfl
          · replace hS2:=hid hS2;obtain ⟨_,_,_,H41⟩:=hR2 41 (by kernel_rfl);have h41:vs 41=.int .i64 op:=H41;have h58:vs 58=_:=exR (hR2 58 (by kernel_rfl)) (fun _ _ h=> h)
            (try simp only at hK⊢)
            simp only [h58,h41] at hK⊢;have t55:d 55=true:=fO 55 (zAk.1 (by kernel_rfl));have t57:d 57=true:=fO 57 (zAk.1 (by kernel_rfl));have n59:¬d 59=true:=by rw [gL];decide
            have n61:¬d 61=true:=fun h=> n59 (cC 61 h 59 (zAk.1 (by kernel_rfl)))
            have n64:¬d 64=true:=fun h=> n61 (cC 64 h 61 (zAk.1 (by kernel_rfl)))
            have cA:w2=(st 57 (st 55 wd)):=by rw [hS2.out];unfold swCh;rw [if_pos t55];rw [if_pos t57];rw [if_neg n59]
            obtain ⟨xx,cc⟩:=HW.out.2.2.1;have ff:=HW.out.2.2.2.1;have HCC:=hid cc;have HFF:=hid ff;rw [←cA] at cc ff;clear cA hS2 HCC HFF n59 n61 n64 t55 t57;go_simp;exact hK.out undef _ (by rw [aQ.out];rfl) trivial
          · replace hS2:=hid hS2;obtain ⟨_,_,_,H18⟩:=hR2 18 (by kernel_rfl);have fQ:vs 18=.slice aO n cO:=H18;have gS:vs 19=_:=exR (hR2 19 (by kernel_rfl)) (fun _ _ h=> h);simp only [gS,fQ] at hK⊢;go_simp;exact hK.out _ w2 (by rw [aQ.out];exact (swo (by decide)).symm) rfl
          · replace hS2:=hid hS2;obtain ⟨_,_,_,H48⟩:=hR2 48 (by kernel_rfl);have h48:vs 48=.int .i64 ok:=H48;have h60:vs 60=_:=exR (hR2 60 (by kernel_rfl)) (fun _ _ h=> h)
            (try simp only at hK⊢)
            simp only [h60,h48] at hK⊢;have t55:d 55=true:=fO 55 (zAk.1 (by kernel_rfl));have t57:d 57=true:=fO 57 (zAk.1 (by kernel_rfl));have t59:d 59=true:=fO 59 (zAk.1 (by kernel_rfl));have n61:¬d 61=true:=by rw [gL];decide
            have n64:¬d 64=true:=fun h=> n61 (cC 64 h 61 (zAk.1 (by kernel_rfl)))
            have cA:w2=(st 59 (st 57 (st 55 wd))):=by rw [hS2.out];unfold swCh;rw [if_pos t55];rw [if_pos t57];rw [if_pos t59];rw [if_neg n61]
            obtain ⟨xx,cc⟩:=HW.out.2.2.2.2.1;have ff:=HW.out.2.2.2.2.2.1;have HCC:=hid cc;have HFF:=hid ff;rw [←cA] at cc ff;clear cA hS2 HCC HFF n61 n64 t55 t57 t59;go_simp;exact hK.out undef _ (by rw [aQ.out];rfl) trivial
          · replace hS2:=hid hS2;have iE:vs 20=_:=exR (hR2 20 (by kernel_rfl)) (fun _ _ h=> h);simp only [iE] at hK⊢;go_simp;exact hK.out _ w2 (by rw [aQ.out];exact (swo (by decide)).symm) rfl
          · replace hS2:=hid hS2;have h62:vs 62=_:=exR (hR2 62 (by kernel_rfl)) (fun _ _ h=> h);simp only [h62] at hK⊢;go_simp;exact hK.out _ w2 (by rw [aQ.out];exact (swo (by decide)).symm) rfl
          · replace hS2:=hid hS2;have h53:vs 53=_:=exR (hR2 53 (by kernel_rfl)) (fun _ _ h=> h);have kH:vs 63=_:=exR (hR2 63 (by kernel_rfl)) (fun _ _ h=> h)
            (try simp only at hK⊢)
            simp only [h53,kH] at hK⊢;have t55:d 55=true:=fO 55 (zAk.1 (by kernel_rfl));have t57:d 57=true:=fO 57 (zAk.1 (by kernel_rfl));have t59:d 59=true:=fO 59 (zAk.1 (by kernel_rfl));have t61:d 61=true:=fO 61 (zAk.1 (by kernel_rfl));have n64:¬d 64=true:=by rw [gL];decide
            have cA:w2=(st 61 (st 59 (st 57 (st 55 wd)))):=by rw [hS2.out];unfold swCh;rw [if_pos t55];rw [if_pos t57];rw [if_pos t59];rw [if_pos t61];rw [if_neg n64]
            obtain ⟨xx,cc⟩:=HW.out.2.2.2.2.2.2.1;have ff:=HW.out.2.2.2.2.2.2.2.1;have HCC:=hid cc;have HFF:=hid ff;rw [←cA] at cc ff;clear cA hS2 HCC HFF n64 t55 t57 t59 t61;go_simp;exact hK.out undef _ (by rw [aQ.out];rfl) trivial
         case hends=>
          intro vs wx lo iB bK hSx hRx dN;have h0:vs 0=_:=(hRx 0 (by kernel_rfl)).1;have h1:vs 1=_:=(hRx 1 (by kernel_rfl)).1;have h2:vs 2=_:=(hRx 2 (by kernel_rfl)).1;have H3:=(hRx 3 (by kernel_rfl)).1;have h3:vs 3=.slice aR n cR:=H3;have h4:vs 4=_:=(hRx 4 (by kernel_rfl)).1;have h5:vs 5=_:=(hRx 5 (by kernel_rfl)).1;have h6:vs 6=_:=(hRx 6 (by kernel_rfl)).1;have h7:vs 7=_:=(hRx 7 (by kernel_rfl)).1;have H8:=(hRx 8 (by kernel_rfl)).1;have h8:vs 8=.slice aR n cR:=H8;have h9:vs 9=_:=(hRx 9 (by kernel_rfl)).1;have bX:vs 10=_:=(hRx 10 (by kernel_rfl)).1;have bQ:vs 11=_:=(hRx 11 (by kernel_rfl)).1;have bW:vs 12=_:=(hRx 12 (by kernel_rfl)).1;have H13:=(hRx 13 (by kernel_rfl)).1;have bV:vs 13=.slice aO n cO:=H13;have bZ:vs 14=_:=(hRx 14 (by kernel_rfl)).1;have cM:vs 15=_:=(hRx 15 (by kernel_rfl)).1;have dR:vs 16=_:=(hRx 16 (by kernel_rfl)).1;have dQ:vs 17=_:=(hRx 17 (by kernel_rfl)).1;have H18:=(hRx 18 (by kernel_rfl)).1;have fQ:vs 18=.slice aO n cO:=H18;have gS:vs 19=_:=(hRx 19 (by kernel_rfl)).1;have iE:vs 20=_:=(hRx 20 (by kernel_rfl)).1;have gQ:vs 21=_:=(hRx 21 (by kernel_rfl)).1;have lK:vs 22=_:=(hRx 22 (by kernel_rfl)).1;have mY:vs 23=_:=(hRx 23 (by kernel_rfl)).1;have H24:=(hRx 24 (by kernel_rfl)).1;have pE:vs 24=.slice aR n cR:=H24;have pD:vs 25=_:=(hRx 25 (by kernel_rfl)).1;have mX:vs 26=_:=(hRx 26 (by kernel_rfl)).1;have H27:=(hRx 27 (by kernel_rfl)).1;have wR:vs 27=.slice (some ⟨bj b,0,none⟩) n n:=H27;have wQ:vs 28=_:=(hRx 28 (by kernel_rfl)).1;have h29:vs 29=_:=(hRx 29 (by kernel_rfl)).1;have h30:vs 30=_:=(hRx 30 (by kernel_rfl)).1;have H31:=(hRx 31 (by kernel_rfl)).1;have h31:vs 31=.slice aR n cR:=H31;have zR:vs 32=_:=(hRx 32 (by kernel_rfl)).1;have h33:vs 33=_:=(hRx 33 (by kernel_rfl)).1;have H34:=(hRx 34 (by kernel_rfl)).1
          have h34:vs 34=.slice (some ⟨bj k,0,none⟩) n n:=H34;have h35:vs 35=_:=(hRx 35 (by kernel_rfl)).1;have h36:vs 36=_:=(hRx 36 (by kernel_rfl)).1;have h37:vs 37=_:=(hRx 37 (by kernel_rfl)).1;have H38:=(hRx 38 (by kernel_rfl)).1;have h38:vs 38=.slice aO n cO:=H38;have h39:vs 39=_:=(hRx 39 (by kernel_rfl)).1;have rK:vs 40=_:=(hRx 40 (by kernel_rfl)).1;have H41:=(hRx 41 (by kernel_rfl)).1;have h41:vs 41=.int .i64 op:=H41;have h42:vs 42=_:=(hRx 42 (by kernel_rfl)).1;have h43:vs 43=_:=(hRx 43 (by kernel_rfl)).1;have h44:vs 44=_:=(hRx 44 (by kernel_rfl)).1;have H45:=(hRx 45 (by kernel_rfl)).1;have h45:vs 45=.slice aO n cO:=H45;have h46:vs 46=_:=(hRx 46 (by kernel_rfl)).1;have h47:vs 47=_:=(hRx 47 (by kernel_rfl)).1;have H48:=(hRx 48 (by kernel_rfl)).1;have h48:vs 48=.int .i64 ok:=H48;have h49:vs 49=_:=(hRx 49 (by kernel_rfl)).1;have h50:vs 50=_:=(hRx 50 (by kernel_rfl)).1;have h51:vs 51=_:=(hRx 51 (by kernel_rfl)).1;have H52:=(hRx 52 (by kernel_rfl)).1;have h52:vs 52=.int .i64 sg:=H52;have h53:vs 53=_:=(hRx 53 (by kernel_rfl)).1;have h54:vs 54=_:=(hRx 54 (by kernel_rfl)).1;have h56:vs 56=_:=(hRx 56 (by kernel_rfl)).1;have h58:vs 58=_:=(hRx 58 (by kernel_rfl)).1;have h60:vs 60=_:=(hRx 60 (by kernel_rfl)).1;have h62:vs 62=_:=(hRx 62 (by kernel_rfl)).1;have kH:vs 63=_:=(hRx 63 (by kernel_rfl)).1;simp only [zBb,Act.put,List.setIfInBounds_toArray,lz,ls,h0,h1,h2,h3,h4,h5,h6,h7,h8,h9,bX,bQ,bW,bV,bZ,cM,dR,dQ,fQ,gS,iE,gQ,lK,mY,pE,pD,mX,wR,wQ,h29,h30,h31,zR,h33,h34,h35,h36,h37,h38,h39,rK,h41,h42,h43,h44,h45,h46,h47,h48,h49,h50,h51,h52,h53,h54,h56,h58,h60,h62,kH];have qM:wx=st 64 (st 61 (st 59 (st 57 (st 55 wd)))):=by
           rw [hSx];unfold swCh;rw [if_pos (by rfl),if_pos (by rfl),if_pos (by rfl),if_pos (by rfl),if_pos (by rfl)]
          have HX:=hid qM;clear qM hSx hRx dN iB bK;refine wpAny_done (by kernel_rfl) ?_ _;go_wp2;go_meet;refine ⟨_,_,_,_,by rw [HX.out];exact HW.out.2.2.2.2.2.2.2.2.2,?_,?_⟩
          · rw [←HOPE.out,←HOKE.out];exact pM.out.swap iP.out HBN.out fR.out
          · rw [HX.out];exact aJ.out.trans HW.out.2.2.2.2.2.2.2.2.1
      case rest=>
       obtain ⟨bj2,M2,ord2,sg2,mV,oC,aV⟩:=hcut;have qF:=hid mV;have aG:=hid aV;obtain ⟨R,hR⟩:∃R,(swS s b k).R=R:=⟨_,rfl⟩;have HR:=hid hR;have HNM0:=hid (show NumM n M2 R from fun i j hi hj=> by rw [←hR];exact oC.num i j hi hj);have HOS:=hid (show ord2.length=n∧(∀i,i < n→ord2[i]? =some ((swS s b k).ord i:Int))∧sg2=(if (swS s b k).neg=true then -1 else 1) from ⟨oC.ln,oC.ord,oC.sg⟩);clear mV oC aV hR vV;go_wp2
       go_loopw [10,11] (fun f i wr=> ∃ (a:Nat) (Ma:Nat→List Cx),k < a∧a≤n∧f=.bool (zEq R k n a)∧i=.int .i64 a∧LwAt B wr g (.slice aR n cR) (.slice aO n cO) n n n bj2 Ma ord2 sg2∧NumM n Ma (elP R k a (k+1))∧Below B w wr) (fun _ i _=> n - (intOf i).toNat)
       case atStart=> exact ⟨k+1,M2,by omega,by omega,by rw [fineUp_start],by go_num,qF.out,by rw [elP_start];exact HNM0.out,aG.out⟩
       case round=>
        obtain ⟨a,Ma,hka,han,rfl,rfl,uN,hna,zP⟩:=hrel;have mO:=hid uN;have HNr:=hid hna;have mS:=hid zP;have HKA:=hid hka;clear uN hna zP qF aG HNM0
        by_cases aM:a < n
        · have kV:=hid aM;obtain ⟨ra,_,iD⟩:=mO.out.rc aM dL.out;obtain ⟨rk,_,hik⟩:=mO.out.rc hk dL.out;have c1:=(zAb mO.out.box).1 1 _ rfl;have eD:∀w',(Instr.indexAt 41 (.slice (some ⟨bj2 a,0,none⟩) n n) (.int .i64 k)).run Tryz.prog w'=.ok (.pointer (some ⟨bj2 a,k,none⟩)) w':=fun w'=> zEy iP.out w'
          have hatk:∀w',(Instr.indexAt 41 (.slice (some ⟨bj2 k,0,none⟩) n n) (.int .i64 k)).run Tryz.prog w'=.ok (.pointer (some ⟨bj2 k,k,none⟩)) w':=fun w'=> zEy iP.out w'
          go_upto_region 17 with fail;clear ra rk c1
          obtain ⟨x1,x2,yO⟩:∃x1 x2,(Ma a).getD k (0,0)=(x1,x2):=⟨_,_,rfl⟩;obtain ⟨y1,y2,uF⟩:∃y1 y2,(Ma k).getD k (0,0)=(y1,y2):=⟨_,_,rfl⟩;have fV:=hid (show wr.cell? ⟨bj2 a,k,none⟩=some (.complex .f64 x1 x2) by have h:=(mO.out.nc aM hk).1;rw [yO] at h;exact h);have jZ:=hid (show wr.cell? ⟨bj2 k,k,none⟩=some (.complex .f64 y1 y2) by have h:=(mO.out.nc hk hk).1;rw [uF] at h;exact h);have HXA:=hid (show ck (x1,x2)=R a k by rw [←yO,HNr.out a k aM hk,elP_diag]);have HYK:=hid (show ck (y1,y2)=R k k by rw [←uF,HNr.out k k hk hk,elP_top HKA.out]);clear yO uF;refine wp_region_any (by kernel_rfl) ?_;change wpAny _ _ _ _ _ _ _ (World.drew _);refine zAx [⟨some 129,0, []⟩,⟨some 130,1, []⟩,⟨some 131,2, []⟩,⟨some 132,3, []⟩,⟨some 133,4, []⟩,⟨some 134,5, []⟩,⟨some 135,6, []⟩,⟨some 136,7, []⟩,⟨some 137,8, []⟩,⟨some 138,9, []⟩,⟨some 139,10, []⟩,⟨some 140,11, []⟩,⟨some 141,12, []⟩,⟨some 142,13, []⟩,⟨some 143,14, []⟩]
           (fun w'=> LwAt B w' g (.slice aR n cR) (.slice aO n cO) n n n bj2 Ma ord2 sg2∧w'.cell? ⟨bj2 a,k,none⟩=some (.complex .f64 x1 x2)∧w'.cell? ⟨bj2 k,k,none⟩=some (.complex .f64 y1 y2))
           (fun oq v _ _ _ _=> match oq with | 0=> v=.slice (some ⟨bj2 a,0,none⟩) n n | 1=> v=.int .i64 k | 2=> v=.pointer (some ⟨bj2 a,k,none⟩) | 3=> v=.complex .f64 x1 x2 | 4=> v=.pointer (some ⟨g,0,none⟩) | 5=> v=.pointer (some ⟨g,0,none⟩) | 6=> v=.pointer (some ⟨g,1,none⟩) | 7=> v=.slice aR n cR | 8=> v=.int .i64 k | 9=> v=.pointer (some ⟨gR,k,none⟩) | 10=> v=.slice (some ⟨bj2 k,0,none⟩) n n | 11=> v=.int .i64 k | 12=> v=.pointer (some ⟨bj2 k,k,none⟩) | 13=> v=.complex .f64 y1 y2 | 14=> ∃r1 r2,v=Value.complex .f64 r1 r2∧ck (r1,r2)=cdiv (fc x1,fc x2) (fc y1,fc y2) | _=> True) (by kernel_rfl) ?hSf (fun _ _ hb h=> ⟨h.1.later hb,cell_later hb h.2.1,cell_later hb h.2.2⟩) (fun _ _ _ _ _ _ _ _ _ h=> h) ?yU ?rD
          case hSf=> exact ⟨mO.out.later (Below.refl _ _).drew,cell_later (Below.refl _ _).drew fV.out,cell_later (Below.refl _ _).drew jZ.out⟩
          case yU=>
           delta Owed
           simp only [zBb,Act.put,List.setIfInBounds_toArray,lz,ls];refine Each.cons rfl ?_ (Each.cons rfl ?_ (Each.cons rfl ?_ (Each.cons rfl ?_ (Each.cons rfl ?_ (Each.cons rfl ?_ (Each.cons rfl ?_ (Each.cons rfl ?_ (Each.cons rfl ?_ (Each.cons rfl ?_ (Each.cons rfl ?_ (Each.cons rfl ?_ (Each.cons rfl ?_ (Each.cons rfl ?_ (Each.cons rfl ?_ Each.nil))))))))))))))
           all_goals intro vs w2 aV hS2 hR2 K hK;try simp only [lz,ls] at hK⊢
           · go_simp;exact shP hK
           · go_simp;exact shP hK
           · have h0:vs 0=_:=exR (hR2 0 (by kernel_rfl)) (fun _ _ h=> h);have h1:vs 1=_:=exR (hR2 1 (by kernel_rfl)) (fun _ _ h=> h);have l1:=(zAb hS2.1.box).1 1 _ rfl;have l2:=(hS2.1.rc iP.out dL.out).1;have l3:=hS2.2.1;have l4:=hS2.2.2;simp only [h0,h1] at hK⊢;go_simp;exact shP hK
           · have h2:vs 2=_:=exR (hR2 2 (by kernel_rfl)) (fun _ _ h=> h);have l1:=(zAb hS2.1.box).1 1 _ rfl;have l2:=(hS2.1.rc iP.out dL.out).1;have l3:=hS2.2.1;have l4:=hS2.2.2;simp only [h2] at hK⊢;go_simp;exact shP hK
           · go_simp;exact shP hK
           · have h4:vs 4=_:=exR (hR2 4 (by kernel_rfl)) (fun _ _ h=> h);simp only [h4] at hK⊢;go_simp;exact shP hK
           · have h5:vs 5=_:=exR (hR2 5 (by kernel_rfl)) (fun _ _ h=> h);simp only [h5] at hK⊢;go_simp;exact shP hK
           · have h6:vs 6=_:=exR (hR2 6 (by kernel_rfl)) (fun _ _ h=> h);have l1:=(zAb hS2.1.box).1 1 _ rfl;have l2:=(hS2.1.rc iP.out dL.out).1;have l3:=hS2.2.1;have l4:=hS2.2.2;simp only [h6] at hK⊢;go_simp;exact shP hK
           · go_simp;exact shP hK
           · have h7:vs 7=_:=exR (hR2 7 (by kernel_rfl)) (fun _ _ h=> h);have h8:vs 8=_:=exR (hR2 8 (by kernel_rfl)) (fun _ _ h=> h);have l1:=(zAb hS2.1.box).1 1 _ rfl;have l2:=(hS2.1.rc iP.out dL.out).1;have l3:=hS2.2.1;have l4:=hS2.2.2;simp only [h7,h8] at hK⊢;go_simp;exact shP hK
           · have h9:vs 9=_:=exR (hR2 9 (by kernel_rfl)) (fun _ _ h=> h);have l1:=(zAb hS2.1.box).1 1 _ rfl;have l2:=(hS2.1.rc iP.out dL.out).1;have l3:=hS2.2.1;have l4:=hS2.2.2;simp only [h9] at hK⊢;go_simp;exact shP hK
           · go_simp;exact shP hK
           · have bX:vs 10=_:=exR (hR2 10 (by kernel_rfl)) (fun _ _ h=> h);have bQ:vs 11=_:=exR (hR2 11 (by kernel_rfl)) (fun _ _ h=> h);have l1:=(zAb hS2.1.box).1 1 _ rfl;have l2:=(hS2.1.rc iP.out dL.out).1;have l3:=hS2.2.1;have l4:=hS2.2.2;simp only [bX,bQ] at hK⊢;go_simp;exact shP hK
           · have bW:vs 12=_:=exR (hR2 12 (by kernel_rfl)) (fun _ _ h=> h);have l1:=(zAb hS2.1.box).1 1 _ rfl;have l2:=(hS2.1.rc iP.out dL.out).1;have l3:=hS2.2.1;have l4:=hS2.2.2;simp only [bW] at hK⊢;go_simp;exact shP hK
           · have h3:vs 3=_:=exR (hR2 3 (by kernel_rfl)) (fun _ _ h=> h);have bV:vs 13=_:=exR (hR2 13 (by kernel_rfl)) (fun _ _ h=> h);simp only [h3,bV] at hK⊢;rw [if_pos (by rfl)];go_wp2_with (go_at_call 79;refine (pdiv_any x1 x2 y1 y2 _).mono ?_;rintro e w3 ⟨v,nn,rfl,he,r1,r2,rfl,aP⟩;subst he);exact hK.out _ _ (zAg (Below.refl _ _) nn) ⟨r1,r2,rfl,aP⟩
          case rD=>
           intro vs wx lo iB bK hSx hRx dN;have h0:vs 0=_:=(hRx 0 (by kernel_rfl)).1;have h1:vs 1=_:=(hRx 1 (by kernel_rfl)).1;have h2:vs 2=_:=(hRx 2 (by kernel_rfl)).1;have h3:vs 3=_:=(hRx 3 (by kernel_rfl)).1;have h4:vs 4=_:=(hRx 4 (by kernel_rfl)).1;have h5:vs 5=_:=(hRx 5 (by kernel_rfl)).1;have h6:vs 6=_:=(hRx 6 (by kernel_rfl)).1;have h7:vs 7=_:=(hRx 7 (by kernel_rfl)).1;have h8:vs 8=_:=(hRx 8 (by kernel_rfl)).1;have h9:vs 9=_:=(hRx 9 (by kernel_rfl)).1;have bX:vs 10=_:=(hRx 10 (by kernel_rfl)).1;have bQ:vs 11=_:=(hRx 11 (by kernel_rfl)).1;have bW:vs 12=_:=(hRx 12 (by kernel_rfl)).1;have bV:vs 13=_:=(hRx 13 (by kernel_rfl)).1;have H14:=(hRx 14 (by kernel_rfl)).1;obtain ⟨r1,r2,bZ,hz14⟩:=H14;simp only [zBb,Act.put,List.setIfInBounds_toArray,lz,ls,h0,h1,h2,h3,h4,h5,h6,h7,h8,h9,bX,bQ,bW,bV,bZ];have hb:=zAt bK;have vJ:=hid (mO.out.later hb);have aT:=hid (mS.out.trans (hb.mono mO.out.lt));have xV:=hid (show ck (r1,r2)=factE R k a by rw [hz14];unfold factE;rw [←HXA.out,←HYK.out];rfl);clear bK hSx hRx dN iB hb mO mS hz14 bZ;refine zAr (i:=15) (by kernel_rfl) rfl (fun K hK=> ?_);go_simp;refine hK.out _ _ ?_;clear hK;refine wpAny_done (by kernel_rfl) ?_ _;go_upto_region 18 with fail;obtain ⟨w4,hw4⟩:∃w4:World,w4=wx:=⟨_,rfl⟩;subst hw4
           go_cut [10] (fun t wx=> t=.bool (zEq R k n a && zEr R k a (k+1))∧Below w4.heap.size w4 wx)
           case first=>
            cases uP:zEq R k n a
            all_goals (go_wp2_with (go_at_call 41;refine (zBk r1 r2 _).mono ?_;rintro e w5 ⟨v,nn4,rfl,rfl,rfl⟩))
            all_goals go_meet
            · exact ⟨by rw [uP];rfl,Below.refl _ _⟩
            · exact ⟨by rw [uP,fineRow_start,←xV.out];rfl,zAg (Below.refl _ _) nn4⟩
           case rest=>
            obtain ⟨rfl,hb5⟩:=hcut;have nV:=hid (vJ.out.later hb5);have cL:=hid (aT.out.trans (hb5.mono vJ.out.lt));clear vJ aT hb5 eD hatk fV jZ HXA HYK;go_wp2
            go_loopw [10,14] (fun f j wr=> ∃ (q:Nat) (Mi:Nat→List Cx),k < q∧q≤n∧f=.bool (zEq R k n a && zEr R k a q)∧j=.int .i64 q∧LwAt B wr g (.slice aR n cR) (.slice aO n cO) n n n bj2 Mi ord2 sg2∧NumM n Mi (elP R k a q)∧Below B w wr) (fun _ j _=> n - (intOf j).toNat)
            case atStart=> exact ⟨k+1,Ma,by omega,by omega,rfl,by go_num,nV.out,HNr.out,cL.out⟩
            case round=>
             obtain ⟨q,Mi,hkq,pX,rfl,rfl,hlq,hnq,zO⟩:=hrel;have sG:=hid hlq;have HNq:=hid hnq;have HBq:=hid zO;have HKQ:=hid hkq;clear hlq hnq zO nV cL HNr
             by_cases hql:q < n
             · have tT:=hid hql;have eD:∀w',(Instr.indexAt 41 (.slice (some ⟨bj2 a,0,none⟩) n n) (.int .i64 q)).run Tryz.prog w'=.ok (.pointer (some ⟨bj2 a,q,none⟩)) w':=fun w'=> zEy tT.out w'
               have hatk:∀w',(Instr.indexAt 41 (.slice (some ⟨bj2 k,0,none⟩) n n) (.int .i64 q)).run Tryz.prog w'=.ok (.pointer (some ⟨bj2 k,q,none⟩)) w':=fun w'=> zEy tT.out w'
               go_upto_region 22 with fail;obtain ⟨x1,x2,yO⟩:∃x1 x2,(Mi a).getD q (0,0)=(x1,x2):=⟨_,_,rfl⟩
               obtain ⟨y1,y2,uF⟩:∃y1 y2,(Mi k).getD q (0,0)=(y1,y2):=⟨_,_,rfl⟩;have fV:=hid (show wr.cell? ⟨bj2 a,q,none⟩=some (.complex .f64 x1 x2) by have h:=(sG.out.nc kV.out hql).1;rw [yO] at h;exact h);have jZ:=hid (show wr.cell? ⟨bj2 k,q,none⟩=some (.complex .f64 y1 y2) by have h:=(sG.out.nc hk hql).1;rw [uF] at h;exact h);have HXA:=hid (show ck (x1,x2)=R a q by rw [←yO,HNq.out a q kV.out hql,elP_at]);have HYK:=hid (show ck (y1,y2)=R k q by rw [←uF,HNq.out k q hk hql,elP_top HKA.out]);clear yO uF;refine wp_region_any (by kernel_rfl) ?_;change wpAny _ _ _ _ _ _ _ (World.drew _);refine zAx [⟨some 157,0, []⟩,⟨some 158,1, []⟩,⟨some 159,2, []⟩,⟨some 160,3, []⟩,⟨some 161,4, []⟩,⟨some 162,5, []⟩,⟨some 163,6, []⟩,⟨some 164,7, []⟩,⟨some 165,8, []⟩,⟨some 166,9, []⟩,⟨some 167,10, []⟩,⟨some 168,11, []⟩,⟨some 169,12, []⟩,⟨some 170,13, []⟩,⟨some 171,14, []⟩,⟨some 172,15, []⟩,⟨some 173,16, []⟩,⟨some 174,17, []⟩,⟨some 175,18, []⟩]
                (fun w'=> LwAt B w' g (.slice aR n cR) (.slice aO n cO) n n n bj2 Mi ord2 sg2∧w'.cell? ⟨bj2 a,q,none⟩=some (.complex .f64 x1 x2)∧w'.cell? ⟨bj2 k,q,none⟩=some (.complex .f64 y1 y2))
                (fun oq v _ _ _ _=> match oq with | 0=> v=.slice (some ⟨bj2 a,0,none⟩) n n | 1=> v=.int .i64 q | 2=> v=.slice (some ⟨bj2 a,0,none⟩) n n | 3=> v=.int .i64 q | 4=> v=.pointer (some ⟨bj2 a,q,none⟩) | 5=> v=.complex .f64 x1 x2 | 6=> v=.complex .f64 r1 r2 | 7=> v=.pointer (some ⟨g,0,none⟩) | 8=> v=.pointer (some ⟨g,0,none⟩) | 9=> v=.pointer (some ⟨g,1,none⟩) | 10=> v=.slice aR n cR | 11=> v=.int .i64 k | 12=> v=.pointer (some ⟨gR,k,none⟩) | 13=> v=.slice (some ⟨bj2 k,0,none⟩) n n | 14=> v=.int .i64 q | 15=> v=.pointer (some ⟨bj2 k,q,none⟩) | 16=> v=.complex .f64 y1 y2 | 17=> ∃m1 m2,v=Value.complex .f64 m1 m2∧ck (m1,m2)=cmul (fc r1,fc r2) (fc y1,fc y2) | 18=> ∃s1 s2,v=Value.complex .f64 s1 s2∧ck (s1,s2)=csub (fc x1,fc x2) (cmul (fc r1,fc r2) (fc y1,fc y2)) | _=> True) (by kernel_rfl) ?hSg (fun _ _ hb h=> ⟨h.1.later hb,cell_later hb h.2.1,cell_later hb h.2.2⟩) (fun _ _ _ _ _ _ _ _ _ h=> h) ?yT ?rC
               case hSg=> exact ⟨sG.out.later (Below.refl _ _).drew,cell_later (Below.refl _ _).drew fV.out,cell_later (Below.refl _ _).drew jZ.out⟩
               case yT=>
                delta Owed
                simp only [zBb,Act.put,List.setIfInBounds_toArray,lz,ls];refine Each.cons rfl ?_ (Each.cons rfl ?_ (Each.cons rfl ?_ (Each.cons rfl ?_ (Each.cons rfl ?_ (Each.cons rfl ?_ (Each.cons rfl ?_ (Each.cons rfl ?_ (Each.cons rfl ?_ (Each.cons rfl ?_ (Each.cons rfl ?_ (Each.cons rfl ?_ (Each.cons rfl ?_ (Each.cons rfl ?_ (Each.cons rfl ?_ (Each.cons rfl ?_ (Each.cons rfl ?_ (Each.cons rfl ?_ (Each.cons rfl ?_ Each.nil))))))))))))))))))
                all_goals intro vs w2 aV hS2 hR2 K hK;try simp only [lz,ls] at hK⊢
                · go_simp;exact shP hK
                · go_simp;exact shP hK
                · go_simp;exact shP hK
                · go_simp;exact shP hK
                · have h2:vs 2=_:=exR (hR2 2 (by kernel_rfl)) (fun _ _ h=> h);have h3:vs 3=_:=exR (hR2 3 (by kernel_rfl)) (fun _ _ h=> h);have l1:=(zAb hS2.1.box).1 1 _ rfl;have l2:=(hS2.1.rc iP.out dL.out).1;have l3:=hS2.2.1;have l4:=hS2.2.2;simp only [h2,h3] at hK⊢;go_simp;exact shP hK
                · have h4:vs 4=_:=exR (hR2 4 (by kernel_rfl)) (fun _ _ h=> h);have l1:=(zAb hS2.1.box).1 1 _ rfl;have l2:=(hS2.1.rc iP.out dL.out).1;have l3:=hS2.2.1;have l4:=hS2.2.2;simp only [h4] at hK⊢;go_simp;exact shP hK
                · go_simp;exact shP hK
                · go_simp;exact shP hK
                · have h7:vs 7=_:=exR (hR2 7 (by kernel_rfl)) (fun _ _ h=> h);simp only [h7] at hK⊢;go_simp;exact shP hK
                · have h8:vs 8=_:=exR (hR2 8 (by kernel_rfl)) (fun _ _ h=> h);simp only [h8] at hK⊢;go_simp;exact shP hK
                · have h9:vs 9=_:=exR (hR2 9 (by kernel_rfl)) (fun _ _ h=> h);have l1:=(zAb hS2.1.box).1 1 _ rfl;have l2:=(hS2.1.rc iP.out dL.out).1;have l3:=hS2.2.1;have l4:=hS2.2.2;simp only [h9] at hK⊢;go_simp;exact shP hK
                · go_simp;exact shP hK
                · have bX:vs 10=_:=exR (hR2 10 (by kernel_rfl)) (fun _ _ h=> h);have bQ:vs 11=_:=exR (hR2 11 (by kernel_rfl)) (fun _ _ h=> h);have l1:=(zAb hS2.1.box).1 1 _ rfl;have l2:=(hS2.1.rc iP.out dL.out).1;have l3:=hS2.2.1;have l4:=hS2.2.2;simp only [bX,bQ] at hK⊢;go_simp;exact shP hK
                · have bW:vs 12=_:=exR (hR2 12 (by kernel_rfl)) (fun _ _ h=> h);have l1:=(zAb hS2.1.box).1 1 _ rfl;have l2:=(hS2.1.rc iP.out dL.out).1;have l3:=hS2.2.1;have l4:=hS2.2.2;simp only [bW] at hK⊢;go_simp;exact shP hK
                · go_simp;exact shP hK
                · have bV:vs 13=_:=exR (hR2 13 (by kernel_rfl)) (fun _ _ h=> h);have bZ:vs 14=_:=exR (hR2 14 (by kernel_rfl)) (fun _ _ h=> h);have l1:=(zAb hS2.1.box).1 1 _ rfl;have l2:=(hS2.1.rc iP.out dL.out).1;have l3:=hS2.2.1;have l4:=hS2.2.2;simp only [bV,bZ] at hK⊢;go_simp;exact shP hK
                · have cM:vs 15=_:=exR (hR2 15 (by kernel_rfl)) (fun _ _ h=> h);have l1:=(zAb hS2.1.box).1 1 _ rfl;have l2:=(hS2.1.rc iP.out dL.out).1;have l3:=hS2.2.1;have l4:=hS2.2.2;simp only [cM] at hK⊢;go_simp;exact shP hK
                · have h6:vs 6=_:=exR (hR2 6 (by kernel_rfl)) (fun _ _ h=> h);have dR:vs 16=_:=exR (hR2 16 (by kernel_rfl)) (fun _ _ h=> h);simp only [h6,dR] at hK⊢;rw [if_pos (by rfl)];go_wp2_with (go_at_call 80;refine (pmul_any r1 r2 y1 y2 _).mono ?_;rintro e w3 ⟨v,nn,rfl,he,m1,m2,rfl,aP⟩;subst he);exact hK.out _ _ (zAg (Below.refl _ _) nn) ⟨m1,m2,rfl,aP⟩
                · have h5:vs 5=_:=exR (hR2 5 (by kernel_rfl)) (fun _ _ h=> h);obtain ⟨_,_,_,H17⟩:=hR2 17 (by kernel_rfl);obtain ⟨m1,m2,dQ,yM⟩:=H17;simp only [h5,dQ] at hK⊢;rw [if_pos (by rfl)];go_wp2_with (go_at_call 45;refine (psub_any x1 x2 m1 m2 _).mono ?_;rintro e w3 ⟨v,nn,rfl,he,s1,s2,rfl,aP⟩;subst he);exact hK.out _ _ (zAg (Below.refl _ _) nn) ⟨s1,s2,rfl,aP.trans (by rw [show (fc m1,fc m2)=ck (m1,m2) from rfl,yM])⟩
               case rC=>
                intro vs wx lo iB bK hSx hRx dN;have h0:vs 0=_:=(hRx 0 (by kernel_rfl)).1;have h1:vs 1=_:=(hRx 1 (by kernel_rfl)).1;have h2:vs 2=_:=(hRx 2 (by kernel_rfl)).1;have h3:vs 3=_:=(hRx 3 (by kernel_rfl)).1;have h4:vs 4=_:=(hRx 4 (by kernel_rfl)).1;have h5:vs 5=_:=(hRx 5 (by kernel_rfl)).1;have h6:vs 6=_:=(hRx 6 (by kernel_rfl)).1;have h7:vs 7=_:=(hRx 7 (by kernel_rfl)).1;have h8:vs 8=_:=(hRx 8 (by kernel_rfl)).1;have h9:vs 9=_:=(hRx 9 (by kernel_rfl)).1;have bX:vs 10=_:=(hRx 10 (by kernel_rfl)).1;have bQ:vs 11=_:=(hRx 11 (by kernel_rfl)).1;have bW:vs 12=_:=(hRx 12 (by kernel_rfl)).1;have bV:vs 13=_:=(hRx 13 (by kernel_rfl)).1;have bZ:vs 14=_:=(hRx 14 (by kernel_rfl)).1;have cM:vs 15=_:=(hRx 15 (by kernel_rfl)).1;have dR:vs 16=_:=(hRx 16 (by kernel_rfl)).1;have H17:=(hRx 17 (by kernel_rfl)).1;obtain ⟨m1,m2,dQ,yM⟩:=H17;have H18:=(hRx 18 (by kernel_rfl)).1;obtain ⟨s1,s2,fQ,hz18⟩:=H18;simp only [zBb,Act.put,List.setIfInBounds_toArray,lz,ls,h0,h1,h2,h3,h4,h5,h6,h7,h8,h9,bX,bQ,bW,bV,bZ,cM,dR,dQ,fQ];have hb:=zAt bK;have nB:=hid (sG.out.later hb);have bI:=hid (HBq.out.trans (hb.mono sG.out.lt));have HSQ:=hid (show ck (s1,s2)=rowE R k a q by rw [hz18,rowE_mid HKQ.out,←HXA.out,←HYK.out,←xV.out];rfl);clear bK hSx hRx dN iB hb sG HBq hz18 fQ yM dQ;refine zAr (i:=19) (by kernel_rfl) rfl (fun K hK=> ?_);go_simp;refine hK.out _ _ ?_;clear hK;have cz:=(nB.out.nc kV.out tT.out).1;have fz:=(nB.out.nc kV.out tT.out).2;refine zAr (i:=20) (by kernel_rfl) rfl (fun K hK=> ?_);go_simp;refine hK.out _ _ ?_;clear hK fz cz;have nV:=hid (nB.out.putNum kV.out tT.out (s1,s2));have cL:=hid (bI.out.setCell (p:=⟨bj2 a,q,none⟩) (nB.out.bB a kV.out) (.complex .f64 s1 s2));have sF:=hid (HNq.out.put (R':=elP R k a (q+1)) (z:=(s1,s2)) kV.out tT.out (nB.out.len a kV.out) (fun x y _ _=> by rw [←elP_col HKA.out HKQ.out,HSQ.out]))
                clear nB bI HNq;unfold mkC at nV;dsimp only at nV;generalize wx.setCell ⟨bj2 a,q,none⟩ (.complex .f64 s1 s2)=w5 at *;refine wpAny_done (by kernel_rfl) ?_ _;obtain ⟨Mq,hMq⟩:∃Mq,upd Mi a ((Mi a).set q (s1,s2))=Mq:=⟨_,rfl⟩;have cz5:w5.cell? ⟨bj2 a,q,none⟩=some (.complex .f64 s1 s2):=by
                 have h1:=(nV.out.nc kV.out tT.out).1;rw [zAm,List.getD_eq_getElem?_getD,List.getElem?_set_self (by have:=nV.out.len a kV.out;rw [zAm,List.length_set] at this;rw [this];exact tT.out)] at h1;exact h1
                rw [hMq] at nV sF;clear hMq;go_upto_region 23 with fail;cases uP:(zEq R k n a && zEr R k a q)
                · go_wp2_with fail;go_roundw
                  case rel=> exact ⟨q+1,Mq,by omega,tT.out,by rw [fineRow_succ HKQ.out,←Bool.and_assoc,uP];rfl,by go_num,nV.out,sF.out,cL.out⟩
                  case measure=> simp [intOf];omega
                · go_wp2_with (go_at_call 41;refine (zBk s1 s2 _).mono ?_;rintro e w7 ⟨v,nn4,rfl,he,rfl⟩;have hb7:Below w5.heap.size w5 w7:=(by rw [he];exact zAg (Below.refl _ _) nn4);have HL6:=hid (nV.out.later hb7);have cJ:=hid (cL.out.trans (hb7.mono nV.out.lt));clear nV cL he hb7);go_roundw
                  case rel=> exact ⟨q+1,Mq,by omega,tT.out,by rw [fineRow_succ HKQ.out,←Bool.and_assoc,uP,Bool.true_and,←HSQ.out];rfl,by go_num,HL6.out,sF.out,cJ.out⟩
                  case measure=> simp [intOf];omega
             · obtain rfl:q=n:=by omega
               have cz:=(sG.out.nc kV.out hk).1;have fz:=(sG.out.nc kV.out hk).2;have eD:∀w',(Instr.indexAt 41 (.slice (some ⟨bj2 a,0,none⟩) q q) (.int .i64 k)).run Tryz.prog w'=.ok (.pointer (some ⟨bj2 a,k,none⟩)) w':=fun w'=> zEy iP.out w'
               go_wp2;have h9:=sG.out.putNum kV.out hk (r1,r2);have h9b:=HBq.out.setCell (p:=⟨bj2 a,k,none⟩) (sG.out.bB a kV.out) (.complex .f64 r1 r2);go_roundw
               case rel=> exact ⟨a+1,_,by omega,kV.out,by rw [fineUp_succ HKA.out],by go_num,h9,HNq.out.put kV.out hk (sG.out.len a kV.out) (fun x y _ hy=> by rw [xV.out,elP_row HKA.out hy]),h9b⟩
               case measure=> simp [intOf];omega
        · obtain rfl:a=n:=by omega
          have yY:=HNr.out;rw [elP_done (Nat.le_refl _)] at yY;have qD:=hid yY;have c1:=(zAb mO.out.box).1 1 _ rfl;clear yY;cases uP:zEq R k a a
          · go_wp2;go_ret;rw [zZ.out];refine ⟨by rw [HR.out,uP];rfl,mS.out,fun h=> ?_⟩;rw [HR.out,uP] at h;cases h
          · go_wp2;go_ret;rw [zZ.out];refine ⟨by rw [HR.out,uP];rfl,mS.out,fun _=> ⟨bj2,Ma,ord2,sg2,mO.out,fun i j hi hj=> ?_,HOS.out.1,HOS.out.2.1,HOS.out.2.2⟩⟩;rw [HR.out];exact qD.out i j hi hj
    · have pR:=hid her;have zZ:=hid (stepE_bad vV.out her);have aK:(er !=0)=true:=by simpa using her
      clear her;go_wp2_with fail;go_ret;rw [zZ.out];exact ⟨rfl,aT.out,fun h=> absurd h pR.out⟩
end Go.Proofs.YtdepiggjneoopaaGreatDoor
