/- a part of the proof of the last text -/
import Derived.Test.YtejooaeppcjhjaaGreatZRPh5
namespace Go.Proofs.YtejooaeppcjhjaaGreat
set_option linter.all false
set_option maxHeartbeats 4000000
set_option maxRecDepth 100000
section
open Go.RowKit
theorem infoRp:(Tryz.prog.info? 35).map (fun i=> (i.zero,i.size,i.bytes))=some (some (.pointer none),1,8):=by kernel_rfl
structure RNetsAt (w:World) (v:Value) (ps:List Value) (ls:List (List El)):Prop where
 sl:IsSl w 1 v ps.length ps
 len:ps.length=ls.length
 net:∀ (i:Nat) (p:Value) (l:List El),ps[i]? =some p→ls[i]? =some l→RN w p l∧NetG l∧Uniq l
theorem RNetsAt.below {w w':World} {v:Value} {ps:List Value} {ls:List (List El)} (h:RNetsAt w v ps ls) (hb:Below w.heap.size w w'):RNetsAt w' v ps ls:=
 ⟨h.sl.below hb (Nat.le_refl _),h.len,fun i p l h1 h2=> ⟨(h.net i p l h1 h2).1.below hb (Nat.le_refl _),(h.net i p l h1 h2).2⟩⟩
theorem RNetsAt.get {w:World} {v p:Value} {ps:List Value} {ls:List (List El)} {k:Nat} (h:RNetsAt w v ps ls) (hp:ps[k]? =some p):∃l,ls[k]? =some l∧RN w p l∧NetG l∧Uniq l:=by
 have hk:=(List.getElem?_eq_some_iff.1 hp).1;rw [h.len] at hk;exact ⟨ls[k],List.getElem?_eq_getElem hk,h.net k p _ hp (List.getElem?_eq_getElem hk)⟩
theorem zGo.no2 {om k m:Nat} {b:Bool} {l:List El} {y1 y2:Int} {w w':World} {e:Ending} (h:zGo om k m (solS b l om) w e w') (hb:b=false) (hs:solS false l om=(none,(y1,y2))):e=.returned (.tuple #[.agg #[.float .f64 0,.slice none 0 0,.slice none 0 0],.agg #[.int .i64 y1,.int .i64 y2]])∧Below w.heap.size w w':=by
 subst hb;have h2:=h.no (by rw [hs]);rw [hs] at h2;exact h2
theorem zGo.yes2 {om k m:Nat} {b:Bool} {l:List El} {x:Nat→Cx} {y:Int × Int} {w w':World} {e:Ending} (h:zGo om k m (solS b l om) w e w') (hb:b=false) (hs:solS false l om=(some x,y)):
 ∃ (a1 a2:Option Addr) (c1 c2:Nat) (xs1:List Cx),e=.returned (.tuple #[.agg #[.float .f64 om,.slice a1 k c1,.slice a2 m c2],.agg #[.int .i64 0,.int .i64 0]])∧IsSl w' 1 (.slice a1 k c1) k (xs1.map mkC)∧xs1.map ck=(List.range k).map x∧Below w.heap.size w w':=by
 subst hb;obtain ⟨a1,a2,c1,c2,xs1,xs2,h1,_,h2,_,h3,_,h4⟩:=h.yes (by rw [hs]);exact ⟨a1,a2,c1,c2,xs1,h1,IsSl.of_own h2,h3,h4⟩
theorem rn_made {w:World} {q:Value} {l:List El} (h:RN w q l) (hq:zAw q=false):∃g,q=.pointer (some ⟨g,0,none⟩)∧w.cell? ⟨g,1,none⟩=some (.bool true):=by
 rcases h with ⟨rfl,_⟩ | ⟨g,v,rfl,h0,h1,_⟩
 · cases hq
 · exact ⟨g,rfl,h1⟩
theorem angl_step (k:Nat) (at_:Int):angl 0 ((k:Int)+1) at_=zGa k at_:=by
 unfold angl zGa
 simp
theorem row_at_of {k j:Nat} {x:Nat→Cx} {xs:List Cx} {z:Cx} (h:xs.map ck=(List.range k).map x) (hj:j < k) (hz:xs[j]? =some z):ck z=x j:=by
 have h2:(xs.map ck)[j]? =some (x j):=by rw [h,List.getElem?_map,List.getElem?_range hj];rfl
 rw [List.getElem?_map,hz] at h2;exact Option.some.inj h2
theorem rheard_any (v:Value) (ps:List Value) (ls:List (List El)) (om:Nat) (t:ByteArray) (at_:Int) (w:World) (h:RNetsAt w v ps ls) (hl:ps.length≤100000):
 Calls Tryz.prog 10 #[v,.float .f64 om,.string t,.int .i64 at_] w (zEu (zDb (ps.map zAw) ls om t at_) w):=by
 obtain ⟨av,cv,rfl⟩:=h.sl.form;obtain ⟨i0,hi,hz0,hz1,hz2⟩:=info_parts infoRp;obtain ⟨ic,hic,hc0,hc1,hc2⟩:=info_parts zEm;have hb1:=(Below.refl w.heap.size w).alloc (Nat.le_refl _) (.cells #[.int .i64 0,.int .i64 0] 32);have HBO:=hid hb1;have HU:=hid (heap_alloc_new w (.cells #[.int .i64 0,.int .i64 0] 32));have HN:=hid (h.below hb1);have HPL:=hid hl;clear h hl hb1;go_enter Tryz.func10,Tryz.ntmps10;go_upto_region 1 with fail;generalize w.alloc (.cells #[.int .i64 0,.int .i64 0] 32)=w1 at *;obtain ⟨gt,hgt⟩:∃gt,w.heap.size=gt:=⟨_,rfl⟩;rw [hgt] at HU⊢;have HGT:=hid hgt;clear hgt
 by_cases hbig:64 < ps.length
 · have HW:=hid (show zDb (ps.map zAw) ls om t at_=(fc 0,(3,-1)) by
    have hm:mayS (ps.map zAw) om=(3,-1):=by unfold mayS;rw [if_pos (by rw [List.length_map];exact hbig)]
    rw [heard_may (by rw [hm];decide),hm])
   have hb0:(64:Int) < (ps.length:Int):=by omega
   have hbk:=zAb HU.out;have u0:=hbk.1 0 _ rfl;have u1:=hbk.1 1 _ rfl;have uf0:=hbk.2 0;have uf1:=hbk.2 1;clear hbk;go_wp2_with fail
   (try simp only [Exit.inBlock,Exit.then])
   (try rw [Exit.noGoto_ret])
   (refine bodyPost_ret (v:=.tuple #[.float .f64 0,.agg #[.int .i64 3,.int .i64 (-1)]]) ?_ rfl (zEu.of HW.out (zBv HBO.out (Nat.le_of_eq HGT.out))))
   (rw [zAi rfl];go_simp;done)
 have HL64:=hid (show ps.length≤64 by omega);have hb0:¬(64:Int) < (ps.length:Int):=by omega
 clear hbig;go_wp2;clear hb0
 go_loopw [10] (fun i wr=> ∃k:Nat,k≤ps.length∧i=.int .i64 k∧(∀i,i < k→(ps.map zAw).getD i false=false)∧Below w1.heap.size w1 wr) (fun i _=> ps.length - (intOf i).toNat)
 case atStart=> exact ⟨0,Nat.zero_le _,rfl,fun i hi=> absurd hi (Nat.not_lt_zero _),Below.refl _ _⟩
 case round=>
  obtain ⟨k,hk,rfl,hall,hb⟩:=hrel;obtain ⟨wo,rfl⟩:∃wo:World,wo=wr:=⟨_,rfl⟩;have HW1:=hid hb;have HAL:=hid hall;have hbnd:=HL64.out;have HU1:=hid (zAc hb HU.out);have HN1:=hid (HN.out.below hb);have HB1:=hid (zAd HBO.out hb);clear hall hb HU HN HBO
  by_cases hlt:k < ps.length
  · obtain ⟨g,o,p,hidx,hg,hc,hx0⟩:=IsSl.at1 Tryz.underlying25 hi hz1 HN1.out.sl hlt;obtain ⟨l,hl,hnn,hng,huq⟩:=HN1.out.get hx0;have HX:=hid hx0;clear hx0 hl hng huq;cases hq:zAw p
    · obtain ⟨gp,rfl,hm1⟩:=rn_made hnn hq;have HQ:=hid hq;clear hq hnn;go_wp2_with fail;go_roundw
      case rel=>
       refine ⟨k+1,by omega,by go_num,fun i hi=> ?_,HW1.out⟩
       by_cases e:i=k
       · rw [e,no_at HX.out,HQ.out]
       · exact HAL.out i (by omega)
      case measure=> simp [intOf];omega
    · obtain rfl:p=.pointer none:=by
       rcases hnn with ⟨h,_⟩ | ⟨_,_,rfl,_⟩
       · exact h
       · cases hq
      have HQ:=hid hq;clear hq hnn;have HW:=hid (show zDb (ps.map zAw) ls om t at_=(fc 0,(1,(k:Int))) by
       have hm:=may_stop (om:=om) (by rw [List.length_map];exact HL64.out) (by rw [List.length_map];exact hlt) HAL.out (by rw [no_at HX.out,HQ.out]);rw [heard_may (by rw [hm];simp),hm])
      have hbk:=zAb HU1.out;have u0:=hbk.1 0 _ rfl;have u1:=hbk.1 1 _ rfl;have uf0:=hbk.2 0;have uf1:=hbk.2 1;clear hbk;go_wp2_with fail
      (try simp only [Exit.inBlock,Exit.then])
      (try rw [Exit.noGoto_ret])
      (refine bodyPost_ret (v:=.tuple #[.float .f64 0,.agg #[.int .i64 1,.int .i64 k]]) ?_ rfl (zEu.of HW.out (zBv HB1.out (Nat.le_of_eq HGT.out))))
      (rw [zAi rfl];go_simp;done)
  · obtain rfl:k=ps.length:=by omega
    have HM:=hid (may_done (om:=om) (by rw [List.length_map];exact HL64.out) (fun i hi=> HAL.out i (by rw [List.length_map] at hi;exact hi)));have HNO:=hid (show∀i p,ps[i]? =some p→zAw p=false from fun i p hp=> by rw [←no_at hp];exact HAL.out i (List.getElem?_eq_some_iff.1 hp).1);clear hlt hk hbnd HAL HW1;obtain ⟨ae,hae⟩:∃ae,angE om=ae:=⟨_,rfl⟩;rw [hae] at HM;have HAE:=hid hae;clear hae
    by_cases h0:ae=0
    rotate_left
    · have HW:=hid (show zDb (ps.map zAw) ls om t at_=(fc 0,(ae,-1)) by
       have hm:=HM.out;rw [if_pos h0] at hm;rw [heard_may (by rw [hm];exact fun h=> h0 (Prod.mk.inj h).1),hm])
      have hb0:(ae==0)=false:=by simpa using h0
      have hb1:(ae !=0)=true:=by simpa using h0
      go_upto_region 10 with (go_at_call 30;refine ((zHd om _)).mono ?_;rintro e w2 ⟨v2,n2,rfl,he2,rfl⟩;have hb:Below wo.heap.size wo w2:=(by rw [he2];exact zAg (Below.refl _ _) n2);clear he2;have HU2:=hid (zAc hb HU1.out);have HN2:=hid (HN1.out.below hb);have HB2:=hid (zAd HB1.out hb);rw [HAE.out];clear hb);clear HU1 HN1 HB1
      have hbk:=zAb HU2.out;have u0:=hbk.1 0 _ rfl;have u1:=hbk.1 1 _ rfl;have uf0:=hbk.2 0;have uf1:=hbk.2 1;clear hbk;go_wp2_with fail
      (try simp only [Exit.inBlock,Exit.then])
      (try rw [Exit.noGoto_ret])
      (refine bodyPost_ret (v:=.tuple #[.float .f64 0,.agg #[.int .i64 ae,.int .i64 (-1)]]) ?_ rfl (zEu.of HW.out (zBv HB2.out (Nat.le_of_eq HGT.out))))
      (rw [zAi rfl];go_simp;done)
    subst h0;have HF:=hid (show mayS (ps.map zAw) om=(0,0) by have hm:=HM.out;rw [if_neg (fun h=> h rfl)] at hm;exact hm);clear HM;go_upto_region 12 with (go_at_call 30;refine ((zHd om _)).mono ?_;rintro e w2 ⟨v2,n2,rfl,he2,rfl⟩;have hb:Below wo.heap.size wo w2:=(by rw [he2];exact zAg (Below.refl _ _) n2);clear he2;have HU2:=hid (zAc hb HU1.out);have HN2:=hid (HN1.out.below hb);have HB2:=hid (zAd HB1.out hb);rw [HAE.out];clear hb);clear HU1 HN1 HB1;obtain ⟨w3,hw3⟩:∃w3:World,w3=w2:=⟨_,rfl⟩;subst hw3;go_wp2
    go_loopw [12,13] (fun s i wr=> ∃ (k r:Nat),k≤ps.length∧i=.int .i64 k∧s=.float .f64 r∧fc r=sumH ls om t at_ k∧(∀i,i < k→(zEn (ls.getD i []) (wB om i) t at_ i).2=0)∧Below w3.heap.size w3 wr) (fun _ i _=> ps.length - (intOf i).toNat)
    case atStart=> exact ⟨0,0,Nat.zero_le _,rfl,rfl,rfl,fun i hi=> absurd hi (Nat.not_lt_zero _),Below.refl _ _⟩
    case round=>
     obtain ⟨k,r,hk,rfl,rfl,hr,hall,hb⟩:=hrel;obtain ⟨wo,rfl⟩:∃wo:World,wo=wr:=⟨_,rfl⟩;have HW3:=hid hb;have HAL:=hid hall;have HR:=hid hr;have hbnd:=HL64.out;have HU3:=hid (zAc hb HU2.out);have HN3:=hid (HN2.out.below hb);have HB3:=hid (zAd HB2.out hb);clear hall hb hr HU2 HN2 HB2
     by_cases hlt:k < ps.length
     · obtain ⟨g,o,p,hidx,hg,hc,hx0⟩:=IsSl.at1 Tryz.underlying25 hi hz1 HN3.out.sl hlt;obtain ⟨l,hl,hnn,hng,huq⟩:=HN3.out.get hx0;have HLT:=hid (show k < ls.length by rw [←HN3.out.len];exact hlt);have HLA:=hid (ls_at hl);have HNN:=hid hnn;have HNG:=hid hng;have HUQ:=hid huq;have HQ:=hid (HNO.out k p hx0);have hw1:=wrap1 (k:=k) (by omega);clear hx0 hl hnn hng huq;have hcl:=fun (u:World) (hb:Below wo.heap.size wo u)=> cell_later hb hc
       have HCL:=hid hcl;clear hcl;go_upto_region 16 with (refine zAp rfl _ _ _ _ _ rfl rfl _ _ rfl rfl ?_;intro r1 n1 hr1;have HR1:=hid hr1;clear hr1;have hb:=zAg (Below.refl wo.heap.size wo) n1;have HU4:=hid (zAc hb HU3.out);have HN4:=hid (HN3.out.below hb);have HNN4:=hid (HNN.out.below hb (Nat.le_refl _));have HW34:=hid (zAd HW3.out hb);have HB4:=hid (zAd HB3.out hb);have HB1:=hid hb;clear hb);clear hw1 hg hc HU3 HN3 HNN HW3 HB3;have hc1:=HCL.out _ HB1.out;generalize wo.drewN n1=wn at *;clear HCL HB1;have HCN:=hid hc1;clear hc1;cases hf:ffin (fc r1)
       · have HFI:=hid hf;have HW:=hid (show zDb (ps.map zAw) ls om t at_=(fc 0,(5,(k:Int))) by
          have h5:zEn (ls.getD k []) (wB om k) t at_ k=(0,5):=hear_five (by have h:=HR1.out;unfold wB;rw [←h];exact hf);rw [zFu HF.out HLT.out HAL.out (by rw [h5];decide),h5])
         clear hf;go_upto_region 17 with (refine zAp rfl _ _ _ _ _ rfl rfl _ _ rfl rfl ?_;intro r2 n2 hr2;have hne:(FloatKind.f64.format.order r2 0 !=some .eq)=!ffin (fc r1):=(by unfold bne;rw [ffin_of hr2]);rw [HFI.out] at hne;clear hr2;have hb:=zAg (Below.refl wn.heap.size wn) n2;have HU5:=hid (zAc hb HU4.out);have HN5:=hid (HN4.out.below hb);have HNN5:=hid (HNN4.out.below hb (Nat.le_refl _));have HW35:=hid (zAd HW34.out hb);have HB5:=hid (zAd HB4.out hb);have HCP:=hid (cell_later hb HCN.out);clear hb);clear HU4 HN4 HNN4 HW34 HB4;have hbk:=zAb HU5.out;have u0:=hbk.1 0 _ rfl;have u1:=hbk.1 1 _ rfl;have uf0:=hbk.2 0;have uf1:=hbk.2 1;clear hbk;go_wp2_with fail
         (try simp only [Exit.inBlock,Exit.then])
         (try rw [Exit.noGoto_ret])
         (refine bodyPost_ret (v:=.tuple #[.float .f64 0,.agg #[.int .i64 5,.int .i64 k]]) ?_ rfl (zEu.of HW.out (zBv HB5.out (Nat.le_of_eq HGT.out))))
         (rw [zAi rfl];go_simp;done)
       · have HFI:=hid hf;have hrr:r1=fc r1:=fin_same rfl hf;have HWB:=hid (show wB om k=r1 from HR1.out.symm.trans hrr.symm);have HFR:=hid (show ffin r1=true by rw [hrr];exact hf);clear hf hrr;go_upto_region 18 with (refine zAp rfl _ _ _ _ _ rfl rfl _ _ rfl rfl ?_;intro r2 n2 hr2;have hne:(FloatKind.f64.format.order r2 0 !=some .eq)=!ffin (fc r1):=(by unfold bne;rw [ffin_of hr2]);rw [HFI.out] at hne;clear hr2;have hb:=zAg (Below.refl wn.heap.size wn) n2;have HU5:=hid (zAc hb HU4.out);have HN5:=hid (HN4.out.below hb);have HNN5:=hid (HNN4.out.below hb (Nat.le_refl _));have HW35:=hid (zAd HW34.out hb);have HB5:=hid (zAd HB4.out hb);have HCP:=hid (cell_later hb HCN.out);clear hb);clear HU4 HN4 HNN4 HW34 HB4;generalize wn.drewN n2=wm at *;have hc:=HCP.out;clear hne;rcases hs:solS false l r1 with ⟨_ | x,y1,y2⟩
         · have HS:=hid hs;have hy:y1≠0:=sol_err hs;have HW:=hid (show zDb (ps.map zAw) ls om t at_=(fc 0,(y1,(k:Int))) by
            have h5:zEn (ls.getD k []) (wB om k) t at_ k=(0,y1):=by rw [HWB.out,HLA.out];exact hear_none HFR.out hs
            rw [zFu HF.out HLT.out HAL.out (by rw [h5];exact hy),h5])
           clear hs;go_upto_region 19 with (go_at_call 31;refine (((rsolve20_any p l r1 _ HNN5.out HNG.out HUQ.out).mono fun _ _ h=> h.no2 HQ.out HS.out)).mono ?_;rintro e w5 ⟨rfl,hb⟩;have HU6:=hid (zAc hb HU5.out);have HN6:=hid (HN5.out.below hb);have HNN6:=hid (HNN5.out.below hb (Nat.le_refl _));have HW36:=hid (zAd HW35.out hb);have HB6:=hid (zAd HB5.out hb);clear hb);clear hc HU5 HN5 HNN5 HW35 HB5;have HU7:=hid (zAc ((Below.refl w5.heap.size w5).alloc (Nat.le_refl _) (.cells #[.float .f64 0,.slice none 0 0,.slice none 0 0] 72)) HU6.out);have HN7:=hid (HN6.out.below ((Below.refl w5.heap.size w5).alloc (Nat.le_refl _) (.cells #[.float .f64 0,.slice none 0 0,.slice none 0 0] 72)));have HNN7:=hid (HNN6.out.below ((Below.refl w5.heap.size w5).alloc (Nat.le_refl _) (.cells #[.float .f64 0,.slice none 0 0,.slice none 0 0] 72)) (Nat.le_refl _));have HW37:=hid (zAd HW36.out ((Below.refl w5.heap.size w5).alloc (Nat.le_refl _) (.cells #[.float .f64 0,.slice none 0 0,.slice none 0 0] 72)));have HB7:=hid (zAd HB6.out ((Below.refl w5.heap.size w5).alloc (Nat.le_refl _) (.cells #[.float .f64 0,.slice none 0 0,.slice none 0 0] 72)));have HZ5:=hid (show (w5.alloc (.cells #[.float .f64 0,.slice none 0 0,.slice none 0 0] 72)).heap.size=w5.heap.size+1 by simp);have H7:=hid (heap_alloc_new w5 (.cells #[.float .f64 0,.slice none 0 0,.slice none 0 0] 72));clear HU6 HN6 HNN6 HW36 HB6;generalize w5.alloc (.cells #[.float .f64 0,.slice none 0 0,.slice none 0 0] 72)=w6 at *;generalize w5.heap.size=g7 at *;have HU8:=hid (zAc ((Below.refl w6.heap.size w6).alloc (Nat.le_refl _) (.cells #[.int .i64 y1,.int .i64 y2] 32)) HU7.out);have HN8:=hid (HN7.out.below ((Below.refl w6.heap.size w6).alloc (Nat.le_refl _) (.cells #[.int .i64 y1,.int .i64 y2] 32)))
           have HNN8:=hid (HNN7.out.below ((Below.refl w6.heap.size w6).alloc (Nat.le_refl _) (.cells #[.int .i64 y1,.int .i64 y2] 32)) (Nat.le_refl _));have HW38:=hid (zAd HW37.out ((Below.refl w6.heap.size w6).alloc (Nat.le_refl _) (.cells #[.int .i64 y1,.int .i64 y2] 32)));have H78:=hid (zAc ((Below.refl w6.heap.size w6).alloc (Nat.le_refl _) (.cells #[.int .i64 y1,.int .i64 y2] 32)) H7.out);have HB8:=hid (zAd HB7.out ((Below.refl w6.heap.size w6).alloc (Nat.le_refl _) (.cells #[.int .i64 y1,.int .i64 y2] 32)));have H8:=hid (heap_alloc_new w6 (.cells #[.int .i64 y1,.int .i64 y2] 32));rw [HZ5.out] at H8;clear HU7 HN7 HNN7 HW37 H7 HB7;generalize w6.alloc (.cells #[.int .i64 y1,.int .i64 y2] 32)=w7 at *;clear HZ5;have hbk:=zAb HU8.out;have u0:=hbk.1 0 _ rfl;have u1:=hbk.1 1 _ rfl;have uf0:=hbk.2 0;have uf1:=hbk.2 1;clear hbk;have hbk:=zAb H8.out;have v0:=hbk.1 0 _ rfl;have v1:=hbk.1 1 _ rfl;have vf0:=hbk.2 0;have vf1:=hbk.2 1;clear hbk;have hb0:(y1==0)=false:=by simpa using hy
           have hb1:(y1 !=0)=true:=by simpa using hy
           go_upto_region 20 with fail;go_region_with fail
           all_goals (go_wp2_with fail)
           all_goals (try simp only [Exit.inBlock,Exit.then])
           all_goals (try rw [Exit.noGoto_ret])
           all_goals (refine bodyPost_ret (v:=.tuple #[.float .f64 0,.agg #[.int .i64 y1,.int .i64 k]]) ?_ rfl (zEu.of HW.out (zBv HB8.out (Nat.le_of_eq HGT.out)).drew))
           all_goals (rw [zAi rfl];go_simp;done)
         · obtain rfl:=(Prod.mk.inj (sol_some hs)).1;obtain rfl:=(Prod.mk.inj (sol_some hs)).2;have HS:=hid hs;go_upto_region 19 with (go_at_call 31;refine (((rsolve20_any p l r1 _ HNN5.out HNG.out HUQ.out).mono fun _ _ h=> h.yes2 HQ.out HS.out)).mono ?_;rintro e w5 ⟨a1,a2,c1,c2,M1,rfl,hv1,hx1,hb⟩;have HU6:=hid (zAc hb HU5.out);have HN6:=hid (HN5.out.below hb);have HNN6:=hid (HNN5.out.below hb (Nat.le_refl _));have HW36:=hid (zAd HW35.out hb);have HCP6:=hid (cell_later hb HCP.out);have HB6:=hid (zAd HB5.out hb);have HM1:=hid hv1;have HX1:=hid hx1;clear hv1 hx1;clear hb);clear hs hc HU5 HN5 HNN5 HW35 HCP HB5;have HU7:=hid (zAc ((Below.refl w5.heap.size w5).alloc (Nat.le_refl _) (.cells #[.float .f64 r1,.slice a1 (nds l).length c1,.slice a2 (brs l).length c2] 72)) HU6.out);have HN7:=hid (HN6.out.below ((Below.refl w5.heap.size w5).alloc (Nat.le_refl _) (.cells #[.float .f64 r1,.slice a1 (nds l).length c1,.slice a2 (brs l).length c2] 72)));have HNN7:=hid (HNN6.out.below ((Below.refl w5.heap.size w5).alloc (Nat.le_refl _) (.cells #[.float .f64 r1,.slice a1 (nds l).length c1,.slice a2 (brs l).length c2] 72)) (Nat.le_refl _));have HW37:=hid (zAd HW36.out ((Below.refl w5.heap.size w5).alloc (Nat.le_refl _) (.cells #[.float .f64 r1,.slice a1 (nds l).length c1,.slice a2 (brs l).length c2] 72)));have HCP7:=hid (cell_later ((Below.refl w5.heap.size w5).alloc (Nat.le_refl _) (.cells #[.float .f64 r1,.slice a1 (nds l).length c1,.slice a2 (brs l).length c2] 72)) HCP6.out);have HM17:=hid (HM1.out.below ((Below.refl w5.heap.size w5).alloc (Nat.le_refl _) (.cells #[.float .f64 r1,.slice a1 (nds l).length c1,.slice a2 (brs l).length c2] 72)) (Nat.le_refl _));have HB7:=hid (zAd HB6.out ((Below.refl w5.heap.size w5).alloc (Nat.le_refl _) (.cells #[.float .f64 r1,.slice a1 (nds l).length c1,.slice a2 (brs l).length c2] 72)))
           have HZ5:=hid (show (w5.alloc (.cells #[.float .f64 r1,.slice a1 (nds l).length c1,.slice a2 (brs l).length c2] 72)).heap.size=w5.heap.size+1 by simp);have H7:=hid (heap_alloc_new w5 (.cells #[.float .f64 r1,.slice a1 (nds l).length c1,.slice a2 (brs l).length c2] 72));clear HU6 HN6 HNN6 HW36 HCP6 HM1 HB6;generalize w5.alloc (.cells #[.float .f64 r1,.slice a1 (nds l).length c1,.slice a2 (brs l).length c2] 72)=w6 at *;generalize w5.heap.size=g7 at *;have HU8:=hid (zAc ((Below.refl w6.heap.size w6).alloc (Nat.le_refl _) (.cells #[.int .i64 0,.int .i64 0] 32)) HU7.out);have HN8:=hid (HN7.out.below ((Below.refl w6.heap.size w6).alloc (Nat.le_refl _) (.cells #[.int .i64 0,.int .i64 0] 32)));have HNN8:=hid (HNN7.out.below ((Below.refl w6.heap.size w6).alloc (Nat.le_refl _) (.cells #[.int .i64 0,.int .i64 0] 32)) (Nat.le_refl _));have HW38:=hid (zAd HW37.out ((Below.refl w6.heap.size w6).alloc (Nat.le_refl _) (.cells #[.int .i64 0,.int .i64 0] 32)));have HCP8:=hid (cell_later ((Below.refl w6.heap.size w6).alloc (Nat.le_refl _) (.cells #[.int .i64 0,.int .i64 0] 32)) HCP7.out);have HM18:=hid (HM17.out.below ((Below.refl w6.heap.size w6).alloc (Nat.le_refl _) (.cells #[.int .i64 0,.int .i64 0] 32)) (Nat.le_refl _));have H78:=hid (zAc ((Below.refl w6.heap.size w6).alloc (Nat.le_refl _) (.cells #[.int .i64 0,.int .i64 0] 32)) H7.out);have HB8:=hid (zAd HB7.out ((Below.refl w6.heap.size w6).alloc (Nat.le_refl _) (.cells #[.int .i64 0,.int .i64 0] 32)));have H8:=hid (heap_alloc_new w6 (.cells #[.int .i64 0,.int .i64 0] 32));rw [HZ5.out] at H8;clear HU7 HN7 HNN7 HW37 HCP7 HM17 H7 HB7;generalize w6.alloc (.cells #[.int .i64 0,.int .i64 0] 32)=w7 at *
           clear HZ5;have hbk:=zAb H8.out;have v0:=hbk.1 0 _ rfl;have v1:=hbk.1 1 _ rfl;have vf0:=hbk.2 0;have vf1:=hbk.2 1;clear hbk;go_upto_region 22 with fail;clear v0 v1 vf0 vf1;have hc:=HCP8.out;have HHK:=hid (show zEn (ls.getD k []) (wB om k) t at_ k=if (vX l x t).2≠0 then (0,(vX l x t).2) else ((cmul (vX l x t).1 (fc (root (zGa k at_)).1,fc (root (zGa k at_)).2)).1,0) by rw [HWB.out,HLA.out];exact hear_some HFR.out HS.out);cases hh:has (nds l) t
           · have HH:=hid hh
             by_cases hz:t.toList= [48]
             · have HVX:=hid (show ck (0,0)=(vX l x t).1∧(vX l x t).2=0 by unfold vX;rw [if_neg (by rw [hh];simp),if_pos hz];exact ⟨rfl,rfl⟩);have hz1:(t.toList== [48])=true:=by rw [hz];rfl
               have hz2:(t.toList != [48])=false:=by rw [hz];rfl
               clear hh;go_upto_region 27 with (go_at_call 32;refine (zEv p l t _ HNN8.out (by have:=HNG.out.len;omega)).mono ?_;rintro e w8 ⟨rfl,hb⟩;have HU9:=hid (zAc hb HU8.out);have HN9:=hid (HN8.out.below hb);have HNN9:=hid (HNN8.out.below hb (Nat.le_refl _));have HW39:=hid (zAd HW38.out hb);have HM19:=hid (HM18.out.below hb (Nat.le_refl _));have H79:=hid (zAc hb H78.out);have HB9:=hid (zAd HB8.out hb);rw [HH.out];clear hb);clear hc HU8 HN8 HNN8 HW38 HM18 H78 HB8;have hw1:=wrap1 (k:=k) (by omega);go_wp2_with (first | (go_at_call 34;refine (rangle_any _ _ _ _).mono ?_;rintro e w' ⟨rfl,rfl⟩;rw [angl_step]) | (go_at_call 33;refine (rturned_any _ _ _ _).mono ?_;rintro e w9 ⟨v9,rfl,hb9,rt,it,rfl,hzt⟩;have HB9:=hid hb9;have HZT:=hid hzt;clear hb9 hzt) | (refine zAp rfl _ _ _ _ _ rfl rfl _ _ rfl rfl ?_;intro r2 n2 hr2;have HR2:=hid hr2;clear hr2));go_roundw
               case rel=>
                refine ⟨k+1,r2,by omega,by go_num,rfl,?_,fun i hi=> ?_,?_⟩
                · have h5:zEn (ls.getD k []) (wB om k) t at_ k=((cmul (vX l x t).1 (fc (root (zGa k at_)).1,fc (root (zGa k at_)).2)).1,0):=by rw [HHK.out,if_neg (fun h=> h HVX.out.2)]
                  show _=fop .add (sumH ls om t at_ k) (fc (zEn (ls.getD k []) (wB om k) t at_ k).1);rw [HR2.out,HR.out,h5,←HVX.out.1];have h6:=congrArg Prod.fst HZT.out;show fop .add _ (fc rt)=fop .add _ (fc (cmul (ck (0,0)) _).1);rw [show (cmul (ck (0,0)) (fc (root (zGa k at_)).1,fc (root (zGa k at_)).2)).1=fc rt from h6.symm,fc_fc]
                · by_cases e:i=k
                  · subst e;rw [HHK.out,if_neg (fun h=> h HVX.out.2)]
                  · exact HAL.out i (by omega)
                · exact zAg (zAd HW39.out HB9.out) _
               case measure=> simp [intOf];omega
             · have HW:=hid (show zDb (ps.map zAw) ls om t at_=(fc 0,(10,(k:Int))) by
                have h5:zEn (ls.getD k []) (wB om k) t at_ k=(0,10):=by
                 have hv:(vX l x t).2=10:=by unfold vX;rw [if_neg (by rw [hh];simp),if_neg hz]
                 rw [HHK.out,if_pos (by rw [hv];decide),hv]
                rw [zFu HF.out HLT.out HAL.out (by rw [h5];decide),h5])
               have hz1:(t.toList== [48])=false:=by cases h:(t.toList== [48]) <;> simp_all
               have hz2:(t.toList != [48])=true:=by unfold bne;rw [hz1];rfl
               clear hh;go_upto_region 24 with (go_at_call 32;refine (zEv p l t _ HNN8.out (by have:=HNG.out.len;omega)).mono ?_;rintro e w8 ⟨rfl,hb⟩;have HU9:=hid (zAc hb HU8.out);have HN9:=hid (HN8.out.below hb);have HNN9:=hid (HNN8.out.below hb (Nat.le_refl _));have HW39:=hid (zAd HW38.out hb);have HM19:=hid (HM18.out.below hb (Nat.le_refl _));have H79:=hid (zAc hb H78.out);have HB9:=hid (zAd HB8.out hb);rw [HH.out];clear hb);clear hc HU8 HN8 HNN8 HW38 HM18 H78 HB8;have hbk:=zAb HU9.out;have u0:=hbk.1 0 _ rfl;have u1:=hbk.1 1 _ rfl;have uf0:=hbk.2 0;have uf1:=hbk.2 1;clear hbk;go_wp2_with fail
               (try simp only [Exit.inBlock,Exit.then])
               (try rw [Exit.noGoto_ret])
               (refine bodyPost_ret (v:=.tuple #[.float .f64 0,.agg #[.int .i64 10,.int .i64 k]]) ?_ rfl (zEu.of HW.out (zBv HB9.out (Nat.le_of_eq HGT.out))))
               (rw [zAi rfl];go_simp;done)
           · have HH:=hid hh;obtain ⟨j,hj,hj2⟩:=pl_in2 hh;have HJ:=hid hj;obtain ⟨gv,ov,xv,hidv,hgv,hcv,hxv⟩:=IsSl.at1 Tryz.underlying70 hic hc1 HM18.out (k:=j) hj2;obtain ⟨z,hz,rfl⟩:=map_getElem? hxv;have HZX:=hid (row_at_of HX1.out hj2 hz);obtain ⟨za,zb⟩:=z;unfold mkC at hcv;dsimp only at hcv;have HCV:=hid hcv;have HVX:=hid (show ck (za,zb)=(vX l x t).1∧(vX l x t).2=0 by unfold vX;rw [if_pos hh,hj];exact ⟨by rw [HZX.out];rfl,rfl⟩);clear hh hj hz hxv hcv hgv;go_upto_region 26 with (go_at_call 32;refine (zEv p l t _ HNN8.out (by have:=HNG.out.len;omega)).mono ?_;rintro e w8 ⟨rfl,hb⟩;have HU9:=hid (zAc hb HU8.out);have HN9:=hid (HN8.out.below hb);have HNN9:=hid (HNN8.out.below hb (Nat.le_refl _));have HW39:=hid (zAd HW38.out hb);have HM19:=hid (HM18.out.below hb (Nat.le_refl _));have H79:=hid (zAc hb H78.out);have HB9:=hid (zAd HB8.out hb);rw [HH.out,HJ.out];have HCV1:=hid (cell_later hb HCV.out);clear hb);clear hc HCV HU8 HN8 HNN8 HW38 HM18 H78 HB8;have hbk:=zAb H79.out;have s1:=hbk.1 1 _ rfl;clear hbk;have hcv:=HCV1.out;go_upto_region 27 with fail;clear s1 hcv hidv;have hw1:=wrap1 (k:=k) (by omega);go_wp2_with (first | (go_at_call 34;refine (rangle_any _ _ _ _).mono ?_;rintro e w' ⟨rfl,rfl⟩;rw [angl_step]) | (go_at_call 33;refine (rturned_any _ _ _ _).mono ?_;rintro e w9 ⟨v9,rfl,hb9,rt,it,rfl,hzt⟩;have HB9:=hid hb9;have HZT:=hid hzt;clear hb9 hzt) | (refine zAp rfl _ _ _ _ _ rfl rfl _ _ rfl rfl ?_;intro r2 n2 hr2;have HR2:=hid hr2;clear hr2));go_roundw
             case rel=>
              refine ⟨k+1,r2,by omega,by go_num,rfl,?_,fun i hi=> ?_,?_⟩
              · have h5:zEn (ls.getD k []) (wB om k) t at_ k=((cmul (vX l x t).1 (fc (root (zGa k at_)).1,fc (root (zGa k at_)).2)).1,0):=by rw [HHK.out,if_neg (fun h=> h HVX.out.2)]
                show _=fop .add (sumH ls om t at_ k) (fc (zEn (ls.getD k []) (wB om k) t at_ k).1);rw [HR2.out,HR.out,h5,←HVX.out.1];have h6:=congrArg Prod.fst HZT.out;show fop .add _ (fc rt)=fop .add _ (fc (cmul (ck (za,zb)) _).1);rw [show (cmul (ck (za,zb)) (fc (root (zGa k at_)).1,fc (root (zGa k at_)).2)).1=fc rt from h6.symm,fc_fc]
              · by_cases e:i=k
                · subst e;rw [HHK.out,if_neg (fun h=> h HVX.out.2)]
                · exact HAL.out i (by omega)
              · exact zAg (zAd HW39.out HB9.out) _
             case measure=> simp [intOf];omega
     · obtain rfl:k=ps.length:=by omega
       have HLS:=hid (show ps.length=ls.length from HN3.out.len);have HDN:=hid (heard_done (t:=t) (at_:=at_) HF.out (fun i hi=> HAL.out i (by rw [HLS.out];exact hi)));have HSR:=hid (show sumH ls om t at_ ls.length=fc r by rw [←HLS.out];exact HR.out.symm);have hcf0:ffin (fc 0)=true:=by decide+kernel
       cases hf:ffin (fc r)
       · have HCF:=hid (show cfin (fc r,fc 0)=false by unfold cfin;rw [hf];rfl);have HW:=hid (show zDb (ps.map zAw) ls om t at_=(fc 0,(6,-1)) by rw [HDN.out,HSR.out,if_pos hf]);clear hf hlt hk hbnd;go_upto_region 29 with (go_at_call 35;refine (zBp _ _ _).mono ?_;rintro e w9 ⟨v9,n9,rfl,he9,rfl⟩;rw [HCF.out];have hb:Below wo.heap.size wo w9:=(by rw [he9];exact zAg (Below.refl _ _) n9);clear he9;have HU4:=hid (zAc hb HU3.out);have HN4:=hid (HN3.out.below hb);have HB4:=hid (zAd HB3.out hb);clear hb);clear HU3 HN3 HB3;have hbk:=zAb HU4.out;have u0:=hbk.1 0 _ rfl;have u1:=hbk.1 1 _ rfl;have uf0:=hbk.2 0;have uf1:=hbk.2 1;clear hbk;go_wp2_with fail
         (try simp only [Exit.inBlock,Exit.then])
         (try rw [Exit.noGoto_ret])
         (refine bodyPost_ret (v:=.tuple #[.float .f64 0,.agg #[.int .i64 6,.int .i64 (-1)]]) ?_ rfl (zEu.of HW.out (zBv HB4.out (Nat.le_of_eq HGT.out))))
         (rw [zAi rfl];go_simp;done)
       · have HCF:=hid (show cfin (fc r,fc 0)=true by unfold cfin;rw [hf,hcf0];rfl);have HW:=hid (show zDb (ps.map zAw) ls om t at_=(fc r,(0,0)) by rw [HDN.out,HSR.out,if_neg (by rw [hf];simp)]);clear hf hlt hk hbnd;go_upto_region 30 with (go_at_call 35;refine (zBp _ _ _).mono ?_;rintro e w9 ⟨v9,n9,rfl,he9,rfl⟩;rw [HCF.out];have hb:Below wo.heap.size wo w9:=(by rw [he9];exact zAg (Below.refl _ _) n9);clear he9;have HU4:=hid (zAc hb HU3.out);have HN4:=hid (HN3.out.below hb);have HB4:=hid (zAd HB3.out hb);clear hb);clear HU3 HN3 HB3;have hbk:=zAb HU4.out;have u0:=hbk.1 0 _ rfl;have u1:=hbk.1 1 _ rfl;have uf0:=hbk.2 0;have uf1:=hbk.2 1;clear hbk;go_wp2_with fail
         (try simp only [Exit.inBlock,Exit.then])
         (try rw [Exit.noGoto_ret])
         (refine bodyPost_ret (v:=.tuple #[.float .f64 r,.agg #[.int .i64 0,.int .i64 0]]) ?_ rfl (zEu.of HW.out (zBv HB4.out (Nat.le_of_eq HGT.out))))
         (rw [zAi rfl];go_simp;done)
end
section
open Go.RowKit
def RNt (w:World) (p:Value) (l:List El):Prop:=
 RN w p l∧(p=.pointer none∨∃ (B g:Nat) (v:Value),p=.pointer (some ⟨g,0,none⟩)∧w.heap[g]? =some (.cells #[v,.bool true] 66 (0,0))∧w.ownsRow B 48 8 v l.length (l.flatMap ea))
theorem RNt.kept {w w':World} {p:Value} {l:List El} (h:RNt w p l) (hk:∀ (B g:Nat) (v:Value),p=.pointer (some ⟨g,0,none⟩)→w.heap[g]? =some (.cells #[v,.bool true] 66 (0,0))→w.ownsRow B 48 8 v l.length (l.flatMap ea)→
 w'.heap[g]? =some (.cells #[v,.bool true] 66 (0,0))∧w'.ownsRow B 48 8 v l.length (l.flatMap ea)):RNt w' p l:=by
 rcases h.2 with rfl | ⟨B,g,v,rfl,h1,h2⟩
 · rcases h.1 with ⟨_,h3⟩ | ⟨g,v,h3,_⟩
   · exact ⟨.inl ⟨rfl,h3⟩,.inl rfl⟩
   · cases h3
 · obtain ⟨k1,k2⟩:=hk B g v rfl h1 h2;obtain ⟨hc,_⟩:=zAb k1;exact ⟨.inr ⟨g,v,rfl,hc 0 _ rfl,hc 1 _ rfl,IsSl.of_own k2⟩,.inr ⟨B,g,v,rfl,k1,k2⟩⟩
theorem RNt.below' {w w1:World} {p:Value} {l:List El} (h:RNt w p l) (hb:Below w.heap.size w w1):RNt w1 p l:=
 h.kept fun B g v _ h1 h2=> ⟨zAc hb h1,zBa h2 (zAe hb none)⟩
theorem RNt.typ {w w':World} {p:Value} {l:List El} {r t:Nat} {cs:Array Value} (h:RNt w p l) (hr:w.heap[r]? =some (.cells cs t (0,0))) (hg:w.grownBy w' (some r)) (t1:t≠66) (t2:t≠48):RNt w' p l:=
 h.kept fun B g v _ h1 h2=> ⟨zAk hg (Ne.symm (zAv hr h1 t1)) h1,zAz h2 hg (fun k e1 e2=> by obtain rfl:=Option.some.inj e2;obtain ⟨_,c2,hc2⟩:=zAx h2 e1;exact zAv hr hc2 t2 rfl)⟩
theorem rnt_new {w:World} {a:Option Addr} {c B:Nat} {l:List El} (h:w.ownsRow B 48 8 (.slice a l.length c) l.length (l.flatMap ea)):RNt (w.alloc (.cells #[.slice a l.length c,.bool true] 66)) (.pointer (some ⟨w.heap.size,0,none⟩)) l:=
 ⟨rn_new (IsSl.of_own h),.inr ⟨B,_,_,rfl,heap_alloc_new _ _,zBa h (World.grownBy_alloc w _ none)⟩⟩
theorem NN.typ {w w':World} {p:Value} {l:List El} {r t:Nat} {cs:Array Value} (h:NN w p l) (hr:w.heap[r]? =some (.cells cs t (0,0))) (hg:w.grownBy w' (some r)) (t1:t≠60) (t2:t≠48) (t3:t≠9):NN w' p l:=by
 rcases h with h | ⟨B,g,vl,vn,vb,bn,bp,bb,hp,h⟩
 · exact .inl h
 · have ne:∀ {e size n:Nat} {v:Value} {xs:List Value},w.ownsRow B e size v n xs→t≠e→w'.ownsRow B e size v n xs:=fun ho hne=> zAz ho hg (fun k e1 e2=> by obtain rfl:=Option.some.inj e2;obtain ⟨_,c2,hc2⟩:=zAx ho e1;exact zAv hr hc2 hne rfl)
   exact .inr ⟨B,g,vl,vn,vb,bn,bp,bb,hp,{h with
    blk:=zAk hg (Ne.symm (zAv hr h.blk t1)) h.blk
    ol:=ne h.ol t2
    on:=ne h.on t3
    ob:=ne h.ob t3
    mn:=h.mn.kept hg (by simpa using Ne.symm (h.mn.ne_blk hr))
    mp:=h.mp.kept hg (by simpa using Ne.symm (h.mp.ne_blk hr))
    mb:=h.mb.kept hg (by simpa using Ne.symm (h.mb.ne_blk hr))}⟩
theorem uniq_of {l:List El} (h:(ofL l).1=true):Uniq l:=by
 unfold ofL at h
 split at h
 · cases h
 · split at h
   · cases h
   · rename_i hf;intro j e hj;have:=zHh hf j e hj;rw [Nat.zero_add] at this;unfold bad1 at this
     split at this
     · split at this
       · cases this
       · rename_i h2;simpa using h2
     · exact absurd this (by assumption)
theorem rof_t (v:Value) (l:List El) (w:World) (hv:IsSl w 8 v l.length (l.flatMap ea)) (hok:∀e∈l,e.Ok) (hlen0:l.length≤140737488355328):
 Calls Tryz.prog 7 #[v] w (RetOf RNt l w):=by
 obtain ⟨a,c,rfl⟩:=hv.form;obtain ⟨i0,hi,hz0,hz1,hz2⟩:=info_parts zFh
 by_cases hl:256 < l.length
 · go_enter Tryz.func7,Tryz.ntmps7;have hl2:256 < (l.length:Int):=by omega
   go_wp2
   (try rw [Exit.noGoto_ret])
   refine bodyPost_ret (v:=.tuple #[.pointer none,.agg #[.int .i64 3,.int .i64 (-1)]]) ?_ rfl (zEz (ofL_long hl) ?_)
   · rw [zAi rfl];go_simp
   · exact (Below.refl _ w).alloc (Nat.le_refl _) _
 · have hl2:¬256 < (l.length:Int):=by omega
   have hlen:l.length≤100000:=by omega
   have HL:=hid hl;clear hl;go_enter Tryz.func7,Tryz.ntmps7;go_upto_region 4 with fail;have hA:=heap_alloc_new w (.cells #[.int .i64 0,.int .i64 0] 32);have hBW:=(Below.refl w.heap.size w).alloc (Nat.le_refl _) (.cells #[.int .i64 0,.int .i64 0] 32);have hlt0:w.heap.size < (w.alloc (.cells #[.int .i64 0,.int .i64 0] 32)).heap.size:=by simp
   have hv0:=hv.below hBW (Nat.le_refl _);generalize w.alloc (.cells #[.int .i64 0,.int .i64 0] 32)=w0 at *;have HA:=hid hA;have HBW:=hid hBW;have HV:=hid hv0;clear hA hBW hv0 hv
   go_loopw [4] (fun i wr=> ∃k:Nat,k≤l.length∧i=.int .i64 k∧(∀ (j:Nat) (e:El),j < k→l[j]? =some e→bad1 l j e=0)∧Below w0.heap.size w0 wr) (fun i _=> l.length - (intOf i).toNat)
   case atStart=> exact ⟨0,Nat.zero_le _,rfl,fun j e h=> by omega,Below.refl _ _⟩
   case round=>
    obtain ⟨k,hk,rfl,hno,hb⟩:=hrel;obtain ⟨wo,rfl⟩:∃wo:World,wo=wr:=⟨_,rfl⟩;have HNO:=hid hno;clear hno
    by_cases hlt:k < l.length
    · obtain ⟨g,o,x,hidx,hg,hx,hcell⟩:=IsSl.atF Tryz.underlying26 hi hz1 ea_len (HV.out.below hb (Nat.le_refl _)) rfl hlt;have HX:=hid hx;have HOK:=hid (hok x (List.mem_of_getElem? hx));have c0:=hcell 0 _ rfl;have c1:=hcell 1 _ rfl;have c2:=hcell 2 _ rfl;have c3:=hcell 3 _ rfl;have c4:=hcell 4 _ rfl;have c5:=hcell 5 _ rfl;have c6:=hcell 6 _ rfl;have c7:=hcell 7 _ rfl;rw [Nat.add_zero] at c0;have HB:=hid hb;clear hcell hb hx hg
      by_cases hck:zBc x=0
      · have HCK:=hid hck;go_upto_region 7 with (go_at_call 21;refine (zFq x _ HOK.out).mono ?_;rintro en w1 ⟨rfl,hb1⟩;rw [HCK.out];have HB1:=hid (zAd HB.out hb1);have d1:=cell_later hb1 c1;clear hb1);clear c0 c1 c2 c3 c4 c5 c6 c7;go_upto_region 10 with fail
        go_loopw [6] (fun j wj=> ∃q n:Nat,q≤k∧j=.int .i64 q∧zFe (l.take q) x.name=false∧wj=w1.drewN n) (fun j _=> k - (intOf j).toNat)
        case atStart=> exact ⟨0,0,Nat.zero_le _,rfl,rfl,rfl⟩
        case round=>
         obtain ⟨q,n,hq,rfl,hnm,hw⟩:=hrel;have hB2:Below w0.heap.size w0 wr:=by rw [hw];exact zAg HB1.out n
         have e1:wr.cell? ⟨g,o+1,none⟩=some (.string x.name):=by rw [hw];exact d1
         have HW:=hid hw;clear hw d1
         by_cases hltq:q < k
         · obtain ⟨g5,o5,x5,hidx5,hg5,hx5,hcell5⟩:=IsSl.atF Tryz.underlying26 hi hz1 ea_len (HV.out.below hB2 (Nat.le_refl _)) rfl (show q < l.length by omega);have c1:=hcell5 1 _ rfl;have HX5:=hid hx5;clear hcell5 hx5 hg5;cases hnn:(x5.name.toList==x.name.toList)
           · have HNN:=hid hnn;go_upto_region 12 with fail
             go_quiet (fail)
             go_wp2;go_roundw
             case rel=> exact ⟨q+1,nq+n,by omega,by go_num,by rw [named_snoc HX5.out,hnm,HNN.out];rfl,by rw [HW.out];simp [World.drewN_drewN,Nat.add_comm]⟩
             case measure=> simp [intOf];omega
           · have HNN:=hid hnn;have hA1:=zAb (zAc hB2 HA.out);obtain ⟨hA2,fA⟩:=hA1;have k0:=hA2 0 _ rfl;have k1:=hA2 1 _ rfl;have HB2:=hid hB2;clear hA2 hB2;go_upto_region 12 with fail
             go_quiet (fail)
             go_wp2
             (try rw [Exit.noGoto_ret])
             refine bodyPost_ret (v:=.tuple #[.pointer none,.agg #[.int .i64 9,.int .i64 k]]) ?_ rfl (zEz ?_ ?_)
             · rw [zAi rfl];go_simp
             · have hb9:bad1 l k x=9:=bad1_named HCK.out (named_at hltq HX5.out HNN.out);have:=ofL_bad HL.out HX.out HNO.out (by rw [hb9];decide)
               rwa [hb9] at this
             · exact ((zAg (zAd HBW.out HB2.out) _).setCell (Nat.le_refl _) _).setCell (Nat.le_refl _) _
         · obtain rfl:q=k:=by omega
           have HB2:=hid hB2;have HNM:=hid hnm;clear hB2 hnm;go_wp2_with fail;go_roundw
           case rel=>
            refine ⟨q+1,by omega,by go_num,fun j e hj he=> ?_,HB2.out⟩;rcases Nat.lt_or_ge j q with h | h
            · exact HNO.out j e h he
            · obtain rfl:j=q:=by omega
              rw [HX.out] at he;cases he;exact bad1_not HCK.out HNM.out
           case measure=> simp [intOf];omega
      · have HCK:=hid hck;have hbq:(zBc x==0)=false:=by simpa using hck
        go_wp2_with (go_at_call 21;refine (zFq x _ HOK.out).mono ?_;rintro en w1 ⟨rfl,hb1⟩;have HB1:=hid (zAd HB.out hb1);have hA1:=(zAb (zAc HB1.out HA.out)).1;have fA:=(zAb (zAc HB1.out HA.out)).2;have k0:=hA1 0 _ rfl;have k1:=hA1 1 _ rfl;clear hb1 hA1)
        (try rw [Exit.noGoto_ret])
        refine bodyPost_ret (v:=.tuple #[.pointer none,.agg #[.int .i64 (zBc x),.int .i64 k]]) ?_ rfl (zEz ?_ ?_)
        · rw [zAi rfl];go_simp
        · have:=ofL_bad HL.out HX.out HNO.out (by rw [bad1_chk HCK.out];exact HCK.out)
          rwa [bad1_chk HCK.out] at this
        · exact ((zAd HBW.out HB1.out).setCell (Nat.le_refl _) _).setCell (Nat.le_refl _) _
    · obtain rfl:k=l.length:=by omega
      have hgood:=ofL_good HL.out (fun j e he=> HNO.out j e (List.getElem?_eq_some_iff.1 he).1 he);have HG:=hid hgood;have HB:=hid hb;have HVR:=hid (HV.out.below hb (Nat.le_refl _));have hlen256:=HL.out;clear hgood hb;go_upto_region 16 with (refine zCg rfl _ _ _ rfl w0.heap.size 48 8 104 i0 (.agg #[.int .u8 0,.string ⟨#[]⟩,.string ⟨#[]⟩,.string ⟨#[]⟩,.string ⟨#[]⟩,.string ⟨#[]⟩,.float .f64 0,.int .i64 0]) Tryz.underlying26 hi hz0 hz1 hz2 rfl (by decide) _ 0 [] (World.ownsRow_nil _ _ _ _) HB.out.size _ _ _ HVR.out rfl rfl (by intro u hu;obtain ⟨z,_,hz⟩:=List.mem_flatMap.1 hu;exact ea_one z u hz) (by simp [maxLen];omega) (by omega) ?_;intro v1 w1 hown1 hgr1 hat1;rw [Nat.zero_add,List.nil_append] at hown1;obtain ⟨a1,c1,rfl⟩:=(IsSl.of_own hown1).form);have hB1:Below w0.heap.size w0 w1:=zFz HB.out hgr1 (by intro k e;cases e);have hR1:RNt (w1.alloc (.cells #[.slice a1 l.length c1,.bool true] 66)) (.pointer (some ⟨w1.heap.size,0,none⟩)) l:=rnt_new hown1;have hB2:Below w0.heap.size w0 (w1.alloc (.cells #[.slice a1 l.length c1,.bool true] 66)):=hB1.alloc hB1.size _;generalize (w1.alloc (.cells #[.slice a1 l.length c1,.bool true] 66))=w2 at *;generalize w1.heap.size=gn at *;have HR:=hid hR1;have HB2:=hid hB2;clear hR1 hB2 hB1 hown1 hgr1 hat1
      by_cases h32:32 < (nds l).length
      · have hi32:32 < ((nds l).length:Int):=by omega
        have HG2:=hid (HG.out.trans (if_pos (.inl h32)));go_wp2_with (go_at_call 22;refine (zCy _ l _ HR.out.1 hlen).mono ?_;rintro en w3 ⟨v3,xs3,rfl,hown3,rfl,hb3⟩;obtain ⟨a3,c3,rfl⟩:=(IsSl.of_own hown3).form;have HB3:=hid (zAd HB2.out hb3);have hA1:=(zAb (zAc HB3.out HA.out)).1;have fA:=(zAb (zAc HB3.out HA.out)).2;have k0:=hA1 0 _ rfl;have k1:=hA1 1 _ rfl;clear hb3 hA1 hown3)
        (try rw [Exit.noGoto_ret])
        refine bodyPost_ret (v:=.tuple #[.pointer none,.agg #[.int .i64 3,.int .i64 (-1)]]) ?_ rfl (zEz HG2.out ?_)
        · rw [zAi rfl];go_simp
        · exact ((zAd HBW.out HB3.out).setCell (Nat.le_refl _) _).setCell (Nat.le_refl _) _
      · have hi32:((nds l).length:Int)≤32:=by omega
        by_cases h64:64 < (nds l).length+(brs l).length
        · have hi64:64 < ((nds l).length:Int)+((brs l).length:Int):=by omega
          have HG2:=hid (HG.out.trans (if_pos (.inr h64)));go_wp2_with (first | (go_at_call 22;refine (zCy _ l _ HR.out.1 hlen).mono ?_;rintro en w3 ⟨v3,xs3,rfl,hown3,rfl,hb3⟩;obtain ⟨a3,c3,rfl⟩:=(IsSl.of_own hown3).form;have HR3:=hid (HR.out.below' hb3);have HB3:=hid (zAd HB2.out hb3);clear hb3 hown3) | (go_at_call 23;refine (zGs _ l _ HR3.out.1 hlen).mono ?_;rintro en w4 ⟨rfl,hb4⟩;have HR4:=hid (HR3.out.below' hb4);have HB4:=hid (zAd HB3.out hb4);have hA1:=(zAb (zAc HB4.out HA.out)).1;have fA:=(zAb (zAc HB4.out HA.out)).2;have k0:=hA1 0 _ rfl;have k1:=hA1 1 _ rfl;clear hb4 hA1))
          (try rw [Exit.noGoto_ret])
          refine bodyPost_ret (v:=.tuple #[.pointer none,.agg #[.int .i64 3,.int .i64 (-1)]]) ?_ rfl (zEz HG2.out ?_)
          · rw [zAi rfl];go_simp
          · exact ((zAd HBW.out HB4.out).setCell (Nat.le_refl _) _).setCell (Nat.le_refl _) _
        · have hi64:((nds l).length:Int)+((brs l).length:Int)≤64:=by omega
          have HG2:=hid (HG.out.trans (if_neg (by omega)));go_wp2_with (first | (go_at_call 22;refine (zCy _ l _ HR.out.1 hlen).mono ?_;rintro en w3 ⟨v3,xs3,rfl,hown3,rfl,hb3⟩;obtain ⟨a3,c3,rfl⟩:=(IsSl.of_own hown3).form;have HR3:=hid (HR.out.below' hb3);have HB3:=hid (zAd HB2.out hb3);clear hb3 hown3) | (go_at_call 23;refine (zGs _ l _ HR3.out.1 hlen).mono ?_;rintro en w4 ⟨rfl,hb4⟩;have HR4:=hid (HR3.out.below' hb4);have HB4:=hid (zAd HB3.out hb4);have hA1:=(zAb (zAc HB4.out HA.out)).1;have fA:=(zAb (zAc HB4.out HA.out)).2;have k0:=hA1 0 _ rfl;have k1:=hA1 1 _ rfl;clear hb4 hA1))
          (try rw [Exit.noGoto_ret])
          refine bodyPost_ret (v:=.tuple #[.pointer (some ⟨gn,0,none⟩),.agg #[.int .i64 0,.int .i64 0]]) ?_ rfl ⟨_,by rw [HG2.out],.inr ⟨by rw [HG2.out],by simp,?_⟩,?_⟩
          · rw [zAi rfl];go_simp
          · rw [zGd (zAc HB4.out HA.out) rfl,zGd (zAc HB4.out HA.out) rfl];exact HR4.out
          · exact ((zAd HBW.out HB4.out).setCell (Nat.le_refl _) _).setCell (Nat.le_refl _) _
end
end Go.Proofs.YtejooaeppcjhjaaGreat
