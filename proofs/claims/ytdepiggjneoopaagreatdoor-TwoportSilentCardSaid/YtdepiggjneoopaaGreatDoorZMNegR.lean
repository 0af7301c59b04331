/- a part of the proof of the last text -/
import Derived.Test.YtdepiggjneoopaaGreatDoorZMPhNone
namespace Go.Proofs.YtdepiggjneoopaaGreatDoor
set_option linter.all false
set_option maxHeartbeats 4000000
set_option maxRecDepth 100000
section
open Go.RowKit
def RetSolP (om k m:Nat) (S:Option (Nat→Cx) × (Int × Int)) (w:World) (e:Ending) (w':World):Prop:=
 Below w.heap.size w w'∧((S.1=none∧e=.returned (.tuple #[.agg #[.float .f64 0,.slice none 0 0,.slice none 0 0],.agg #[.int .i64 S.2.1,.int .i64 S.2.2]]))∨
  (∃x q1 q2,S=(some x,(0,0))∧e=.returned (.tuple #[.agg #[.float .f64 om,.slice (some ⟨q1,0,none⟩) k k,.slice (some ⟨q2,0,none⟩) m m],.agg #[.int .i64 0,.int .i64 0]])∧w.heap.size≤q1∧w.heap.size≤q2∧q1≠q2∧VecR w' q1 k x∧VecR w' q2 m (fun i=> x (k+i))))
theorem zAw {B gt:Nat} {w u:World} {a0 a1 a2 b0 b1:Value} (h:Below B w u) (hg:B≤gt):Below B w (((((u.setCell ⟨gt,0,none⟩ a0).setCell ⟨gt,1,none⟩ a1).setCell ⟨gt,2,none⟩ a2).setCell ⟨gt+1,0,none⟩ b0).setCell ⟨gt+1,1,none⟩ b1):=
 (((((h.setCell (p:=⟨gt,0,none⟩) hg a0).setCell (p:=⟨gt,1,none⟩) hg a1).setCell (p:=⟨gt,2,none⟩) hg a2).setCell (p:=⟨gt+1,0,none⟩) (Nat.le_succ_of_le hg) b0).setCell (p:=⟨gt+1,1,none⟩) (Nat.le_succ_of_le hg) b1)
theorem vec_five {gt b n:Nat} {u:World} {r:Nat→Cx} {a0 a1 a2 b0 b1:Value} (h:VecR u b n r) (h1:b≠gt) (h2:b≠gt+1):VecR (((((u.setCell ⟨gt,0,none⟩ a0).setCell ⟨gt,1,none⟩ a1).setCell ⟨gt,2,none⟩ a2).setCell ⟨gt+1,0,none⟩ b0).setCell ⟨gt+1,1,none⟩ b1) b n r:=by
 obtain ⟨M,hM⟩:=h;exact ⟨M,(hM.grow (zAf (zAf (zAn u gt 0 _) (zAn _ gt 1 _)) (zAn _ gt 2 _)) h1).grow (zAf (zAn _ (gt+1) 0 _) (zAn _ (gt+1) 1 _)) h2⟩
theorem ask_b {b:Bool} {om:Nat} (h:askS b om=0):b=false:=by
 cases b
 · rfl
 · exact absurd h (by unfold askS;simp)
theorem es_ord {n:Nat} {m:Nat→Cx}:∀k,k≤n→∀i,i < n→(esK n m k).ord i < n
 | 0,_,i,hi=> hi
 | k+1,hk,i,hi=> by
  have ih:=es_ord (n:=n) (m:=m) k (by omega);show (zDy n (esK n m k) k).1.ord i < n;generalize esK n m k=s at *
  by_cases hc:(zCb (colL n s.R k) k).2=0
  · obtain ⟨b,hb,aI,aV⟩:=choose_ok (k:=k) (c:=colL n s.R k) (by simp [colL];omega) hc;rw [stepE_ok hb];exact ih _ (swp_lt (by simp [colL] at aV;omega) (by omega) hi)
  · unfold zDy;rw [if_pos hc];exact ih i hi
theorem RetSolve.no {n:Nat} {S:(Nat→Cx) × Bool} {w w':World} {e:Ending} (h:RetSolve n S w e w') (hs:S.2=false):e=.returned (.tuple #[.slice none 0 0,.int .i64 6])∧Below w.heap.size w w':=by
 rcases h.2 with ⟨h2,_⟩ | ⟨_,h2⟩
 · rw [hs] at h2;cases h2
 · exact ⟨h2,h.1⟩
theorem RetSolve.yes {n:Nat} {S:(Nat→Cx) × Bool} {w w':World} {e:Ending} (h:RetSolve n S w e w') (hs:S.2=true):∃q,e=.returned (.tuple #[.slice (some ⟨q,0,none⟩) n n,.int .i64 0])∧w.heap.size≤q∧VecR w' q n S.1∧Below w.heap.size w w':=by
 rcases h.2 with ⟨_,q,h2,h3,h4⟩ | ⟨h2,_⟩
 · exact ⟨q,h2,h3,h4,h.1⟩
 · rw [hs] at h2;cases h2
theorem getD_mck (bs:List Cx) (i:Nat):(bs.map ck).getD i (0,0)=ck (bs.getD i (0,0)):=by
 rw [List.getD_eq_getElem?_getD,List.getD_eq_getElem?_getD,List.getElem?_map];cases bs[i]?
 · rfl
 · rfl
theorem lowM_ways (n:Nat) (m:Nat→Cx):(∃f,lowM n m=(none,f)∧f≠ (0,0))∨lowM n m=(some (esK n m n),(0,0)):=by
 unfold lowM
 split
 · exact .inl ⟨_,rfl,by simp⟩
 · unfold lowE lowBad
   split
   · rename_i k h;have h2:=List.find?_some h;exact .inl ⟨_,rfl,fun e=> by rw [(Prod.mk.inj e).1] at h2;simp at h2⟩
   · exact .inr rfl
theorem work_ways (l:List El) (om:Nat):(∃f,workS l om=(none,f)∧f≠ (0,0))∨workS l om=(some (esK (szL l) (matK l om l.length) (szL l)),(0,0)):=by
 unfold workS
 by_cases h1:grdS false l=(0,0)
 · rw [if_neg (fun h=> h h1)]
   by_cases h2:(matS false l om).2=(0,0)
   · rw [if_neg (fun h=> h h2)];exact lowM_ways _ _
   · rw [if_pos h2];exact .inl ⟨_,rfl,h2⟩
 · rw [if_pos h1];exact .inl ⟨_,rfl,h1⟩
theorem with_work {b:Bool} {l:List El} {om:Nat} {r:List Cx} (ha:askS b om=0) (hl:r.length=szL l) (hf:r.all cfin=true):
 zCu b l om r=match workS l om with
  | (none,f)=> (none,f)
  | (some s,_)=> if (zDh (szL l) s fun i=> r.getD i (0,0)).2=true then (some (zDh (szL l) s fun i=> r.getD i (0,0)).1,(0,0)) else (none,(6,-1)):=by
 unfold zCu workS;rw [if_neg (fun h=> h ha),if_neg (fun h=> h hl),if_neg (by rw [hf];simp)]
 by_cases h1:grdS false l=(0,0)
 · have e1:¬(grdS false l≠ (0,0)):=fun h=> h h1
   by_cases h2:(matS false l om).2=(0,0)
   · have e2:¬((matS false l om).2≠ (0,0)):=fun h=> h h2
     rw [if_neg e1,if_neg e1,if_neg e2,if_neg e2];generalize lowM (szL l) (matK l om l.length)=q;obtain ⟨_ | s,f⟩:=q <;> rfl
   · rw [if_neg e1,if_neg e1,if_pos h2,if_pos h2]
 · rw [if_pos h1,if_pos h1]
theorem with_any (p v:Value) (l:List El) (om:Nat) (bs:List Cx) (w:World) (hp:NN w p l) (hg:NetG l) (hv:IsSl w 1 v bs.length (bs.map mkC)) (rH:bs.length * 16≤140737488351232):
 Calls Tryz.prog 39 #[p,.float .f64 om,v] w (RetSolP om (nds l).length (brs l).length (zCu (zBp p) l om (bs.map ck)) w):=by
 obtain ⟨av,cv,rfl⟩:=hv.form;obtain ⟨i0,hi,cG,bD,cB⟩:=info_parts zFh;obtain ⟨t1,t2,t3⟩:=zEc w (.cells #[.float .f64 0,.slice none 0 0,.slice none 0 0] 87) (.cells #[.int .i64 0,.int .i64 0] 38);have HT:=hid t1;have HU:=hid t2;have eP:=hid t3;have HP:=hid (hp.below t3 (Nat.le_refl _));have HV:=hid (hv.below t3 (Nat.le_refl _));have HG:=hid hg;have HBL:=hid rH;clear hp hv hg rH t1 t2 t3;go_enter Tryz.func39,Tryz.ntmps39;go_upto_region 1 with fail;generalize (w.alloc (.cells #[.float .f64 0,.slice none 0 0,.slice none 0 0] 87)).alloc (.cells #[.int .i64 0,.int .i64 0] 38)=w1 at *;obtain ⟨gt,eR⟩:∃gt,w.heap.size=gt:=⟨_,rfl⟩;rw [eR] at HT HU⊢;have dZ:=hid eR;clear eR;obtain ⟨ak,has⟩:∃a,askS (zBp p) om=a:=⟨_,rfl⟩;have HA:=hid has;clear has;go_upto_region 2 with (go_at_call 67;refine (asked_any p l om _ HP.out HG.out.nm).mono ?_;rintro e w2 ⟨rfl,hb⟩;have cP:=hid (zAa hb HT.out);have nN:=hid (zAa hb HU.out);have gE:=hid (HP.out.below' hb);have iN:=hid (HV.out.below hb (Nat.le_refl _));have aL:=hid (zAd eP.out hb);rw [HA.out];clear hb);clear HT HU HP HV eP
 by_cases h0:ak=0
 rotate_left
 · have HW:=hid (show zCu (zBp p) l om (bs.map ck)=(none,(ak,-1)) by unfold zCu;rw [HA.out,if_pos h0];unfold plain;rw [if_neg h0]);have kP:(ak==0)=false:=by simpa using h0
   have aI:(ak !=0)=true:=by simpa using h0
   go_wp2_with (go_at_call 68;refine (pnone_any ak _).mono ?_;rintro e wb ⟨rfl,hb⟩;have eO:=hid (zAa hb cP.out);have mI:=hid (zAa hb nN.out);have lO:=hid (gE.out.below' hb);have hC:=hid (iN.out.below hb (Nat.le_refl _));have aG:=hid (zAd aL.out hb);rw [show noneS ak=.agg #[.int .i64 ak,.int .i64 (-1)] from if_neg h0];have aB:=zAc eO.out;have tf0:=aB.2 0;have tf1:=aB.2 1;have tf2:=aB.2 2;have t0:=aB.1 0 _ rfl;have t1:=aB.1 1 _ rfl;have t2:=aB.1 2 _ rfl;clear aB;have aB:=zAc mI.out;have uf0:=aB.2 0;have uf1:=aB.2 1;have u0:=aB.1 0 _ rfl;have u1:=aB.1 1 _ rfl;clear aB;clear hb)
   (try simp only [Exit.inBlock,Exit.then])
   (try rw [Exit.noGoto_ret])
   refine bodyPost_ret (v:=.tuple #[.agg #[.float .f64 0,.slice none 0 0,.slice none 0 0],.agg #[.int .i64 ak,.int .i64 (-1)]]) ?_ rfl ⟨zAw aG.out (Nat.le_of_eq dZ.out),.inl ⟨by rw [HW.out],by rw [HW.out]⟩⟩;rw [zAh rfl];go_simp
 subst h0;have HQ:=hid (ask_b HA.out);obtain ⟨z,hz⟩:∃z,szL l=z:=⟨_,rfl⟩;have HZ:=hid hz;have HZK:=hid (show ((nds l).length:Int)+((brs l).length:Int)=(z:Int) by rw [←hz];unfold szL;omega);have uU:=hid (show z≤64 by rw [←hz];exact HG.out.sz);clear hz
 by_cases hl:bs.length=z
 rotate_left
 · have HW:=hid (show zCu (zBp p) l om (bs.map ck)=(none,(4,-1)) by unfold zCu;rw [HA.out,if_neg (fun h=> h rfl),HZ.out,List.length_map,if_pos hl]);have kP:((bs.length:Int)==(z:Int))=false:=by simp;omega
   have aI:((bs.length:Int) !=(z:Int))=true:=by simp;omega
   go_upto_region 4 with fail;go_upto_region 5 with (go_at_call 34;refine (zEf p l _ gE.out (by have:=HG.out.len;omega)).mono ?_;rintro e w3 ⟨rfl,hb⟩;have eO:=hid (zAa hb cP.out);have mI:=hid (zAa hb nN.out);have lO:=hid (gE.out.below' hb);have hC:=hid (iN.out.below hb (Nat.le_refl _));have aG:=hid (zAd aL.out hb);rw [HZK.out];clear hb);clear cP nN gE iN aL
   go_wp2_with (go_at_call 68;refine (pnone_any 4 _).mono ?_;rintro e wb ⟨rfl,hb⟩;have jG:=hid (zAa hb eO.out);have mH:=hid (zAa hb mI.out);have oU:=hid (lO.out.below' hb);have qB:=hid (hC.out.below hb (Nat.le_refl _));have aT:=hid (zAd aG.out hb);rw [show noneS 4=.agg #[.int .i64 4,.int .i64 (-1)] from if_neg (by decide)];have aB:=zAc jG.out;have tf0:=aB.2 0;have tf1:=aB.2 1;have tf2:=aB.2 2;have t0:=aB.1 0 _ rfl;have t1:=aB.1 1 _ rfl;have t2:=aB.1 2 _ rfl;clear aB;have aB:=zAc mH.out;have uf0:=aB.2 0;have uf1:=aB.2 1;have u0:=aB.1 0 _ rfl;have u1:=aB.1 1 _ rfl;clear aB;clear hb)
   (try simp only [Exit.inBlock,Exit.then])
   (try rw [Exit.noGoto_ret])
   refine bodyPost_ret (v:=.tuple #[.agg #[.float .f64 0,.slice none 0 0,.slice none 0 0],.agg #[.int .i64 4,.int .i64 (-1)]]) ?_ rfl ⟨zAw aT.out (Nat.le_of_eq dZ.out),.inl ⟨by rw [HW.out],by rw [HW.out]⟩⟩;rw [zAh rfl];go_simp
 subst hl;go_upto_region 4 with fail;go_upto_region 6 with (go_at_call 34;refine (zEf p l _ gE.out (by have:=HG.out.len;omega)).mono ?_;rintro e w3 ⟨rfl,hb⟩;have eO:=hid (zAa hb cP.out);have mI:=hid (zAa hb nN.out);have lO:=hid (gE.out.below' hb);have hC:=hid (iN.out.below hb (Nat.le_refl _));have aG:=hid (zAd aL.out hb);rw [HZK.out];clear hb);clear cP nN gE iN aL;go_wp2_with fail
 go_loopw [32] (fun i wr=> ∃k:Nat,k≤bs.length∧i=.int .i64 k∧((bs.take k).map ck).all cfin=true∧Below w3.heap.size w3 wr) (fun i _=> bs.length - (intOf i).toNat)
 case atStart=> exact ⟨0,Nat.zero_le _,rfl,rfl,Below.refl _ _⟩
 case round=>
  obtain ⟨k,hk,rfl,bN,hb⟩:=hrel;obtain ⟨wo,rfl⟩:∃wo:World,wo=wr:=⟨_,rfl⟩;have HW3:=hid hb;have HAL:=hid bN;have hbnd:=uU.out;have jG:=hid (zAa hb eO.out);have mH:=hid (zAa hb mI.out);have oU:=hid (lO.out.below' hb);have qB:=hid (hC.out.below hb (Nat.le_refl _));have aT:=hid (zAd aG.out hb);clear bN hb eO mI lO hC aG
  by_cases aM:k < bs.length
  · obtain ⟨g,o,x0,aZ,hg,hc,pW⟩:=IsSl.at1 Tryz.underlying41 hi bD qB.out aM;obtain ⟨x,hx,rfl⟩:=map_getElem? pW;have HX:=hid hx;unfold mkC at hc;clear hx pW;cases hf:cfin (fc x.1,fc x.2)
    · have HF:=hid hf;have HW:=hid (show zCu (zBp p) l om (bs.map ck)=(none,(5,-1)) by
       unfold zCu;rw [HA.out,if_neg (fun h=> h rfl),HZ.out,List.length_map,if_neg (fun h=> h rfl),if_pos];cases hq:(bs.map ck).all cfin
       · rfl
       · rw [List.all_eq_true] at hq;have h2:=hq (ck x) (List.mem_map.2 ⟨x,List.mem_of_getElem? HX.out,rfl⟩);rw [show cfin (ck x)=false from HF.out] at h2;cases h2)
      clear hf;go_upto_region 10 with (go_at_call 41;refine (pfin_b _ _ _).mono ?_;rintro e w4 ⟨rfl,hb⟩;have nO:=hid (zAa hb jG.out);have oP:=hid (zAa hb mH.out);have pJ:=hid (oU.out.below' hb);have tQ:=hid (qB.out.below hb (Nat.le_refl _));have bI:=hid (zAd aT.out hb);rw [HF.out];clear hb);clear jG mH oU qB aT;go_wp2_with (go_at_call 68;refine (pnone_any 5 _).mono ?_;rintro e wb ⟨rfl,hb⟩;have lM:=hid (zAa hb nO.out);have oN:=hid (zAa hb oP.out);have tU:=hid (pJ.out.below' hb);have tP:=hid (tQ.out.below hb (Nat.le_refl _));have cL:=hid (zAd bI.out hb);rw [show noneS 5=.agg #[.int .i64 5,.int .i64 (-1)] from if_neg (by decide)];have aB:=zAc lM.out;have tf0:=aB.2 0;have tf1:=aB.2 1;have tf2:=aB.2 2;have t0:=aB.1 0 _ rfl;have t1:=aB.1 1 _ rfl;have t2:=aB.1 2 _ rfl;clear aB;have aB:=zAc oN.out;have uf0:=aB.2 0;have uf1:=aB.2 1;have u0:=aB.1 0 _ rfl;have u1:=aB.1 1 _ rfl;clear aB;clear hb)
      (try simp only [Exit.inBlock,Exit.then])
      (try rw [Exit.noGoto_ret])
      refine bodyPost_ret (v:=.tuple #[.agg #[.float .f64 0,.slice none 0 0,.slice none 0 0],.agg #[.int .i64 5,.int .i64 (-1)]]) ?_ rfl ⟨zAw cL.out (Nat.le_of_eq dZ.out),.inl ⟨by rw [HW.out],by rw [HW.out]⟩⟩;rw [zAh rfl];go_simp
    · have HF:=hid hf;clear hf;go_wp2_with (go_at_call 41;refine (pfin_b _ _ _).mono ?_;rintro e w2 ⟨rfl,aV⟩;rw [HF.out]);go_roundw
      case rel=>
       refine ⟨k+1,by omega,by go_num,?_,zBh HW3.out (by assumption)⟩;rw [zDx ck bs k x HX.out,List.all_append,HAL.out];simp only [List.all_cons,List.all_nil,Bool.and_true,Bool.true_and];exact HF.out
      case measure=> simp [intOf];omega
  · obtain rfl:k=bs.length:=by omega
    have lG:=hid (show (bs.map ck).all cfin=true by have:=HAL.out;rwa [List.take_length] at this);have HWW:=hid (with_work (l:=l) HA.out (by rw [List.length_map,HZ.out]) lG.out);obtain ⟨So,f1,f2,qM⟩:∃So f1 f2,workS l om=(So,(f1,f2)):=⟨_,_,_,rfl⟩;have lC:=hid qM;clear qM hk aM hbnd;clear HAL HW3;go_upto_region 13 with (go_at_call 69;refine (work_any p l om _ oU.out HQ.out HG.out).mono ?_;rintro e w5 ⟨r0,r1,am,lm,cm,pw,tC,hb,iK⟩;have nO:=hid (zAa hb jG.out);have oP:=hid (zAa hb mH.out);have pJ:=hid (oU.out.below' hb);have tQ:=hid (qB.out.below hb (Nat.le_refl _));have bI:=hid (zAd aT.out hb);rw [lC.out] at tC iK;rw [HZ.out] at iK;dsimp only at tC iK;subst tC;have lR:=hid iK;clear iK;clear hb);clear jG mH oU qB aT;rcases work_ways l om with ⟨f,hf,aK⟩ | hs
    · rw [lC.out] at hf;obtain ⟨h1,h2⟩:=Prod.mk.inj hf;subst h1 h2;have HW:=hid (show zCu (zBp p) l om (bs.map ck)=(none,(f1,f2)) by rw [HWW.out,lC.out]);clear hf lR;have lM:=hid (zAa ((Below.refl w5.heap.size w5).alloc (Nat.le_refl _) (.cells #[.int .i64 r0,.int .i64 r1,.slice am lm cm,.pointer pw] 127)) nO.out);have oN:=hid (zAa ((Below.refl w5.heap.size w5).alloc (Nat.le_refl _) (.cells #[.int .i64 r0,.int .i64 r1,.slice am lm cm,.pointer pw] 127)) oP.out);have tU:=hid (pJ.out.below' ((Below.refl w5.heap.size w5).alloc (Nat.le_refl _) (.cells #[.int .i64 r0,.int .i64 r1,.slice am lm cm,.pointer pw] 127)));have tP:=hid (tQ.out.below ((Below.refl w5.heap.size w5).alloc (Nat.le_refl _) (.cells #[.int .i64 r0,.int .i64 r1,.slice am lm cm,.pointer pw] 127)) (Nat.le_refl _));have cL:=hid (zAd bI.out ((Below.refl w5.heap.size w5).alloc (Nat.le_refl _) (.cells #[.int .i64 r0,.int .i64 r1,.slice am lm cm,.pointer pw] 127)));have fR:=hid (show gt+1 < w5.heap.size from (Array.getElem?_eq_some_iff.1 oP.out).1);have jY:=hid (show (w5.alloc (.cells #[.int .i64 r0,.int .i64 r1,.slice am lm cm,.pointer pw] 127)).heap.size=w5.heap.size+1 by simp);have H7:=hid (heap_alloc_new w5 (.cells #[.int .i64 r0,.int .i64 r1,.slice am lm cm,.pointer pw] 127));clear nO oP pJ tQ bI;generalize w5.alloc (.cells #[.int .i64 r0,.int .i64 r1,.slice am lm cm,.pointer pw] 127)=w6 at *;generalize w5.heap.size=g7 at *;have kI:=hid (zAa ((Below.refl w6.heap.size w6).alloc (Nat.le_refl _) (.cells #[.int .i64 f1,.int .i64 f2] 38)) lM.out);have lL:=hid (zAa ((Below.refl w6.heap.size w6).alloc (Nat.le_refl _) (.cells #[.int .i64 f1,.int .i64 f2] 38)) oN.out);have HP6:=hid (tU.out.below' ((Below.refl w6.heap.size w6).alloc (Nat.le_refl _) (.cells #[.int .i64 f1,.int .i64 f2] 38)))
      have zV:=hid (tP.out.below ((Below.refl w6.heap.size w6).alloc (Nat.le_refl _) (.cells #[.int .i64 f1,.int .i64 f2] 38)) (Nat.le_refl _));have uD:=hid (zAa ((Below.refl w6.heap.size w6).alloc (Nat.le_refl _) (.cells #[.int .i64 f1,.int .i64 f2] 38)) H7.out);have cJ:=hid (zAd cL.out ((Below.refl w6.heap.size w6).alloc (Nat.le_refl _) (.cells #[.int .i64 f1,.int .i64 f2] 38)));have H8:=hid (heap_alloc_new w6 (.cells #[.int .i64 f1,.int .i64 f2] 38));rw [jY.out] at H8;clear lM oN tU tP H7 cL;generalize w6.alloc (.cells #[.int .i64 f1,.int .i64 f2] 38)=w7 at *;obtain ⟨g8,wO⟩:∃g8,g7+1=g8:=⟨_,rfl⟩;rw [wO] at H8⊢;have tW:=hid (show gt+1 < g8 by have:=fR.out;omega);clear wO;have aB:=zAc kI.out;have t0:=aB.1 0 _ rfl;have t1:=aB.1 1 _ rfl;have t2:=aB.1 2 _ rfl;have tf0:=aB.2 0;have tf1:=aB.2 1;have tf2:=aB.2 2;clear aB;have aB:=zAc lL.out;have u0:=aB.1 0 _ rfl;have u1:=aB.1 1 _ rfl;have uf0:=aB.2 0;have uf1:=aB.2 1;clear aB;have aB:=zAc H8.out;have v0:=aB.1 0 _ rfl;have v1:=aB.1 1 _ rfl;have vf0:=aB.2 0;have vf1:=aB.2 1;clear aB;have iX:=zBi kI.out H8.out (by decide);have ko:∀ (u:World) (o q:Nat) (v:Value),(u.setCell ⟨gt,o,none⟩ v).cell? ⟨g8,q,none⟩=u.cell? ⟨g8,q,none⟩:=fun u o q v=> World.cell?_setCell_other u _ _ v (fun e=> iX (congrArg Addr.block e))
      rcases zDk (f1,f2) with hz | ⟨_,hw⟩
      · exact absurd hz aK
      dsimp only at hw;rcases hw with q1 | ⟨q1,q0,q2⟩
      all_goals
       go_upto_region 14 with fail;go_region_with fail
       all_goals (go_wp2_with fail)
       all_goals (try simp only [Exit.inBlock,Exit.then])
       all_goals (refine bodyPost_ret (v:=.tuple #[.agg #[.float .f64 0,.slice none 0 0,.slice none 0 0],.agg #[.int .i64 f1,.int .i64 f2]]) ?_ rfl ⟨(zAw cJ.out (Nat.le_of_eq dZ.out)).drew,.inl ⟨by rw [HW.out],by rw [HW.out]⟩⟩)
       all_goals (rw [zAh rfl];go_simp;done)
    · rw [lC.out] at hs;obtain ⟨h1,h2⟩:=Prod.mk.inj hs;obtain ⟨h3,h4⟩:=Prod.mk.inj h2;subst h1 h3 h4;clear h2 hs;skip;obtain ⟨s,g,vR,vO,bj,M,ord,sg,q1,q2,q3,q4⟩:∃s g vR vO bj M ord sg,some (esK (szL l) (matK l om l.length) (szL l))=some s∧Value.pointer pw=.pointer (some ⟨g,0,none⟩)∧LwAt wo.heap.size w5 g vR vO bs.length bs.length bs.length bj M ord sg∧LwS bs.length s M ord sg:=by
       rcases lR.out with h | h
       · cases h
       · exact h
      obtain rfl:=Option.some.inj q1;obtain rfl:=(Value.pointer.inj q2);have HLW:=hid q3;have pM:=hid q4;have HSO:=hid (show∀i,i < bs.length→(esK (szL l) (matK l om l.length) (szL l)).ord i < bs.length by rw [HZ.out];exact es_ord _ (Nat.le_refl _));clear q1 q2 q3 q4 lR;obtain ⟨sx,hsx⟩:∃sx,zDh bs.length (esK (szL l) (matK l om l.length) (szL l)) (fun i=> ck (bs.getD i (0,0)))=sx:=⟨_,rfl⟩;have tS:=hid hsx;have HW0:=hid (show zCu (zBp p) l om (bs.map ck)=if sx.2=true then (some sx.1,(0,0)) else (none,(6,-1)) by
       rw [HWW.out,lC.out,HZ.out];simp only [getD_mck];rw [HZ.out] at hsx;rw [hsx])
      clear hsx;have lM:=hid (zAa ((Below.refl w5.heap.size w5).alloc (Nat.le_refl _) (.cells #[.int .i64 r0,.int .i64 r1,.slice am lm cm,.pointer (some ⟨g,0,none⟩)] 127)) nO.out);have oN:=hid (zAa ((Below.refl w5.heap.size w5).alloc (Nat.le_refl _) (.cells #[.int .i64 r0,.int .i64 r1,.slice am lm cm,.pointer (some ⟨g,0,none⟩)] 127)) oP.out);have tU:=hid (pJ.out.below' ((Below.refl w5.heap.size w5).alloc (Nat.le_refl _) (.cells #[.int .i64 r0,.int .i64 r1,.slice am lm cm,.pointer (some ⟨g,0,none⟩)] 127)));have tP:=hid (tQ.out.below ((Below.refl w5.heap.size w5).alloc (Nat.le_refl _) (.cells #[.int .i64 r0,.int .i64 r1,.slice am lm cm,.pointer (some ⟨g,0,none⟩)] 127)) (Nat.le_refl _));have HLW5:=hid (HLW.out.later ((Below.refl w5.heap.size w5).alloc (Nat.le_refl _) (.cells #[.int .i64 r0,.int .i64 r1,.slice am lm cm,.pointer (some ⟨g,0,none⟩)] 127)));have cL:=hid (zAd bI.out ((Below.refl w5.heap.size w5).alloc (Nat.le_refl _) (.cells #[.int .i64 r0,.int .i64 r1,.slice am lm cm,.pointer (some ⟨g,0,none⟩)] 127)));have fR:=hid (show gt+1 < w5.heap.size from (Array.getElem?_eq_some_iff.1 oP.out).1);have jY:=hid (show (w5.alloc (.cells #[.int .i64 r0,.int .i64 r1,.slice am lm cm,.pointer (some ⟨g,0,none⟩)] 127)).heap.size=w5.heap.size+1 by simp);have H7:=hid (heap_alloc_new w5 (.cells #[.int .i64 r0,.int .i64 r1,.slice am lm cm,.pointer (some ⟨g,0,none⟩)] 127));clear nO oP pJ tQ HLW bI;generalize w5.alloc (.cells #[.int .i64 r0,.int .i64 r1,.slice am lm cm,.pointer (some ⟨g,0,none⟩)] 127)=w6 at *;generalize w5.heap.size=g7 at *;have kI:=hid (zAa ((Below.refl w6.heap.size w6).alloc (Nat.le_refl _) (.cells #[.int .i64 0,.int .i64 0] 38)) lM.out);have lL:=hid (zAa ((Below.refl w6.heap.size w6).alloc (Nat.le_refl _) (.cells #[.int .i64 0,.int .i64 0] 38)) oN.out)
      have HP6:=hid (tU.out.below' ((Below.refl w6.heap.size w6).alloc (Nat.le_refl _) (.cells #[.int .i64 0,.int .i64 0] 38)));have zV:=hid (tP.out.below ((Below.refl w6.heap.size w6).alloc (Nat.le_refl _) (.cells #[.int .i64 0,.int .i64 0] 38)) (Nat.le_refl _));have pL:=hid (HLW5.out.later ((Below.refl w6.heap.size w6).alloc (Nat.le_refl _) (.cells #[.int .i64 0,.int .i64 0] 38)));have uD:=hid (zAa ((Below.refl w6.heap.size w6).alloc (Nat.le_refl _) (.cells #[.int .i64 0,.int .i64 0] 38)) H7.out);have cJ:=hid (zAd cL.out ((Below.refl w6.heap.size w6).alloc (Nat.le_refl _) (.cells #[.int .i64 0,.int .i64 0] 38)));have H8:=hid (heap_alloc_new w6 (.cells #[.int .i64 0,.int .i64 0] 38));rw [jY.out] at H8;clear lM oN tU tP HLW5 H7 cL;generalize w6.alloc (.cells #[.int .i64 0,.int .i64 0] 38)=w7 at *;obtain ⟨g8,wO⟩:∃g8,g7+1=g8:=⟨_,rfl⟩;rw [wO] at H8⊢;have tW:=hid (show gt+1 < g8 by have:=fR.out;omega);clear wO;have aB:=zAc H8.out;have v0:=aB.1 0 _ rfl;have v1:=aB.1 1 _ rfl;clear aB;have aB:=zAc uD.out;have x3:=aB.1 3 _ rfl;clear aB;go_upto_region 15 with fail;cases hsb:sx.2
      · have lE:=hid (show (zDh bs.length (esK (szL l) (matK l om l.length) (szL l)) fun i=> ck (bs.getD i (0,0))).2=false by rw [tS.out];exact hsb);have HW:=hid (show zCu (zBp p) l om (bs.map ck)=(none,(6,-1)) by rw [HW0.out,hsb];rfl);clear hsb;go_upto_region 17 with (go_at_call 70;refine (((solve_any _ bs.length g vR vO (.slice av bs.length cv) bj M ord sg _ bs _ pL.out pM.out uU.out HSO.out zV.out rfl lG.out).mono fun _ _ h=> h.no lE.out)).mono ?_;rintro e w8 ⟨rfl,hb⟩;have nA:=hid (zAa hb kI.out);have mZ:=hid (zAa hb lL.out);have HP7:=hid (HP6.out.below' hb);have vA:=hid (zV.out.below hb (Nat.le_refl _));have HLW7:=hid (pL.out.later hb);have H77:=hid (zAa hb uD.out);have H87:=hid (zAa hb H8.out);have cT:=hid (zAd cJ.out hb);clear hb);clear v0 v1 x3 kI lL HP6 zV pL uD H8 cJ;go_wp2_with (go_at_call 68;refine (pnone_any 6 _).mono ?_;rintro e wb ⟨rfl,hb⟩;have HT8:=hid (zAa hb nA.out);have HU8:=hid (zAa hb mZ.out);have HP8:=hid (HP7.out.below' hb);have HV8:=hid (vA.out.below hb (Nat.le_refl _));have HLW8:=hid (HLW7.out.later hb);have H78:=hid (zAa hb H77.out);have H88:=hid (zAa hb H87.out);have eE:=hid (zAd cT.out hb);rw [show noneS 6=.agg #[.int .i64 6,.int .i64 (-1)] from if_neg (by decide)];have aB:=zAc HT8.out;have tf0:=aB.2 0;have tf1:=aB.2 1;have tf2:=aB.2 2;have t0:=aB.1 0 _ rfl;have t1:=aB.1 1 _ rfl;have t2:=aB.1 2 _ rfl;clear aB;have aB:=zAc HU8.out;have uf0:=aB.2 0;have uf1:=aB.2 1;have u0:=aB.1 0 _ rfl;have u1:=aB.1 1 _ rfl;clear aB;clear hb)
        (try simp only [Exit.inBlock,Exit.then])
        (try rw [Exit.noGoto_ret])
        refine bodyPost_ret (v:=.tuple #[.agg #[.float .f64 0,.slice none 0 0,.slice none 0 0],.agg #[.int .i64 6,.int .i64 (-1)]]) ?_ rfl ⟨zAw eE.out (Nat.le_of_eq dZ.out),.inl ⟨by rw [HW.out],by rw [HW.out]⟩⟩;rw [zAh rfl];go_simp
      · have lE:=hid (show (zDh bs.length (esK (szL l) (matK l om l.length) (szL l)) fun i=> ck (bs.getD i (0,0))).2=true by rw [tS.out];exact hsb);have HW:=hid (show zCu (zBp p) l om (bs.map ck)=(some sx.1,(0,0)) by rw [HW0.out,hsb];rfl);clear hsb;go_upto_region 18 with (go_at_call 70;refine (((solve_any _ bs.length g vR vO (.slice av bs.length cv) bj M ord sg _ bs _ pL.out pM.out uU.out HSO.out zV.out rfl lG.out).mono fun _ _ h=> h.yes lE.out)).mono ?_;rintro e w8 ⟨q,rfl,hq,hvq,hb⟩;have nA:=hid (zAa hb kI.out);have mZ:=hid (zAa hb lL.out);have HP7:=hid (HP6.out.below' hb);have vA:=hid (zV.out.below hb (Nat.le_refl _));have HLW7:=hid (pL.out.later hb);have H77:=hid (zAa hb uD.out);have H87:=hid (zAa hb H8.out);have cT:=hid (zAd cJ.out hb);rw [tS.out] at hvq;have HVQ:=hid hvq;clear hvq hq;clear hb);clear v0 v1 x3 kI lL HP6 zV pL uD H8 cJ;go_wp2_with (go_at_call 71;refine (laid_any p l om q (nds l).length bs.length (brs l).length sx.1 _ HP7.out HG.out rfl (by rw [←HZ.out];rfl) uU.out HVQ.out).mono ?_;rintro e w9 ⟨q1,q2,rfl,hq1,hq2,aK,tA,wA,hb⟩;have HT8:=hid (zAa hb nA.out);have HU8:=hid (zAa hb mZ.out);have HP8:=hid (HP7.out.below' hb);have HV8:=hid (vA.out.below hb (Nat.le_refl _));have HLW8:=hid (HLW7.out.later hb);have H78:=hid (zAa hb H77.out);have H88:=hid (zAa hb H87.out);have eE:=hid (zAd cT.out hb);have gY:=hid (show w.heap.size≤q1∧w.heap.size≤q2∧gt+1 < q1∧gt+1 < q2 from by have h1:=cT.out.size;have h2:=(Array.getElem?_eq_some_iff.1 mZ.out).1;omega);have fW:=hid aK;have HV1q:=hid tA;have HV2q:=hid wA;clear hq1 hq2 aK tA wA;have aB:=zAc HT8.out;have tf0:=aB.2 0;have tf1:=aB.2 1;have tf2:=aB.2 2;have t0:=aB.1 0 _ rfl;have t1:=aB.1 1 _ rfl;have t2:=aB.1 2 _ rfl;clear aB;have aB:=zAc HU8.out;have uf0:=aB.2 0;have uf1:=aB.2 1;have u0:=aB.1 0 _ rfl;have u1:=aB.1 1 _ rfl;clear aB;clear hb)
        (try simp only [Exit.inBlock,Exit.then])
        refine bodyPost_ret (v:=.tuple #[.agg #[.float .f64 om,.slice (some ⟨q1,0,none⟩) (nds l).length (nds l).length,.slice (some ⟨q2,0,none⟩) (brs l).length (brs l).length],.agg #[.int .i64 0,.int .i64 0]]) ?_ rfl ⟨zAw eE.out (Nat.le_of_eq dZ.out),.inr ⟨sx.1,q1,q2,HW.out,rfl,gY.out.1,gY.out.2.1,fW.out,vec_five HV1q.out (by have:=gY.out;omega) (by have:=gY.out;omega),vec_five HV2q.out (by have:=gY.out;omega) (by have:=gY.out;omega)⟩⟩;rw [zAh rfl];go_simp
end
section
open FV
def DR:Ieee.Datum→Ieee.Datum→Prop
 | .nan _ _,.nan _ _=> True
 | .infinity s,.infinity t=> t=!s
 | .number s m i,.number t n j=> m=n∧i=j∧(t=(!s)∨m=0)
 | _,_=> False
theorem signed_opp (s:Bool) (m k:Nat):Ieee.signed (!s) m k=-Ieee.signed s m k:=by
 unfold Ieee.signed;cases s <;> simp
def isNum:Ieee.Datum→Bool
 | .number _ _ _=> true
 | _=> false
theorem ffin_num (x:Nat):ffin x=isNum (dbl.read x):=by
 cases hx:dbl.read x with
 | nan s t=>
  have h:ffin x=false:=by
   unfold ffin fsub fop floatBits;show (ford (((dbl.sub x x)).getD qnan) 0==some .eq)=false;unfold Ieee.Format.sub;rw [hx];exact (by decide+kernel:(ford qnan 0==some .eq)=false)
  rw [h];rfl
 | infinity s=>
  have h:ffin x=false:=by
   unfold ffin fsub fop floatBits;show (ford (((dbl.sub x x)).getD qnan) 0==some .eq)=false;unfold Ieee.Format.sub;rw [hx];simp only [Ieee.Datum.opposite,Ieee.Datum.sum];rw [if_neg (by cases s <;> simp)];exact (by decide+kernel:(ford qnan 0==some .eq)=false)
  rw [h];rfl
 | number s m i=>
  have h:ffin x=true:=by
   unfold ffin fsub fop floatBits;show (ford (((dbl.sub x x)).getD qnan) 0==some .eq)=true;unfold Ieee.Format.sub;rw [hx];simp only [Ieee.Datum.opposite,Ieee.Datum.sum,signed_opp];rw [show Ieee.signed s m (i - min i i).toNat+-Ieee.signed s m (i - min i i).toNat=0 by omega];rw [if_pos rfl];have h2:∀b:Bool,(ford (dbl.nearest b 0 (min i i)) 0==some .eq)=true:=by
    intro b;unfold Ieee.Format.nearest;rw [if_pos rfl];cases b <;> decide+kernel
   exact h2 _
  rw [h];rfl
theorem sw_pow:dbl.signWeight=9223372036854775808:=by decide
theorem read_eq (x:Nat):dbl.read x=if x % 2 ^ 63 < 2 ^ 52 then Ieee.Datum.number (sgn x) (x % 2 ^ 63) dbl.leastPlace else if x % 2 ^ 63 < dbl.infRung then Ieee.Datum.number (sgn x) (2 ^ 52+x % 2 ^ 63 % 2 ^ 52) (dbl.leastPlace+(x % 2 ^ 63 / 2 ^ 52 - 1:Nat)) else if x % 2 ^ 63=dbl.infRung then .infinity (sgn x) else .nan (sgn x) (x % 2 ^ 63 - dbl.infRung):=rfl
theorem bits_of {r z:Nat} (h:fc r=z) (hf:ffin z=true):r=z:=by
 by_cases hn:fnan r=true
 · rw [zCf hn] at h;rw [←h] at hf;exact absurd hf (by decide+kernel)
 · rw [zBv (by simpa using hn)] at h;exact h
end
end Go.Proofs.YtdepiggjneoopaaGreatDoor
