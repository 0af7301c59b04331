/- a part of the proof of the last text -/
import Derived.Test.YtaegmlhfecfgkaaGreatDoorZMPhNone
namespace Go.Proofs.YtaegmlhfecfgkaaGreatDoor
set_option linter.all false
set_option maxHeartbeats 4000000
set_option maxRecDepth 100000
open Go.RowKit
def RetSolP (om k m:Nat) (S:Option (Nat→Cx) × (Int × Int)) (w:World) (e:Ending) (w':World):Prop:=
 Below w.heap.size w w'∧((S.1=none∧e=.returned (.tuple #[.agg #[.float .f64 0,.slice none 0 0,.slice none 0 0],.agg #[.int .i64 S.2.1,.int .i64 S.2.2]]))∨
  (∃x q1 q2,S=(some x,(0,0))∧e=.returned (.tuple #[.agg #[.float .f64 om,.slice (some ⟨q1,0,none⟩) k k,.slice (some ⟨q2,0,none⟩) m m],.agg #[.int .i64 0,.int .i64 0]])∧w.heap.size≤q1∧w.heap.size≤q2∧q1≠q2∧VecR w' q1 k x∧VecR w' q2 m (fun i=> x (k+i))))
theorem below_five {B gt:Nat} {w u:World} {a0 a1 a2 b0 b1:Value} (h:Below B w u) (hg:B≤gt):Below B w (((((u.setCell ⟨gt,0,none⟩ a0).setCell ⟨gt,1,none⟩ a1).setCell ⟨gt,2,none⟩ a2).setCell ⟨gt+1,0,none⟩ b0).setCell ⟨gt+1,1,none⟩ b1):=
 (((((h.setCell (p:=⟨gt,0,none⟩) hg a0).setCell (p:=⟨gt,1,none⟩) hg a1).setCell (p:=⟨gt,2,none⟩) hg a2).setCell (p:=⟨gt+1,0,none⟩) (Nat.le_succ_of_le hg) b0).setCell (p:=⟨gt+1,1,none⟩) (Nat.le_succ_of_le hg) b1)
theorem vec_five {gt b n:Nat} {u:World} {r:Nat→Cx} {a0 a1 a2 b0 b1:Value} (h:VecR u b n r) (h1:b≠gt) (h2:b≠gt+1):VecR (((((u.setCell ⟨gt,0,none⟩ a0).setCell ⟨gt,1,none⟩ a1).setCell ⟨gt,2,none⟩ a2).setCell ⟨gt+1,0,none⟩ b0).setCell ⟨gt+1,1,none⟩ b1) b n r:=by
 obtain ⟨M,hM⟩:=h;exact ⟨M,(hM.grow (grown_trans (grown_trans (set1_grown u gt 0 _) (set1_grown _ gt 1 _)) (set1_grown _ gt 2 _)) h1).grow (grown_trans (set1_grown _ (gt+1) 0 _) (set1_grown _ (gt+1) 1 _)) h2⟩
theorem ask_b {b:Bool} {om:Nat} (h:askS b om=0):b=false:=by
 cases b
 · rfl
 · exact absurd h (by unfold askS;simp)
theorem es_ord {n:Nat} {m:Nat→Cx}:∀k,k≤n→∀i,i < n→(esK n m k).ord i < n
 | 0,_,i,hi=> hi
 | k+1,hk,i,hi=> by
  have ih:=es_ord (n:=n) (m:=m) k (by omega);show (stepE n (esK n m k) k).1.ord i < n;generalize esK n m k=s at *
  by_cases hc:(chooseS (colL n s.R k) k).2=0
  · obtain ⟨b,hb,hb1,hb2⟩:=choose_ok (k:=k) (c:=colL n s.R k) (by simp [colL];omega) hc;rw [stepE_ok hb];exact ih _ (swp_lt (by simp [colL] at hb2;omega) (by omega) hi)
  · unfold stepE;rw [if_pos hc];exact ih i hi
theorem RetSolve.no {n:Nat} {S:(Nat→Cx) × Bool} {w w':World} {e:Ending} (h:RetSolve n S w e w') (hs:S.2=false):e=.returned (.tuple #[.slice none 0 0,.int .i64 6])∧Below w.heap.size w w':=by
 rcases h.2 with ⟨h2,_⟩ | ⟨_,h2⟩
 · rw [hs] at h2;cases h2
 · exact ⟨h2,h.1⟩
theorem RetSolve.yes {n:Nat} {S:(Nat→Cx) × Bool} {w w':World} {e:Ending} (h:RetSolve n S w e w') (hs:S.2=true):∃q,e=.returned (.tuple #[.slice (some ⟨q,0,none⟩) n n,.int .i64 0])∧w.heap.size≤q∧VecR w' q n S.1∧Below w.heap.size w w':=by
 rcases h.2 with ⟨_,q,h2,h3,h4⟩ | ⟨h2,_⟩
 · exact ⟨q,h2,h3,h4,h.1⟩
 · rw [hs] at h2;cases h2
theorem getD_mck (bs:List Cx) (i:Nat):(bs.map ck).getD i (0,0)=ck (bs.getD i (0,0)):=by
 rw [List.getD_eq_getElem?_getD,List.getD_eq_getElem?_getD,List.getElem?_map];cases bs[i]?
 · rfl
 · rfl
theorem lowM_ways (n:Nat) (m:Nat→Cx):(∃f,lowM n m=(none,f)∧f≠ (0,0))∨lowM n m=(some (esK n m n),(0,0)):=by
 unfold lowM
 split
 · exact .inl ⟨_,rfl,by simp⟩
 · unfold lowE lowBad
   split
   · rename_i k h;have h2:=List.find?_some h;exact .inl ⟨_,rfl,fun e=> by rw [(Prod.mk.inj e).1] at h2;simp at h2⟩
   · exact .inr rfl
theorem work_ways (l:List El) (om:Nat):(∃f,workS l om=(none,f)∧f≠ (0,0))∨workS l om=(some (esK (szL l) (matK l om l.length) (szL l)),(0,0)):=by
 unfold workS
 by_cases h1:grdS false l=(0,0)
 · rw [if_neg (fun h=> h h1)]
   by_cases h2:(matS false l om).2=(0,0)
   · rw [if_neg (fun h=> h h2)];exact lowM_ways _ _
   · rw [if_pos h2];exact .inl ⟨_,rfl,h2⟩
 · rw [if_pos h1];exact .inl ⟨_,rfl,h1⟩
theorem with_work {b:Bool} {l:List El} {om:Nat} {r:List Cx} (ha:askS b om=0) (hl:r.length=szL l) (hf:r.all cfin=true):
 withS b l om r=match workS l om with
  | (none,f)=> (none,f)
  | (some s,_)=> if (solveE (szL l) s fun i=> r.getD i (0,0)).2=true then (some (solveE (szL l) s fun i=> r.getD i (0,0)).1,(0,0)) else (none,(6,-1)):=by
 unfold withS workS;rw [if_neg (fun h=> h ha),if_neg (fun h=> h hl),if_neg (by rw [hf];simp)]
 by_cases h1:grdS false l=(0,0)
 · have e1:¬(grdS false l≠ (0,0)):=fun h=> h h1
   by_cases h2:(matS false l om).2=(0,0)
   · have e2:¬((matS false l om).2≠ (0,0)):=fun h=> h h2
     rw [if_neg e1,if_neg e1,if_neg e2,if_neg e2];generalize lowM (szL l) (matK l om l.length)=q;obtain ⟨_ | s,f⟩:=q <;> rfl
   · rw [if_neg e1,if_neg e1,if_pos h2,if_pos h2]
 · rw [if_pos h1,if_pos h1]
theorem with_any (p v:Value) (l:List El) (om:Nat) (bs:List Cx) (w:World) (hp:NN w p l) (hg:NetG l) (hv:IsSl w 1 v bs.length (bs.map mkC)) (hbl:bs.length * 16≤140737488351232):
 Calls Tryz.prog 24 #[p,.float .f64 om,v] w (RetSolP om (nds l).length (brs l).length (withS (noNet p) l om (bs.map ck)) w):=by
 obtain ⟨av,cv,rfl⟩:=hv.form;obtain ⟨i0,hi,hz0,hz1,hz2⟩:=info_parts infoC;obtain ⟨t1,t2,t3⟩:=two_blocks w (.cells #[.float .f64 0,.slice none 0 0,.slice none 0 0] 35) (.cells #[.int .i64 0,.int .i64 0] 38);have HT:=hid t1;have HU:=hid t2;have HBO:=hid t3;have HP:=hid (hp.below t3 (Nat.le_refl _));have HV:=hid (hv.below t3 (Nat.le_refl _));have HG:=hid hg;have HBL:=hid hbl;clear hp hv hg hbl t1 t2 t3;go_enter Tryz.func24,Tryz.ntmps24;go_upto_region 1 with fail;generalize (w.alloc (.cells #[.float .f64 0,.slice none 0 0,.slice none 0 0] 35)).alloc (.cells #[.int .i64 0,.int .i64 0] 38)=w1 at *;obtain ⟨gt,hgt⟩:∃gt,w.heap.size=gt:=⟨_,rfl⟩;rw [hgt] at HT HU⊢;have HGT:=hid hgt;clear hgt;obtain ⟨ak,has⟩:∃a,askS (noNet p) om=a:=⟨_,rfl⟩;have HA:=hid has;clear has;go_upto_region 2 with (go_at_call 19;refine (asked_any p l om _ HP.out HG.out.nm).mono ?_;rintro e w2 ⟨rfl,hb⟩;have HT1:=hid (heap_later2 hb HT.out);have HU1:=hid (heap_later2 hb HU.out);have HP1:=hid (HP.out.below' hb);have HV1:=hid (HV.out.below hb (Nat.le_refl _));have HB1:=hid (below_next HBO.out hb);rw [HA.out];clear hb);clear HT HU HP HV HBO
 by_cases h0:ak=0
 rotate_left
 · have HW:=hid (show withS (noNet p) l om (bs.map ck)=(none,(ak,-1)) by unfold withS;rw [HA.out,if_pos h0];unfold plain;rw [if_neg h0]);have hb0:(ak==0)=false:=by simpa using h0
   have hb1:(ak !=0)=true:=by simpa using h0
   go_wp2_with (go_at_call 20;refine (pnone_any ak _).mono ?_;rintro e wb ⟨rfl,hb⟩;have HT2:=hid (heap_later2 hb HT1.out);have HU2:=hid (heap_later2 hb HU1.out);have HP2:=hid (HP1.out.below' hb);have HV2:=hid (HV1.out.below hb (Nat.le_refl _));have HB2:=hid (below_next HB1.out hb);rw [show noneS ak=.agg #[.int .i64 ak,.int .i64 (-1)] from if_neg h0];have hbk:=block_cells HT2.out;have tf0:=hbk.2 0;have tf1:=hbk.2 1;have tf2:=hbk.2 2;have t0:=hbk.1 0 _ rfl;have t1:=hbk.1 1 _ rfl;have t2:=hbk.1 2 _ rfl;clear hbk;have hbk:=block_cells HU2.out;have uf0:=hbk.2 0;have uf1:=hbk.2 1;have u0:=hbk.1 0 _ rfl;have u1:=hbk.1 1 _ rfl;clear hbk;clear hb)
   (try simp only [Exit.inBlock,Exit.then])
   (try rw [Exit.noGoto_ret])
   refine bodyPost_ret (v:=.tuple #[.agg #[.float .f64 0,.slice none 0 0,.slice none 0 0],.agg #[.int .i64 ak,.int .i64 (-1)]]) ?_ rfl ⟨below_five HB2.out (Nat.le_of_eq HGT.out),.inl ⟨by rw [HW.out],by rw [HW.out]⟩⟩;rw [results_cell_cellM rfl];go_simp
 subst h0;have HQ:=hid (ask_b HA.out);obtain ⟨z,hz⟩:∃z,szL l=z:=⟨_,rfl⟩;have HZ:=hid hz;have HZK:=hid (show ((nds l).length:Int)+((brs l).length:Int)=(z:Int) by rw [←hz];unfold szL;omega);have HZ64:=hid (show z≤64 by rw [←hz];exact HG.out.sz);clear hz
 by_cases hl:bs.length=z
 rotate_left
 · have HW:=hid (show withS (noNet p) l om (bs.map ck)=(none,(4,-1)) by unfold withS;rw [HA.out,if_neg (fun h=> h rfl),HZ.out,List.length_map,if_pos hl]);have hb0:((bs.length:Int)==(z:Int))=false:=by simp;omega
   have hb1:((bs.length:Int) !=(z:Int))=true:=by simp;omega
   go_upto_region 4 with fail;go_upto_region 5 with (go_at_call 27;refine (norder_any p l _ HP1.out (by have:=HG.out.len;omega)).mono ?_;rintro e w3 ⟨rfl,hb⟩;have HT2:=hid (heap_later2 hb HT1.out);have HU2:=hid (heap_later2 hb HU1.out);have HP2:=hid (HP1.out.below' hb);have HV2:=hid (HV1.out.below hb (Nat.le_refl _));have HB2:=hid (below_next HB1.out hb);rw [HZK.out];clear hb);clear HT1 HU1 HP1 HV1 HB1
   go_wp2_with (go_at_call 20;refine (pnone_any 4 _).mono ?_;rintro e wb ⟨rfl,hb⟩;have HT3:=hid (heap_later2 hb HT2.out);have HU3:=hid (heap_later2 hb HU2.out);have HP3:=hid (HP2.out.below' hb);have HV3:=hid (HV2.out.below hb (Nat.le_refl _));have HB3:=hid (below_next HB2.out hb);rw [show noneS 4=.agg #[.int .i64 4,.int .i64 (-1)] from if_neg (by decide)];have hbk:=block_cells HT3.out;have tf0:=hbk.2 0;have tf1:=hbk.2 1;have tf2:=hbk.2 2;have t0:=hbk.1 0 _ rfl;have t1:=hbk.1 1 _ rfl;have t2:=hbk.1 2 _ rfl;clear hbk;have hbk:=block_cells HU3.out;have uf0:=hbk.2 0;have uf1:=hbk.2 1;have u0:=hbk.1 0 _ rfl;have u1:=hbk.1 1 _ rfl;clear hbk;clear hb)
   (try simp only [Exit.inBlock,Exit.then])
   (try rw [Exit.noGoto_ret])
   refine bodyPost_ret (v:=.tuple #[.agg #[.float .f64 0,.slice none 0 0,.slice none 0 0],.agg #[.int .i64 4,.int .i64 (-1)]]) ?_ rfl ⟨below_five HB3.out (Nat.le_of_eq HGT.out),.inl ⟨by rw [HW.out],by rw [HW.out]⟩⟩;rw [results_cell_cellM rfl];go_simp
 subst hl;go_upto_region 4 with fail;go_upto_region 6 with (go_at_call 27;refine (norder_any p l _ HP1.out (by have:=HG.out.len;omega)).mono ?_;rintro e w3 ⟨rfl,hb⟩;have HT2:=hid (heap_later2 hb HT1.out);have HU2:=hid (heap_later2 hb HU1.out);have HP2:=hid (HP1.out.below' hb);have HV2:=hid (HV1.out.below hb (Nat.le_refl _));have HB2:=hid (below_next HB1.out hb);rw [HZK.out];clear hb);clear HT1 HU1 HP1 HV1 HB1;go_wp2_with fail
 go_loopw [32] (fun i wr=> ∃k:Nat,k≤bs.length∧i=.int .i64 k∧((bs.take k).map ck).all cfin=true∧Below w3.heap.size w3 wr) (fun i _=> bs.length - (intOf i).toNat)
 case atStart=> exact ⟨0,Nat.zero_le _,rfl,rfl,Below.refl _ _⟩
 case round=>
  obtain ⟨k,hk,rfl,hall,hb⟩:=hrel;obtain ⟨wo,rfl⟩:∃wo:World,wo=wr:=⟨_,rfl⟩;have HW3:=hid hb;have HAL:=hid hall;have hbnd:=HZ64.out;have HT3:=hid (heap_later2 hb HT2.out);have HU3:=hid (heap_later2 hb HU2.out);have HP3:=hid (HP2.out.below' hb);have HV3:=hid (HV2.out.below hb (Nat.le_refl _));have HB3:=hid (below_next HB2.out hb);clear hall hb HT2 HU2 HP2 HV2 HB2
  by_cases hlt:k < bs.length
  · obtain ⟨g,o,x0,hidx,hg,hc,hx0⟩:=IsSl.at1 Tryz.underlying33 hi hz1 HV3.out hlt;obtain ⟨x,hx,rfl⟩:=map_getElem? hx0;have HX:=hid hx;unfold mkC at hc;clear hx hx0;cases hf:cfin (fc x.1,fc x.2)
    · have HF:=hid hf;have HW:=hid (show withS (noNet p) l om (bs.map ck)=(none,(5,-1)) by
       unfold withS;rw [HA.out,if_neg (fun h=> h rfl),HZ.out,List.length_map,if_neg (fun h=> h rfl),if_pos];cases hq:(bs.map ck).all cfin
       · rfl
       · rw [List.all_eq_true] at hq;have h2:=hq (ck x) (List.mem_map.2 ⟨x,List.mem_of_getElem? HX.out,rfl⟩);rw [show cfin (ck x)=false from HF.out] at h2;cases h2)
      clear hf;go_upto_region 10 with (go_at_call 47;refine (pfin_b _ _ _).mono ?_;rintro e w4 ⟨rfl,hb⟩;have HT4:=hid (heap_later2 hb HT3.out);have HU4:=hid (heap_later2 hb HU3.out);have HP4:=hid (HP3.out.below' hb);have HV4:=hid (HV3.out.below hb (Nat.le_refl _));have HB4:=hid (below_next HB3.out hb);rw [HF.out];clear hb);clear HT3 HU3 HP3 HV3 HB3;go_wp2_with (go_at_call 20;refine (pnone_any 5 _).mono ?_;rintro e wb ⟨rfl,hb⟩;have HT5:=hid (heap_later2 hb HT4.out);have HU5:=hid (heap_later2 hb HU4.out);have HP5:=hid (HP4.out.below' hb);have HV5:=hid (HV4.out.below hb (Nat.le_refl _));have HB5:=hid (below_next HB4.out hb);rw [show noneS 5=.agg #[.int .i64 5,.int .i64 (-1)] from if_neg (by decide)];have hbk:=block_cells HT5.out;have tf0:=hbk.2 0;have tf1:=hbk.2 1;have tf2:=hbk.2 2;have t0:=hbk.1 0 _ rfl;have t1:=hbk.1 1 _ rfl;have t2:=hbk.1 2 _ rfl;clear hbk;have hbk:=block_cells HU5.out;have uf0:=hbk.2 0;have uf1:=hbk.2 1;have u0:=hbk.1 0 _ rfl;have u1:=hbk.1 1 _ rfl;clear hbk;clear hb)
      (try simp only [Exit.inBlock,Exit.then])
      (try rw [Exit.noGoto_ret])
      refine bodyPost_ret (v:=.tuple #[.agg #[.float .f64 0,.slice none 0 0,.slice none 0 0],.agg #[.int .i64 5,.int .i64 (-1)]]) ?_ rfl ⟨below_five HB5.out (Nat.le_of_eq HGT.out),.inl ⟨by rw [HW.out],by rw [HW.out]⟩⟩;rw [results_cell_cellM rfl];go_simp
    · have HF:=hid hf;clear hf;go_wp2_with (go_at_call 47;refine (pfin_b _ _ _).mono ?_;rintro e w2 ⟨rfl,hb2⟩;rw [HF.out]);go_roundw
      case rel=>
       refine ⟨k+1,by omega,by go_num,?_,below_step HW3.out (by assumption)⟩;rw [take_succ_map ck bs k x HX.out,List.all_append,HAL.out];simp only [List.all_cons,List.all_nil,Bool.and_true,Bool.true_and];exact HF.out
      case measure=> simp [intOf];omega
  · obtain rfl:k=bs.length:=by omega
    have HFN:=hid (show (bs.map ck).all cfin=true by have:=HAL.out;rwa [List.take_length] at this);have HWW:=hid (with_work (l:=l) HA.out (by rw [List.length_map,HZ.out]) HFN.out);obtain ⟨So,f1,f2,hws⟩:∃So f1 f2,workS l om=(So,(f1,f2)):=⟨_,_,_,rfl⟩;have HWS:=hid hws;clear hws hk hlt hbnd;clear HAL HW3;go_upto_region 13 with (go_at_call 51;refine (work_any p l om _ HP3.out HQ.out HG.out).mono ?_;rintro e w5 ⟨r0,r1,am,lm,cm,pw,hpe,hb,hcs⟩;have HT4:=hid (heap_later2 hb HT3.out);have HU4:=hid (heap_later2 hb HU3.out);have HP4:=hid (HP3.out.below' hb);have HV4:=hid (HV3.out.below hb (Nat.le_refl _));have HB4:=hid (below_next HB3.out hb);rw [HWS.out] at hpe hcs;rw [HZ.out] at hcs;dsimp only at hpe hcs;subst hpe;have HCS:=hid hcs;clear hcs;clear hb);clear HT3 HU3 HP3 HV3 HB3;rcases work_ways l om with ⟨f,hf,hne⟩ | hs
    · rw [HWS.out] at hf;obtain ⟨h1,h2⟩:=Prod.mk.inj hf;subst h1 h2;have HW:=hid (show withS (noNet p) l om (bs.map ck)=(none,(f1,f2)) by rw [HWW.out,HWS.out]);clear hf HCS;have HT5:=hid (heap_later2 ((Below.refl w5.heap.size w5).alloc (Nat.le_refl _) (.cells #[.int .i64 r0,.int .i64 r1,.slice am lm cm,.pointer pw] 106)) HT4.out);have HU5:=hid (heap_later2 ((Below.refl w5.heap.size w5).alloc (Nat.le_refl _) (.cells #[.int .i64 r0,.int .i64 r1,.slice am lm cm,.pointer pw] 106)) HU4.out);have HP5:=hid (HP4.out.below' ((Below.refl w5.heap.size w5).alloc (Nat.le_refl _) (.cells #[.int .i64 r0,.int .i64 r1,.slice am lm cm,.pointer pw] 106)));have HV5:=hid (HV4.out.below ((Below.refl w5.heap.size w5).alloc (Nat.le_refl _) (.cells #[.int .i64 r0,.int .i64 r1,.slice am lm cm,.pointer pw] 106)) (Nat.le_refl _));have HB5:=hid (below_next HB4.out ((Below.refl w5.heap.size w5).alloc (Nat.le_refl _) (.cells #[.int .i64 r0,.int .i64 r1,.slice am lm cm,.pointer pw] 106)));have HNE:=hid (show gt+1 < w5.heap.size from (Array.getElem?_eq_some_iff.1 HU4.out).1);have HZ5:=hid (show (w5.alloc (.cells #[.int .i64 r0,.int .i64 r1,.slice am lm cm,.pointer pw] 106)).heap.size=w5.heap.size+1 by simp);have H7:=hid (heap_alloc_new w5 (.cells #[.int .i64 r0,.int .i64 r1,.slice am lm cm,.pointer pw] 106));clear HT4 HU4 HP4 HV4 HB4;generalize w5.alloc (.cells #[.int .i64 r0,.int .i64 r1,.slice am lm cm,.pointer pw] 106)=w6 at *;generalize w5.heap.size=g7 at *;have HT6:=hid (heap_later2 ((Below.refl w6.heap.size w6).alloc (Nat.le_refl _) (.cells #[.int .i64 f1,.int .i64 f2] 38)) HT5.out);have HU6:=hid (heap_later2 ((Below.refl w6.heap.size w6).alloc (Nat.le_refl _) (.cells #[.int .i64 f1,.int .i64 f2] 38)) HU5.out)
      have HP6:=hid (HP5.out.below' ((Below.refl w6.heap.size w6).alloc (Nat.le_refl _) (.cells #[.int .i64 f1,.int .i64 f2] 38)));have HV6:=hid (HV5.out.below ((Below.refl w6.heap.size w6).alloc (Nat.le_refl _) (.cells #[.int .i64 f1,.int .i64 f2] 38)) (Nat.le_refl _));have H76:=hid (heap_later2 ((Below.refl w6.heap.size w6).alloc (Nat.le_refl _) (.cells #[.int .i64 f1,.int .i64 f2] 38)) H7.out);have HB6:=hid (below_next HB5.out ((Below.refl w6.heap.size w6).alloc (Nat.le_refl _) (.cells #[.int .i64 f1,.int .i64 f2] 38)));have H8:=hid (heap_alloc_new w6 (.cells #[.int .i64 f1,.int .i64 f2] 38));rw [HZ5.out] at H8;clear HT5 HU5 HP5 HV5 H7 HB5;generalize w6.alloc (.cells #[.int .i64 f1,.int .i64 f2] 38)=w7 at *;obtain ⟨g8,hg8⟩:∃g8,g7+1=g8:=⟨_,rfl⟩;rw [hg8] at H8⊢;have HN8:=hid (show gt+1 < g8 by have:=HNE.out;omega);clear hg8;have hbk:=block_cells HT6.out;have t0:=hbk.1 0 _ rfl;have t1:=hbk.1 1 _ rfl;have t2:=hbk.1 2 _ rfl;have tf0:=hbk.2 0;have tf1:=hbk.2 1;have tf2:=hbk.2 2;clear hbk;have hbk:=block_cells HU6.out;have u0:=hbk.1 0 _ rfl;have u1:=hbk.1 1 _ rfl;have uf0:=hbk.2 0;have uf1:=hbk.2 1;clear hbk;have hbk:=block_cells H8.out;have v0:=hbk.1 0 _ rfl;have v1:=hbk.1 1 _ rfl;have vf0:=hbk.2 0;have vf1:=hbk.2 1;clear hbk;have hgne:=typ_ne HT6.out H8.out (by decide);have ko:∀ (u:World) (o q:Nat) (v:Value),(u.setCell ⟨gt,o,none⟩ v).cell? ⟨g8,q,none⟩=u.cell? ⟨g8,q,none⟩:=fun u o q v=> World.cell?_setCell_other u _ _ v (fun e=> hgne (congrArg Addr.block e))
      rcases fault_ways (f1,f2) with hz | ⟨_,hw⟩
      · exact absurd hz hne
      dsimp only at hw;rcases hw with q1 | ⟨q1,q0,q2⟩
      all_goals
       go_upto_region 14 with fail;go_region_with fail
       all_goals (go_wp2_with fail)
       all_goals (try simp only [Exit.inBlock,Exit.then])
       all_goals (refine bodyPost_ret (v:=.tuple #[.agg #[.float .f64 0,.slice none 0 0,.slice none 0 0],.agg #[.int .i64 f1,.int .i64 f2]]) ?_ rfl ⟨(below_five HB6.out (Nat.le_of_eq HGT.out)).drew,.inl ⟨by rw [HW.out],by rw [HW.out]⟩⟩)
       all_goals (rw [results_cell_cellM rfl];go_simp;done)
    · rw [HWS.out] at hs;obtain ⟨h1,h2⟩:=Prod.mk.inj hs;obtain ⟨h3,h4⟩:=Prod.mk.inj h2;subst h1 h3 h4;clear h2 hs;skip;obtain ⟨s,g,vR,vO,bj,M,ord,sg,q1,q2,q3,q4⟩:∃s g vR vO bj M ord sg,some (esK (szL l) (matK l om l.length) (szL l))=some s∧Value.pointer pw=.pointer (some ⟨g,0,none⟩)∧LwAt wo.heap.size w5 g vR vO bs.length bs.length bs.length bj M ord sg∧LwS bs.length s M ord sg:=by
       rcases HCS.out with h | h
       · cases h
       · exact h
      obtain rfl:=Option.some.inj q1;obtain rfl:=(Value.pointer.inj q2);have HLW:=hid q3;have HLS:=hid q4;have HSO:=hid (show∀i,i < bs.length→(esK (szL l) (matK l om l.length) (szL l)).ord i < bs.length by rw [HZ.out];exact es_ord _ (Nat.le_refl _));clear q1 q2 q3 q4 HCS;obtain ⟨sx,hsx⟩:∃sx,solveE bs.length (esK (szL l) (matK l om l.length) (szL l)) (fun i=> ck (bs.getD i (0,0)))=sx:=⟨_,rfl⟩;have HSX:=hid hsx;have HW0:=hid (show withS (noNet p) l om (bs.map ck)=if sx.2=true then (some sx.1,(0,0)) else (none,(6,-1)) by
       rw [HWW.out,HWS.out,HZ.out];simp only [getD_mck];rw [HZ.out] at hsx;rw [hsx])
      clear hsx;have HT5:=hid (heap_later2 ((Below.refl w5.heap.size w5).alloc (Nat.le_refl _) (.cells #[.int .i64 r0,.int .i64 r1,.slice am lm cm,.pointer (some ⟨g,0,none⟩)] 106)) HT4.out);have HU5:=hid (heap_later2 ((Below.refl w5.heap.size w5).alloc (Nat.le_refl _) (.cells #[.int .i64 r0,.int .i64 r1,.slice am lm cm,.pointer (some ⟨g,0,none⟩)] 106)) HU4.out);have HP5:=hid (HP4.out.below' ((Below.refl w5.heap.size w5).alloc (Nat.le_refl _) (.cells #[.int .i64 r0,.int .i64 r1,.slice am lm cm,.pointer (some ⟨g,0,none⟩)] 106)));have HV5:=hid (HV4.out.below ((Below.refl w5.heap.size w5).alloc (Nat.le_refl _) (.cells #[.int .i64 r0,.int .i64 r1,.slice am lm cm,.pointer (some ⟨g,0,none⟩)] 106)) (Nat.le_refl _));have HLW5:=hid (HLW.out.later ((Below.refl w5.heap.size w5).alloc (Nat.le_refl _) (.cells #[.int .i64 r0,.int .i64 r1,.slice am lm cm,.pointer (some ⟨g,0,none⟩)] 106)));have HB5:=hid (below_next HB4.out ((Below.refl w5.heap.size w5).alloc (Nat.le_refl _) (.cells #[.int .i64 r0,.int .i64 r1,.slice am lm cm,.pointer (some ⟨g,0,none⟩)] 106)));have HNE:=hid (show gt+1 < w5.heap.size from (Array.getElem?_eq_some_iff.1 HU4.out).1);have HZ5:=hid (show (w5.alloc (.cells #[.int .i64 r0,.int .i64 r1,.slice am lm cm,.pointer (some ⟨g,0,none⟩)] 106)).heap.size=w5.heap.size+1 by simp);have H7:=hid (heap_alloc_new w5 (.cells #[.int .i64 r0,.int .i64 r1,.slice am lm cm,.pointer (some ⟨g,0,none⟩)] 106));clear HT4 HU4 HP4 HV4 HLW HB4;generalize w5.alloc (.cells #[.int .i64 r0,.int .i64 r1,.slice am lm cm,.pointer (some ⟨g,0,none⟩)] 106)=w6 at *;generalize w5.heap.size=g7 at *;have HT6:=hid (heap_later2 ((Below.refl w6.heap.size w6).alloc (Nat.le_refl _) (.cells #[.int .i64 0,.int .i64 0] 38)) HT5.out)
      have HU6:=hid (heap_later2 ((Below.refl w6.heap.size w6).alloc (Nat.le_refl _) (.cells #[.int .i64 0,.int .i64 0] 38)) HU5.out);have HP6:=hid (HP5.out.below' ((Below.refl w6.heap.size w6).alloc (Nat.le_refl _) (.cells #[.int .i64 0,.int .i64 0] 38)));have HV6:=hid (HV5.out.below ((Below.refl w6.heap.size w6).alloc (Nat.le_refl _) (.cells #[.int .i64 0,.int .i64 0] 38)) (Nat.le_refl _));have HLW6:=hid (HLW5.out.later ((Below.refl w6.heap.size w6).alloc (Nat.le_refl _) (.cells #[.int .i64 0,.int .i64 0] 38)));have H76:=hid (heap_later2 ((Below.refl w6.heap.size w6).alloc (Nat.le_refl _) (.cells #[.int .i64 0,.int .i64 0] 38)) H7.out);have HB6:=hid (below_next HB5.out ((Below.refl w6.heap.size w6).alloc (Nat.le_refl _) (.cells #[.int .i64 0,.int .i64 0] 38)));have H8:=hid (heap_alloc_new w6 (.cells #[.int .i64 0,.int .i64 0] 38));rw [HZ5.out] at H8;clear HT5 HU5 HP5 HV5 HLW5 H7 HB5;generalize w6.alloc (.cells #[.int .i64 0,.int .i64 0] 38)=w7 at *;obtain ⟨g8,hg8⟩:∃g8,g7+1=g8:=⟨_,rfl⟩;rw [hg8] at H8⊢;have HN8:=hid (show gt+1 < g8 by have:=HNE.out;omega);clear hg8;have hbk:=block_cells H8.out;have v0:=hbk.1 0 _ rfl;have v1:=hbk.1 1 _ rfl;clear hbk;have hbk:=block_cells H76.out;have x3:=hbk.1 3 _ rfl;clear hbk;go_upto_region 15 with fail;cases hsb:sx.2
      · have HSB:=hid (show (solveE bs.length (esK (szL l) (matK l om l.length) (szL l)) fun i=> ck (bs.getD i (0,0))).2=false by rw [HSX.out];exact hsb);have HW:=hid (show withS (noNet p) l om (bs.map ck)=(none,(6,-1)) by rw [HW0.out,hsb];rfl);clear hsb;go_upto_region 17 with (go_at_call 52;refine (((solve_any _ bs.length g vR vO (.slice av bs.length cv) bj M ord sg _ bs _ HLW6.out HLS.out HZ64.out HSO.out HV6.out rfl HFN.out).mono fun _ _ h=> h.no HSB.out)).mono ?_;rintro e w8 ⟨rfl,hb⟩;have HT7:=hid (heap_later2 hb HT6.out);have HU7:=hid (heap_later2 hb HU6.out);have HP7:=hid (HP6.out.below' hb);have HV7:=hid (HV6.out.below hb (Nat.le_refl _));have HLW7:=hid (HLW6.out.later hb);have H77:=hid (heap_later2 hb H76.out);have H87:=hid (heap_later2 hb H8.out);have HB7:=hid (below_next HB6.out hb);clear hb);clear v0 v1 x3 HT6 HU6 HP6 HV6 HLW6 H76 H8 HB6;go_wp2_with (go_at_call 20;refine (pnone_any 6 _).mono ?_;rintro e wb ⟨rfl,hb⟩;have HT8:=hid (heap_later2 hb HT7.out);have HU8:=hid (heap_later2 hb HU7.out);have HP8:=hid (HP7.out.below' hb);have HV8:=hid (HV7.out.below hb (Nat.le_refl _));have HLW8:=hid (HLW7.out.later hb);have H78:=hid (heap_later2 hb H77.out);have H88:=hid (heap_later2 hb H87.out);have HB8:=hid (below_next HB7.out hb);rw [show noneS 6=.agg #[.int .i64 6,.int .i64 (-1)] from if_neg (by decide)];have hbk:=block_cells HT8.out;have tf0:=hbk.2 0;have tf1:=hbk.2 1;have tf2:=hbk.2 2;have t0:=hbk.1 0 _ rfl;have t1:=hbk.1 1 _ rfl;have t2:=hbk.1 2 _ rfl;clear hbk;have hbk:=block_cells HU8.out;have uf0:=hbk.2 0;have uf1:=hbk.2 1;have u0:=hbk.1 0 _ rfl;have u1:=hbk.1 1 _ rfl;clear hbk;clear hb)
        (try simp only [Exit.inBlock,Exit.then])
        (try rw [Exit.noGoto_ret])
        refine bodyPost_ret (v:=.tuple #[.agg #[.float .f64 0,.slice none 0 0,.slice none 0 0],.agg #[.int .i64 6,.int .i64 (-1)]]) ?_ rfl ⟨below_five HB8.out (Nat.le_of_eq HGT.out),.inl ⟨by rw [HW.out],by rw [HW.out]⟩⟩;rw [results_cell_cellM rfl];go_simp
      · have HSB:=hid (show (solveE bs.length (esK (szL l) (matK l om l.length) (szL l)) fun i=> ck (bs.getD i (0,0))).2=true by rw [HSX.out];exact hsb);have HW:=hid (show withS (noNet p) l om (bs.map ck)=(some sx.1,(0,0)) by rw [HW0.out,hsb];rfl);clear hsb;go_upto_region 18 with (go_at_call 52;refine (((solve_any _ bs.length g vR vO (.slice av bs.length cv) bj M ord sg _ bs _ HLW6.out HLS.out HZ64.out HSO.out HV6.out rfl HFN.out).mono fun _ _ h=> h.yes HSB.out)).mono ?_;rintro e w8 ⟨q,rfl,hq,hvq,hb⟩;have HT7:=hid (heap_later2 hb HT6.out);have HU7:=hid (heap_later2 hb HU6.out);have HP7:=hid (HP6.out.below' hb);have HV7:=hid (HV6.out.below hb (Nat.le_refl _));have HLW7:=hid (HLW6.out.later hb);have H77:=hid (heap_later2 hb H76.out);have H87:=hid (heap_later2 hb H8.out);have HB7:=hid (below_next HB6.out hb);rw [HSX.out] at hvq;have HVQ:=hid hvq;clear hvq hq;clear hb);clear v0 v1 x3 HT6 HU6 HP6 HV6 HLW6 H76 H8 HB6;go_wp2_with (go_at_call 53;refine (laid_any p l om q (nds l).length bs.length (brs l).length sx.1 _ HP7.out HG.out rfl (by rw [←HZ.out];rfl) HZ64.out HVQ.out).mono ?_;rintro e w9 ⟨q1,q2,rfl,hq1,hq2,hne,hv1,hv2,hb⟩;have HT8:=hid (heap_later2 hb HT7.out);have HU8:=hid (heap_later2 hb HU7.out);have HP8:=hid (HP7.out.below' hb);have HV8:=hid (HV7.out.below hb (Nat.le_refl _));have HLW8:=hid (HLW7.out.later hb);have H78:=hid (heap_later2 hb H77.out);have H88:=hid (heap_later2 hb H87.out);have HB8:=hid (below_next HB7.out hb);have HLT:=hid (show w.heap.size≤q1∧w.heap.size≤q2∧gt+1 < q1∧gt+1 < q2 from by have h1:=HB7.out.size;have h2:=(Array.getElem?_eq_some_iff.1 HU7.out).1;omega);have HQN:=hid hne;have HV1q:=hid hv1;have HV2q:=hid hv2;clear hq1 hq2 hne hv1 hv2;have hbk:=block_cells HT8.out;have tf0:=hbk.2 0;have tf1:=hbk.2 1;have tf2:=hbk.2 2;have t0:=hbk.1 0 _ rfl;have t1:=hbk.1 1 _ rfl;have t2:=hbk.1 2 _ rfl;clear hbk;have hbk:=block_cells HU8.out;have uf0:=hbk.2 0;have uf1:=hbk.2 1;have u0:=hbk.1 0 _ rfl;have u1:=hbk.1 1 _ rfl;clear hbk;clear hb)
        (try simp only [Exit.inBlock,Exit.then])
        refine bodyPost_ret (v:=.tuple #[.agg #[.float .f64 om,.slice (some ⟨q1,0,none⟩) (nds l).length (nds l).length,.slice (some ⟨q2,0,none⟩) (brs l).length (brs l).length],.agg #[.int .i64 0,.int .i64 0]]) ?_ rfl ⟨below_five HB8.out (Nat.le_of_eq HGT.out),.inr ⟨sx.1,q1,q2,HW.out,rfl,HLT.out.1,HLT.out.2.1,HQN.out,vec_five HV1q.out (by have:=HLT.out;omega) (by have:=HLT.out;omega),vec_five HV2q.out (by have:=HLT.out;omega) (by have:=HLT.out;omega)⟩⟩;rw [results_cell_cellM rfl];go_simp
end Go.Proofs.YtaegmlhfecfgkaaGreatDoor
