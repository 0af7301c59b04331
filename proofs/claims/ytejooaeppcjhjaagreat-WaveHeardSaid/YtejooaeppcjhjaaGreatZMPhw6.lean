/- a part of the proof of the last text -/
import Derived.Test.YtejooaeppcjhjaaGreatZPhw4
namespace Go.Proofs.YtejooaeppcjhjaaGreat
set_option linter.all false
set_option maxHeartbeats 4000000
set_option maxRecDepth 100000
section
open Go.RowKit
theorem zGp.no {om k m:Nat} {S:Option (Nat→Cx) × (Int × Int)} {w w':World} {e:Ending} (h:zGp om k m S w e w') (hs:S.1=none):e=.returned (.tuple #[.agg #[.float .f64 0,.slice none 0 0,.slice none 0 0],.agg #[.int .i64 S.2.1,.int .i64 S.2.2]])∧Below w.heap.size w w':=by
 rcases h.2 with ⟨_,h2⟩ | ⟨x,_,_,h2,_⟩
 · exact ⟨h2,h.1⟩
 · rw [h2] at hs;cases hs
theorem zGp.yes {om k m:Nat} {S:Option (Nat→Cx) × (Int × Int)} {x:Nat→Cx} {w w':World} {e:Ending} (h:zGp om k m S w e w') (hs:S.1=some x):∃q1 q2,e=.returned (.tuple #[.agg #[.float .f64 om,.slice (some ⟨q1,0,none⟩) k k,.slice (some ⟨q2,0,none⟩) m m],.agg #[.int .i64 0,.int .i64 0]])∧S.2=(0,0)∧w.heap.size≤q1∧w.heap.size≤q2∧q1≠q2∧VecR w' q1 k x∧VecR w' q2 m (fun i=> x (k+i))∧Below w.heap.size w w':=by
 rcases h.2 with ⟨h2,_⟩ | ⟨y,q1,q2,h2,h3,h4,h5,h6,h7,h8⟩
 · rw [hs] at h2;cases h2
 · rw [h2] at hs;obtain rfl:=Option.some.inj hs;exact ⟨q1,q2,h3,by rw [h2],h4,h5,h6,h7,h8,h.1⟩
theorem rgt_len (l:List El):(rgtE false l).1.length≤szL l:=by
 unfold rgtE;rw [if_neg (by simp)]
 split <;> simp [szL]
theorem psolve_any (p:Value) (l:List El) (om:Nat) (w:World) (hp:NN w p l) (hg:NetG l):
 Calls Tryz.prog 26 #[p,.float .f64 om] w (zGp om (nds l).length (brs l).length (solS (zAw p) l om) w):=by
 obtain ⟨t1,t2,t3⟩:=zDk w (.cells #[.float .f64 0,.slice none 0 0,.slice none 0 0] 72) (.cells #[.int .i64 0,.int .i64 0] 32);have HT:=hid t1;have HU:=hid t2;have HBO:=hid t3;have HP:=hid (hp.below t3 (Nat.le_refl _));have HG:=hid hg;clear hp hg t1 t2 t3;go_enter Tryz.func26,Tryz.ntmps26;go_upto_region 1 with fail;generalize (w.alloc (.cells #[.float .f64 0,.slice none 0 0,.slice none 0 0] 72)).alloc (.cells #[.int .i64 0,.int .i64 0] 32)=w1 at *;obtain ⟨gt,hgt⟩:∃gt,w.heap.size=gt:=⟨_,rfl⟩;rw [hgt] at HT HU⊢;have HGT:=hid hgt;clear hgt;obtain ⟨ak,has⟩:∃a,askS (zAw p) om=a:=⟨_,rfl⟩;have HA:=hid has;clear has;obtain ⟨f1,f2,hf⟩:∃f1 f2,grdS false l=(f1,f2):=⟨_,_,rfl⟩;have HF:=hid hf;clear hf;go_upto_region 2 with (go_at_call 70;refine (asked_any p l om _ HP.out HG.out.nm).mono ?_;rintro e w2 ⟨rfl,hb⟩;have HT1:=hid (zAc hb HT.out);have HU1:=hid (zAc hb HU.out);have HP1:=hid (HP.out.below' hb);have HB1:=hid (zAd HBO.out hb);rw [HA.out];clear hb);clear HT HU HP HBO
 by_cases h0:ak=0
 rotate_left
 · have HW:=hid (show solS (zAw p) l om=(none,(ak,-1)) by unfold solS;rw [HA.out,if_pos h0];unfold zEj;rw [if_neg h0]);have hb0:(ak==0)=false:=by simpa using h0
   have hb1:(ak !=0)=true:=by simpa using h0
   go_wp2_with (go_at_call 71;refine (pnone_any ak _).mono ?_;rintro e wb ⟨rfl,hb⟩;have HT2:=hid (zAc hb HT1.out);have HU2:=hid (zAc hb HU1.out);have HP2:=hid (HP1.out.below' hb);have HB2:=hid (zAd HB1.out hb);rw [show noneS ak=.agg #[.int .i64 ak,.int .i64 (-1)] from if_neg h0];have hbk:=zAb HT2.out;have tf0:=hbk.2 0;have tf1:=hbk.2 1;have tf2:=hbk.2 2;have t0:=hbk.1 0 _ rfl;have t1:=hbk.1 1 _ rfl;have t2:=hbk.1 2 _ rfl;clear hbk;have hbk:=zAb HU2.out;have uf0:=hbk.2 0;have uf1:=hbk.2 1;have u0:=hbk.1 0 _ rfl;have u1:=hbk.1 1 _ rfl;clear hbk;clear hb)
   (try simp only [Exit.inBlock,Exit.then])
   (try rw [Exit.noGoto_ret])
   refine bodyPost_ret (v:=.tuple #[.agg #[.float .f64 0,.slice none 0 0,.slice none 0 0],.agg #[.int .i64 ak,.int .i64 (-1)]]) ?_ rfl ⟨zBk HB2.out (Nat.le_of_eq HGT.out),.inl ⟨by rw [HW.out],by rw [HW.out]⟩⟩;rw [zAh rfl];go_simp
 subst h0;have HQ:=hid (ask_b HA.out);have HS0:=hid (show solS (zAw p) l om=if grdS false l≠ (0,0) then (none,grdS false l) else if (matS false l om).2≠ (0,0) then (none,(matS false l om).2) else if (rgtE false l).2≠ (0,0) then (none,(rgtE false l).2) else zDd false l om (rgtE false l).1 from if_neg (fun h=> h HA.out));go_upto_region 5 with (go_at_call 72;refine (ggrounded_any p l _ HP1.out (by have:=HG.out.len;omega) HG.out.ok).mono ?_;rintro e w3 ⟨rfl,hb⟩;have HT2:=hid (zAc hb HT1.out);have HU2:=hid (zAc hb HU1.out);have HP2:=hid (HP1.out.below' hb);have HB2:=hid (zAd HB1.out hb);rw [HQ.out,HF.out];(try dsimp only);clear hb);clear HT1 HU1 HP1 HB1;have HT3:=hid (zAc ((Below.refl w3.heap.size w3).alloc (Nat.le_refl _) (.cells #[.int .i64 f1,.int .i64 f2] 32)) HT2.out);have HU3:=hid (zAc ((Below.refl w3.heap.size w3).alloc (Nat.le_refl _) (.cells #[.int .i64 f1,.int .i64 f2] 32)) HU2.out);have HP3:=hid (HP2.out.below' ((Below.refl w3.heap.size w3).alloc (Nat.le_refl _) (.cells #[.int .i64 f1,.int .i64 f2] 32)));have HB3:=hid (zAd HB2.out ((Below.refl w3.heap.size w3).alloc (Nat.le_refl _) (.cells #[.int .i64 f1,.int .i64 f2] 32)));have HNE:=hid (show gt+1 < w3.heap.size from (Array.getElem?_eq_some_iff.1 HU2.out).1);have H6:=hid (heap_alloc_new w3 (.cells #[.int .i64 f1,.int .i64 f2] 32));clear HT2 HU2 HP2 HB2;generalize w3.alloc (.cells #[.int .i64 f1,.int .i64 f2] 32)=w4 at *;generalize w3.heap.size=g6 at *;rcases zBw (f1,f2) with hz | ⟨hnz,hw⟩
 rotate_left
 · have HW:=hid (show solS (zAw p) l om=(none,(f1,f2)) by rw [HS0.out,HF.out,if_pos hnz]);dsimp only at hw;clear hnz;rcases hw with q1 | ⟨q1,q0,q2⟩
   all_goals
    have hbk:=zAb HT3.out;have t0:=hbk.1 0 _ rfl;have t1:=hbk.1 1 _ rfl;have t2:=hbk.1 2 _ rfl;have tf0:=hbk.2 0;have tf1:=hbk.2 1;have tf2:=hbk.2 2;clear hbk;have hbk:=zAb HU3.out;have u0:=hbk.1 0 _ rfl;have u1:=hbk.1 1 _ rfl;have uf0:=hbk.2 0;have uf1:=hbk.2 1;clear hbk;have hbk:=zAb H6.out;have v0:=hbk.1 0 _ rfl;have v1:=hbk.1 1 _ rfl;have vf0:=hbk.2 0;have vf1:=hbk.2 1;clear hbk;have hgne:=zAv HT3.out H6.out (by decide);have ko:∀ (u:World) (o q:Nat) (v:Value),(u.setCell ⟨gt,o,none⟩ v).cell? ⟨g6,q,none⟩=u.cell? ⟨g6,q,none⟩:=fun u o q v=> World.cell?_setCell_other u _ _ v (fun e=> hgne (congrArg Addr.block e))
    go_upto_region 6 with fail;go_region_with fail
    all_goals (go_wp2_with fail)
    all_goals (try simp only [Exit.inBlock,Exit.then])
    all_goals (refine bodyPost_ret (v:=.tuple #[.agg #[.float .f64 0,.slice none 0 0,.slice none 0 0],.agg #[.int .i64 f1,.int .i64 f2]]) ?_ rfl ⟨(zBk HB3.out (Nat.le_of_eq HGT.out)).drew,.inl ⟨by rw [HW.out],by rw [HW.out]⟩⟩)
    all_goals (rw [zAh rfl];go_simp;done)
 obtain ⟨hz1,hz2⟩:=Prod.mk.inj hz;subst hz1 hz2;clear hz HNE;have hbk:=zAb H6.out;have v0:=hbk.1 0 _ rfl;have v1:=hbk.1 1 _ rfl;have vf0:=hbk.2 0;have vf1:=hbk.2 1;clear hbk;obtain ⟨r1,D1,e1,a1,hS⟩:∃r D e a,matS false l om=((r,D),(e,a)):=⟨_,_,_,_,rfl⟩;have HS:=hid hS;clear hS;go_upto_region 8 with (go_at_call 73;refine (((smx_any p l om _ HP3.out HQ.out HG.out).mono fun _ _ h=> RetMz.of HS.out h)).mono ?_;rintro e w5 ⟨v1,ms,rfl,hxs,hown,hb⟩;have HT4:=hid (zAc hb HT3.out);have HU4:=hid (zAc hb HU3.out);have HP4:=hid (HP3.out.below' hb);have HB4:=hid (zAd HB3.out hb);obtain ⟨am,cm,rfl⟩:=(IsSl.of_own hown).form;clear hxs hown;clear hb);clear v0 v1 vf0 vf1 HT3 HU3 HP3 HB3 H6;have HT5:=hid (zAc ((Below.refl w5.heap.size w5).alloc (Nat.le_refl _) (.cells #[.int .i64 r1,.int .i64 r1,.slice am ms.length cm] 99)) HT4.out);have HU5:=hid (zAc ((Below.refl w5.heap.size w5).alloc (Nat.le_refl _) (.cells #[.int .i64 r1,.int .i64 r1,.slice am ms.length cm] 99)) HU4.out);have HP5:=hid (HP4.out.below' ((Below.refl w5.heap.size w5).alloc (Nat.le_refl _) (.cells #[.int .i64 r1,.int .i64 r1,.slice am ms.length cm] 99)));have HB5:=hid (zAd HB4.out ((Below.refl w5.heap.size w5).alloc (Nat.le_refl _) (.cells #[.int .i64 r1,.int .i64 r1,.slice am ms.length cm] 99)));have HNE:=hid (show gt+1 < w5.heap.size from (Array.getElem?_eq_some_iff.1 HU4.out).1);have HZ5:=hid (show (w5.alloc (.cells #[.int .i64 r1,.int .i64 r1,.slice am ms.length cm] 99)).heap.size=w5.heap.size+1 by simp);clear HT4 HU4 HP4 HB4;generalize w5.alloc (.cells #[.int .i64 r1,.int .i64 r1,.slice am ms.length cm] 99)=w6 at *;generalize w5.heap.size=g7 at *;have HT6:=hid (zAc ((Below.refl w6.heap.size w6).alloc (Nat.le_refl _) (.cells #[.int .i64 e1,.int .i64 a1] 32)) HT5.out)
 have HU6:=hid (zAc ((Below.refl w6.heap.size w6).alloc (Nat.le_refl _) (.cells #[.int .i64 e1,.int .i64 a1] 32)) HU5.out);have HP6:=hid (HP5.out.below' ((Below.refl w6.heap.size w6).alloc (Nat.le_refl _) (.cells #[.int .i64 e1,.int .i64 a1] 32)));have HB6:=hid (zAd HB5.out ((Below.refl w6.heap.size w6).alloc (Nat.le_refl _) (.cells #[.int .i64 e1,.int .i64 a1] 32)));have H8:=hid (heap_alloc_new w6 (.cells #[.int .i64 e1,.int .i64 a1] 32));rw [HZ5.out] at H8;clear HT5 HU5 HP5 HB5;generalize w6.alloc (.cells #[.int .i64 e1,.int .i64 a1] 32)=w7 at *;obtain ⟨g8,hg8⟩:∃g8,g7+1=g8:=⟨_,rfl⟩;rw [hg8] at H8⊢;clear hg8;rcases zBw (e1,a1) with hz | ⟨hnz,hw⟩
 rotate_left
 · have HW:=hid (show solS (zAw p) l om=(none,(e1,a1)) by rw [HS0.out,HF.out,if_neg (fun h=> h rfl),HS.out,if_pos hnz]);dsimp only at hw;clear hnz;rcases hw with q1 | ⟨q1,q0,q2⟩
   all_goals
    have hbk:=zAb HT6.out;have t0:=hbk.1 0 _ rfl;have t1:=hbk.1 1 _ rfl;have t2:=hbk.1 2 _ rfl;have tf0:=hbk.2 0;have tf1:=hbk.2 1;have tf2:=hbk.2 2;clear hbk;have hbk:=zAb HU6.out;have u0:=hbk.1 0 _ rfl;have u1:=hbk.1 1 _ rfl;have uf0:=hbk.2 0;have uf1:=hbk.2 1;clear hbk;have hbk:=zAb H8.out;have v0:=hbk.1 0 _ rfl;have v1:=hbk.1 1 _ rfl;have vf0:=hbk.2 0;have vf1:=hbk.2 1;clear hbk;have hgne:=zAv HT6.out H8.out (by decide);have ko:∀ (u:World) (o q:Nat) (v:Value),(u.setCell ⟨gt,o,none⟩ v).cell? ⟨g8,q,none⟩=u.cell? ⟨g8,q,none⟩:=fun u o q v=> World.cell?_setCell_other u _ _ v (fun e=> hgne (congrArg Addr.block e))
    go_upto_region 9 with fail;go_region_with fail
    all_goals (go_wp2_with fail)
    all_goals (try simp only [Exit.inBlock,Exit.then])
    all_goals (refine bodyPost_ret (v:=.tuple #[.agg #[.float .f64 0,.slice none 0 0,.slice none 0 0],.agg #[.int .i64 e1,.int .i64 a1]]) ?_ rfl ⟨(zBk HB6.out (Nat.le_of_eq HGT.out)).drew,.inl ⟨by rw [HW.out],by rw [HW.out]⟩⟩)
    all_goals (rw [zAh rfl];go_simp;done)
 obtain ⟨hz1,hz2⟩:=Prod.mk.inj hz;subst hz1 hz2;clear hz HNE HZ5;have hbk:=zAb H8.out;have v0:=hbk.1 0 _ rfl;have v1:=hbk.1 1 _ rfl;have vf0:=hbk.2 0;have vf1:=hbk.2 1;clear hbk;obtain ⟨R,x1,x2,hR⟩:∃R x1 x2,rgtE false l=(R,(x1,x2)):=⟨_,_,_,rfl⟩;have HR:=hid hR;have HRL:=hid (show R.length≤64 by have h:=rgt_len l;rw [hR] at h;exact Nat.le_trans h HG.out.sz);clear hR;go_upto_region 11 with (go_at_call 74;refine (sright_any p l _ HP6.out (by have:=HG.out.len;omega) HG.out.ok HG.out.ck HG.out.sz).mono ?_;rintro e w8 ⟨vr,bs,he,hbs,hown,hb⟩;have HT7:=hid (zAc hb HT6.out);have HU7:=hid (zAc hb HU6.out);have HP7:=hid (HP6.out.below' hb);have HB7:=hid (zAd HB6.out hb);rw [HQ.out,HR.out] at he hbs;dsimp only at he hbs;subst he;have HV:=hid (IsSl.of_own hown);obtain ⟨av,cv,rfl⟩:=(IsSl.of_own hown).form;have HBS:=hid hbs;have HBL:=hid (show bs.length≤64 by have h:=HRL.out;rw [←hbs,List.length_map] at h;exact h);clear hbs hown;clear hb);clear v0 v1 vf0 vf1 HT6 HU6 HP6 HB6 H8;have HT8:=hid (zAc ((Below.refl w8.heap.size w8).alloc (Nat.le_refl _) (.cells #[.int .i64 x1,.int .i64 x2] 32)) HT7.out);have HU8:=hid (zAc ((Below.refl w8.heap.size w8).alloc (Nat.le_refl _) (.cells #[.int .i64 x1,.int .i64 x2] 32)) HU7.out);have HP8:=hid (HP7.out.below' ((Below.refl w8.heap.size w8).alloc (Nat.le_refl _) (.cells #[.int .i64 x1,.int .i64 x2] 32)));have HV8:=hid (HV.out.below ((Below.refl w8.heap.size w8).alloc (Nat.le_refl _) (.cells #[.int .i64 x1,.int .i64 x2] 32)) (Nat.le_refl _));have HB8:=hid (zAd HB7.out ((Below.refl w8.heap.size w8).alloc (Nat.le_refl _) (.cells #[.int .i64 x1,.int .i64 x2] 32)));have HNE:=hid (show gt+1 < w8.heap.size from (Array.getElem?_eq_some_iff.1 HU7.out).1);have H9:=hid (heap_alloc_new w8 (.cells #[.int .i64 x1,.int .i64 x2] 32))
 clear HT7 HU7 HP7 HV HB7;generalize w8.alloc (.cells #[.int .i64 x1,.int .i64 x2] 32)=w9 at *;generalize w8.heap.size=g9 at *;rcases zBw (x1,x2) with hz | ⟨hnz,hw⟩
 rotate_left
 · have HW:=hid (show solS (zAw p) l om=(none,(x1,x2)) by rw [HS0.out,HF.out,if_neg (fun h=> h rfl),HS.out,if_neg (fun h=> h rfl),HR.out,if_pos hnz]);dsimp only at hw;clear hnz;rcases hw with q1 | ⟨q1,q0,q2⟩
   all_goals
    have hbk:=zAb HT8.out;have t0:=hbk.1 0 _ rfl;have t1:=hbk.1 1 _ rfl;have t2:=hbk.1 2 _ rfl;have tf0:=hbk.2 0;have tf1:=hbk.2 1;have tf2:=hbk.2 2;clear hbk;have hbk:=zAb HU8.out;have u0:=hbk.1 0 _ rfl;have u1:=hbk.1 1 _ rfl;have uf0:=hbk.2 0;have uf1:=hbk.2 1;clear hbk;have hbk:=zAb H9.out;have v0:=hbk.1 0 _ rfl;have v1:=hbk.1 1 _ rfl;have vf0:=hbk.2 0;have vf1:=hbk.2 1;clear hbk;have hgne:=zAv HT8.out H9.out (by decide);have ko:∀ (u:World) (o q:Nat) (v:Value),(u.setCell ⟨gt,o,none⟩ v).cell? ⟨g9,q,none⟩=u.cell? ⟨g9,q,none⟩:=fun u o q v=> World.cell?_setCell_other u _ _ v (fun e=> hgne (congrArg Addr.block e))
    go_upto_region 12 with fail;go_region_with fail
    all_goals (go_wp2_with fail)
    all_goals (try simp only [Exit.inBlock,Exit.then])
    all_goals (refine bodyPost_ret (v:=.tuple #[.agg #[.float .f64 0,.slice none 0 0,.slice none 0 0],.agg #[.int .i64 x1,.int .i64 x2]]) ?_ rfl ⟨(zBk HB8.out (Nat.le_of_eq HGT.out)).drew,.inl ⟨by rw [HW.out],by rw [HW.out]⟩⟩)
    all_goals (rw [zAh rfl];go_simp;done)
 obtain ⟨hz1,hz2⟩:=Prod.mk.inj hz;subst hz1 hz2;clear hz HNE;have hbk:=zAb H9.out;have v0:=hbk.1 0 _ rfl;have v1:=hbk.1 1 _ rfl;have vf0:=hbk.2 0;have vf1:=hbk.2 1;clear hbk;have HW0:=hid (show solS (zAw p) l om=zDd (zAw p) l om (bs.map ck) by rw [HS0.out,HF.out,if_neg (fun h=> h rfl),HS.out,if_neg (fun h=> h rfl),HR.out,if_neg (fun h=> h rfl),HQ.out,HBS.out]);go_upto_region 13 with fail;clear v0 v1 vf0 vf1;cases hsb:(zDd (zAw p) l om (bs.map ck)).1
 · have HSB:=hid hsb;obtain ⟨y1,y2,hy⟩:∃y1 y2,(zDd (zAw p) l om (bs.map ck)).2=(y1,y2):=⟨_,_,rfl⟩;have HY:=hid hy;have HW:=hid (show solS (zAw p) l om=(none,(y1,y2)) by rw [HW0.out];exact Prod.ext hsb hy);clear hsb hy;go_wp2_with (go_at_call 43;refine (((with_any p (.slice av bs.length cv) l om bs _ HP8.out HG.out HV8.out (by have:=HBL.out;omega)).mono fun _ _ h=> h.no HSB.out)).mono ?_;rintro e wa ⟨rfl,hb⟩;have HT9:=hid (zAc hb HT8.out);have HU9:=hid (zAc hb HU8.out);have HP9:=hid (HP8.out.below' hb);have HV9:=hid (HV8.out.below hb (Nat.le_refl _));have H99:=hid (zAc hb H9.out);have HB9:=hid (zAd HB8.out hb);rw [HY.out];(try dsimp only);have hbk:=zAb HT9.out;have tf0:=hbk.2 0;have tf1:=hbk.2 1;have tf2:=hbk.2 2;have t0:=hbk.1 0 _ rfl;have t1:=hbk.1 1 _ rfl;have t2:=hbk.1 2 _ rfl;clear hbk;have hbk:=zAb HU9.out;have uf0:=hbk.2 0;have uf1:=hbk.2 1;have u0:=hbk.1 0 _ rfl;have u1:=hbk.1 1 _ rfl;clear hbk;clear hb)
   (try simp only [Exit.inBlock,Exit.then])
   refine bodyPost_ret (v:=.tuple #[.agg #[.float .f64 0,.slice none 0 0,.slice none 0 0],.agg #[.int .i64 y1,.int .i64 y2]]) ?_ rfl ⟨zBk HB9.out (Nat.le_of_eq HGT.out),.inl ⟨by rw [HW.out],by rw [HW.out]⟩⟩;rw [zAh rfl];go_simp
 · rename_i x;have HSB:=hid hsb;clear hsb;go_wp2_with (go_at_call 43;refine (((with_any p (.slice av bs.length cv) l om bs _ HP8.out HG.out HV8.out (by have:=HBL.out;omega)).mono fun _ _ h=> h.yes HSB.out)).mono ?_;rintro e wa ⟨q1,q2,rfl,hs2,hq1,hq2,hne,hv1,hv2,hb⟩;have HT9:=hid (zAc hb HT8.out);have HU9:=hid (zAc hb HU8.out);have HP9:=hid (HP8.out.below' hb);have HV9:=hid (HV8.out.below hb (Nat.le_refl _));have H99:=hid (zAc hb H9.out);have HB9:=hid (zAd HB8.out hb);have HW:=hid (show solS (zAw p) l om=(some x,(0,0)) by rw [HW0.out];exact Prod.ext HSB.out hs2);have HLT:=hid (show w.heap.size≤q1∧w.heap.size≤q2∧gt+1 < q1∧gt+1 < q2 from by have h1:=HB8.out.size;have h2:=(Array.getElem?_eq_some_iff.1 HU8.out).1;omega);have HQN:=hid hne;have HV1q:=hid hv1;have HV2q:=hid hv2;clear hq1 hq2 hne hv1 hv2 hs2;have hbk:=zAb HT9.out;have tf0:=hbk.2 0;have tf1:=hbk.2 1;have tf2:=hbk.2 2;have t0:=hbk.1 0 _ rfl;have t1:=hbk.1 1 _ rfl;have t2:=hbk.1 2 _ rfl;clear hbk;have hbk:=zAb HU9.out;have uf0:=hbk.2 0;have uf1:=hbk.2 1;have u0:=hbk.1 0 _ rfl;have u1:=hbk.1 1 _ rfl;clear hbk;clear hb)
   (try simp only [Exit.inBlock,Exit.then])
   refine bodyPost_ret (v:=.tuple #[.agg #[.float .f64 om,.slice (some ⟨q1,0,none⟩) (nds l).length (nds l).length,.slice (some ⟨q2,0,none⟩) (brs l).length (brs l).length],.agg #[.int .i64 0,.int .i64 0]]) ?_ rfl ⟨zBk HB9.out (Nat.le_of_eq HGT.out),.inr ⟨x,q1,q2,HW.out,rfl,HLT.out.1,HLT.out.2.1,HQN.out,vec_five HV1q.out (by have:=HLT.out;omega) (by have:=HLT.out;omega),vec_five HV2q.out (by have:=HLT.out;omega) (by have:=HLT.out;omega)⟩⟩;rw [zAh rfl];go_simp
end
section
open Go.RowKit
def fitsS (b:Bool) (nv na k m:Nat):Int:=if b=true then 1 else if nv≠k∨na≠m then 4 else 0
theorem i_ne {a b:Nat} (h:a≠b):((a:Int) !=(b:Int))=true:=by simp;omega
theorem fits_any2 (p:Value) (l:List El) (om nv cv na ca:Nat) (av aa:Option Addr) (w:World) (hp:NN w p l) (hg:NetG l):
 Calls Tryz.prog 75 #[p,.agg #[.float .f64 om,.slice av nv cv,.slice aa na ca]] w (fun e w'=> e=.returned (.int .i64 (fitsS (zAw p) nv na (nds l).length (brs l).length))∧Below w.heap.size w w'):=by
 have hb1:=(Below.refl w.heap.size w).alloc (Nat.le_refl _) (.cells #[.float .f64 om,.slice av nv cv,.slice aa na ca] 72);have HBO:=hid hb1;have HS:=hid (heap_alloc_new w (.cells #[.float .f64 om,.slice av nv cv,.slice aa na ca] 72));have HP:=hid (hp.below hb1 (Nat.le_refl _));have HG:=hid hg;obtain ⟨k,hk⟩:∃k,(nds l).length=k:=⟨_,rfl⟩;obtain ⟨m,hm⟩:∃m,(brs l).length=m:=⟨_,rfl⟩;rw [hk,hm];have HK:=hid hk;have HM:=hid hm;clear hp hg hb1 hk hm;cases hq:zAw p
 rotate_left
 · have HQ:=hid hq;clear hq;go_enter Tryz.func75,Tryz.ntmps75;go_upto_region 1 with fail;generalize w.alloc (.cells #[.float .f64 om,.slice av nv cv,.slice aa na ca] 72)=w1 at *;go_wp2_with (go_at_call 114;refine (zDh _ l _ HP.out HG.out.nm).mono ?_;rintro e w' ⟨rfl,rfl⟩;rw [HQ.out])
   (try simp only [Exit.inBlock,Exit.then])
   (try rw [Exit.noGoto_ret])
   go_ret;exact ⟨by unfold fitsS;rw [if_pos rfl];rfl,HBO.out⟩
 have HQ:=hid hq;clear hq
 by_cases h1:nv=k
 rotate_left
 · have hb1:=i_ne h1;have HW:=hid (show fitsS false nv na k m=4 by unfold fitsS;rw [if_neg (by simp),if_pos (.inl h1)]);clear h1;go_enter Tryz.func75,Tryz.ntmps75;go_upto_region 1 with fail;generalize w.alloc (.cells #[.float .f64 om,.slice av nv cv,.slice aa na ca] 72)=w1 at *;obtain ⟨gs,hgs⟩:∃gs,w.heap.size=gs:=⟨_,rfl⟩;rw [hgs] at HS⊢;clear hgs;go_upto_region 3 with (go_at_call 114;refine (zDh _ l _ HP.out HG.out.nm).mono ?_;rintro e w' ⟨rfl,rfl⟩;rw [HQ.out]);refine wp_region_any (by kernel_rfl) ?_;change wpAny _ _ _ _ _ _ _ (World.drew _);refine zAy [⟨some 9,0, []⟩,⟨some 10,1, []⟩,⟨some 11,2, []⟩,⟨some 12,3, []⟩,⟨some 13,4, []⟩,⟨some 14,5, []⟩,⟨some 15,6, []⟩,⟨some 16,7, []⟩,⟨some 17,8, []⟩,⟨some 18,9, []⟩,⟨some 19,10, []⟩,⟨some 20,11, []⟩,⟨some 21,12, []⟩,⟨some 22,13, []⟩,⟨some 23,14, []⟩,⟨some 24,15, []⟩]
    (fun w'=> w'.heap[gs]? =some (.cells #[.float .f64 om,.slice av nv cv,.slice aa na ca] 72 (0,0))∧NN w' p l)
    (fun oq v _ _ _ _=> match oq with | 0=> v=.pointer (some ⟨gs,1,none⟩) | 1=> v=.slice av nv cv | 2=> v=.int .i64 nv | 3=> v=p | 4=> ∃a c,v=.slice a k c | 5=> v=.int .i64 k | 6=> v=.bool true | 7=> v=.bool true | 8=> v=undef | 9=> v=undef | 10=> v=undef | 11=> v=undef | 12=> v=undef | 13=> v=undef | 14=> v=undef | 15=> v=.bool true | _=> True) (by kernel_rfl) ?hSm (fun _ _ hb h=> ⟨zAm hb h.1,h.2.below' hb⟩) (fun _ _ _ _ _ _ _ _ _ h=> h) ?hopm ?hendm
   case hSm=> exact ⟨zAm (Below.refl _ _).drew HS.out,HP.out.below (Below.refl _ _).drew (Nat.le_refl _)⟩
   case hopm=>
    delta Owed
    simp only [zBg,Act.put,List.setIfInBounds_toArray,lz,ls];refine Each.cons rfl ?_ (Each.cons rfl ?_ (Each.cons rfl ?_ (Each.cons rfl ?_ (Each.cons rfl ?_ (Each.cons rfl ?_ (Each.cons rfl ?_ (Each.cons rfl ?_ (Each.cons rfl ?_ (Each.cons rfl ?_ (Each.cons rfl ?_ (Each.cons rfl ?_ (Each.cons rfl ?_ (Each.cons rfl ?_ (Each.cons rfl ?_ (Each.cons rfl ?_ Each.nil)))))))))))))))
    all_goals intro vs w2 hb2 hS2 hR2 K hK;try simp only [lz,ls] at hK⊢
    · go_simp;exact shP hK
    · have h0:vs 0=_:=exR (hR2 0 (by kernel_rfl)) (fun _ _ h=> h);have k0:=(zAa hS2.1).1 1 _ rfl;have k1:=(zAa hS2.1).1 2 _ rfl;simp only [h0] at hK⊢;go_simp;exact shP hK
    · have h1:vs 1=_:=exR (hR2 1 (by kernel_rfl)) (fun _ _ h=> h);simp only [h1] at hK⊢;go_simp;exact shP hK
    · go_simp;exact shP hK
    · have h3:vs 3=_:=exR (hR2 3 (by kernel_rfl)) (fun _ _ h=> h);simp only [h3] at hK⊢;rw [if_pos (by rfl)];go_wp2_with (go_at_call 117;refine (zEf p l _ hS2.2 (by have:=HG.out.len;omega)).mono ?_;rintro e w3 ⟨v,xs,rfl,hown,_,hb⟩;obtain ⟨ar,cr,rfl⟩:=(IsSl.of_own hown).form;clear hown;rw [HK.out]);exact hK.out _ _ hb ⟨ar,cr,rfl⟩
    · obtain ⟨_,_,_,H4⟩:=hR2 4 (by kernel_rfl);obtain ⟨a4,c4,h4⟩:=H4;simp only [h4] at hK⊢;go_simp;exact shP hK
    · have h2:vs 2=_:=exR (hR2 2 (by kernel_rfl)) (fun _ _ h=> h);have h5:vs 5=_:=exR (hR2 5 (by kernel_rfl)) (fun _ _ h=> h);simp only [h2,h5] at hK⊢;go_simp;exact shP hK
    · have h6:vs 6=_:=exR (hR2 6 (by kernel_rfl)) (fun _ _ h=> h);simp only [h6] at hK⊢;go_simp;exact shP hK
    · have h7:vs 7=_:=exR (hR2 7 (by kernel_rfl)) (fun _ _ h=> h);simp only [h7] at hK⊢;rw [if_neg (by intro hh;exact absurd (show false=true from hh) (by decide))];exact shP hK
    · have h7:vs 7=_:=exR (hR2 7 (by kernel_rfl)) (fun _ _ h=> h);have h8:vs 8=_:=exR (hR2 8 (by kernel_rfl)) (fun _ _ h=> h);have k0:=(zAa hS2.1).1 1 _ rfl;have k1:=(zAa hS2.1).1 2 _ rfl;simp only [h7,h8] at hK⊢;rw [if_neg (by intro hh;exact absurd (show false=true from hh) (by decide))];exact shP hK
    · have h7:vs 7=_:=exR (hR2 7 (by kernel_rfl)) (fun _ _ h=> h);have h9:vs 9=_:=exR (hR2 9 (by kernel_rfl)) (fun _ _ h=> h);simp only [h7,h9] at hK⊢;rw [if_neg (by intro hh;exact absurd (show false=true from hh) (by decide))];exact shP hK
    · have h7:vs 7=_:=exR (hR2 7 (by kernel_rfl)) (fun _ _ h=> h);simp only [h7] at hK⊢;rw [if_neg (by intro hh;exact absurd (show false=true from hh) (by decide))];exact shP hK
    · have h7:vs 7=_:=exR (hR2 7 (by kernel_rfl)) (fun _ _ h=> h);have h11:vs 11=_:=exR (hR2 11 (by kernel_rfl)) (fun _ _ h=> h);simp only [h7,h11] at hK⊢;rw [if_neg (by intro hh;exact absurd (show false=true from hh) (by decide))];exact shP hK
    · have h7:vs 7=_:=exR (hR2 7 (by kernel_rfl)) (fun _ _ h=> h);have h12:vs 12=_:=exR (hR2 12 (by kernel_rfl)) (fun _ _ h=> h);simp only [h7,h12] at hK⊢;rw [if_neg (by intro hh;exact absurd (show false=true from hh) (by decide))];exact shP hK
    · have h7:vs 7=_:=exR (hR2 7 (by kernel_rfl)) (fun _ _ h=> h);have h10:vs 10=_:=exR (hR2 10 (by kernel_rfl)) (fun _ _ h=> h);have h13:vs 13=_:=exR (hR2 13 (by kernel_rfl)) (fun _ _ h=> h);simp only [h7,h10,h13] at hK⊢;rw [if_neg (by intro hh;exact absurd (show false=true from hh) (by decide))];exact shP hK
    · have h7:vs 7=_:=exR (hR2 7 (by kernel_rfl)) (fun _ _ h=> h);have h14:vs 14=_:=exR (hR2 14 (by kernel_rfl)) (fun _ _ h=> h);simp only [h7,h14] at hK⊢;go_simp;exact shP hK
   case hendm=>
    intro vs wx lo hiv hbx hSx hRx hdx;have h0:vs 0=_:=(hRx 0 (by kernel_rfl)).1;have h1:vs 1=_:=(hRx 1 (by kernel_rfl)).1;have h2:vs 2=_:=(hRx 2 (by kernel_rfl)).1;have h3:vs 3=_:=(hRx 3 (by kernel_rfl)).1;have H4:=(hRx 4 (by kernel_rfl)).1;obtain ⟨a4,c4,h4⟩:=H4;have h5:vs 5=_:=(hRx 5 (by kernel_rfl)).1;have h6:vs 6=_:=(hRx 6 (by kernel_rfl)).1;have h7:vs 7=_:=(hRx 7 (by kernel_rfl)).1;have h8:vs 8=_:=(hRx 8 (by kernel_rfl)).1;have h9:vs 9=_:=(hRx 9 (by kernel_rfl)).1;have h10:vs 10=_:=(hRx 10 (by kernel_rfl)).1;have h11:vs 11=_:=(hRx 11 (by kernel_rfl)).1;have h12:vs 12=_:=(hRx 12 (by kernel_rfl)).1;have h13:vs 13=_:=(hRx 13 (by kernel_rfl)).1;have h14:vs 14=_:=(hRx 14 (by kernel_rfl)).1;have h15:vs 15=_:=(hRx 15 (by kernel_rfl)).1;simp only [zBg,Act.put,List.setIfInBounds_toArray,lz,ls,h0,h1,h2,h3,h4,h5,h6,h7,h8,h9,h10,h11,h12,h13,h14,h15];clear hRx hdx;have hb:=zAq hbx;have HB2:=hid (zAd HBO.out hb);refine zAt (i:=16) (by kernel_rfl) rfl (fun K hK=> ?_);go_simp;refine hK.out _ _ ?_;clear hK;refine wpAny_done (by kernel_rfl) ?_ _;go_wp2
    (try simp only [Exit.inBlock,Exit.then])
    (try rw [Exit.noGoto_ret])
    go_ret;exact ⟨by rw [HW.out];rfl,HB2.out⟩
 subst h1
 by_cases h2:na=m
 rotate_left
 · have hb1:=i_ne h2;have HW:=hid (show fitsS false nv na nv m=4 by unfold fitsS;rw [if_neg (by simp),if_pos (.inr h2)]);clear h2;go_enter Tryz.func75,Tryz.ntmps75;go_upto_region 1 with fail;generalize w.alloc (.cells #[.float .f64 om,.slice av nv cv,.slice aa na ca] 72)=w1 at *;obtain ⟨gs,hgs⟩:∃gs,w.heap.size=gs:=⟨_,rfl⟩;rw [hgs] at HS⊢;clear hgs;go_upto_region 3 with (go_at_call 114;refine (zDh _ l _ HP.out HG.out.nm).mono ?_;rintro e w' ⟨rfl,rfl⟩;rw [HQ.out]);refine wp_region_any (by kernel_rfl) ?_;change wpAny _ _ _ _ _ _ _ (World.drew _);refine zAy [⟨some 9,0, []⟩,⟨some 10,1, []⟩,⟨some 11,2, []⟩,⟨some 12,3, []⟩,⟨some 13,4, []⟩,⟨some 14,5, []⟩,⟨some 15,6, []⟩,⟨some 16,7, []⟩,⟨some 17,8, []⟩,⟨some 18,9, []⟩,⟨some 19,10, []⟩,⟨some 20,11, []⟩,⟨some 21,12, []⟩,⟨some 22,13, []⟩,⟨some 23,14, []⟩,⟨some 24,15, []⟩]
    (fun w'=> w'.heap[gs]? =some (.cells #[.float .f64 om,.slice av nv cv,.slice aa na ca] 72 (0,0))∧NN w' p l)
    (fun oq v _ _ _ _=> match oq with | 0=> v=.pointer (some ⟨gs,1,none⟩) | 1=> v=.slice av nv cv | 2=> v=.int .i64 nv | 3=> v=p | 4=> ∃a c,v=.slice a nv c | 5=> v=.int .i64 nv | 6=> v=.bool false | 7=> v=.bool false | 8=> v=.pointer (some ⟨gs,2,none⟩) | 9=> v=.slice aa na ca | 10=> v=.int .i64 na | 11=> v=p | 12=> ∃a c,v=.slice a m c | 13=> v=.int .i64 m | 14=> v=.bool true | 15=> v=.bool true | _=> True) (by kernel_rfl) ?hSm (fun _ _ hb h=> ⟨zAm hb h.1,h.2.below' hb⟩) (fun _ _ _ _ _ _ _ _ _ h=> h) ?hopm ?hendm
   case hSm=> exact ⟨zAm (Below.refl _ _).drew HS.out,HP.out.below (Below.refl _ _).drew (Nat.le_refl _)⟩
   case hopm=>
    delta Owed
    simp only [zBg,Act.put,List.setIfInBounds_toArray,lz,ls];refine Each.cons rfl ?_ (Each.cons rfl ?_ (Each.cons rfl ?_ (Each.cons rfl ?_ (Each.cons rfl ?_ (Each.cons rfl ?_ (Each.cons rfl ?_ (Each.cons rfl ?_ (Each.cons rfl ?_ (Each.cons rfl ?_ (Each.cons rfl ?_ (Each.cons rfl ?_ (Each.cons rfl ?_ (Each.cons rfl ?_ (Each.cons rfl ?_ (Each.cons rfl ?_ Each.nil)))))))))))))))
    all_goals intro vs w2 hb2 hS2 hR2 K hK;try simp only [lz,ls] at hK⊢
    · go_simp;exact shP hK
    · have h0:vs 0=_:=exR (hR2 0 (by kernel_rfl)) (fun _ _ h=> h);have k0:=(zAa hS2.1).1 1 _ rfl;have k1:=(zAa hS2.1).1 2 _ rfl;simp only [h0] at hK⊢;go_simp;exact shP hK
    · have h1:vs 1=_:=exR (hR2 1 (by kernel_rfl)) (fun _ _ h=> h);simp only [h1] at hK⊢;go_simp;exact shP hK
    · go_simp;exact shP hK
    · have h3:vs 3=_:=exR (hR2 3 (by kernel_rfl)) (fun _ _ h=> h);simp only [h3] at hK⊢;rw [if_pos (by rfl)];go_wp2_with (go_at_call 117;refine (zEf p l _ hS2.2 (by have:=HG.out.len;omega)).mono ?_;rintro e w3 ⟨v,xs,rfl,hown,_,hb⟩;obtain ⟨ar,cr,rfl⟩:=(IsSl.of_own hown).form;clear hown;rw [HK.out]);exact hK.out _ _ hb ⟨ar,cr,rfl⟩
    · obtain ⟨_,_,_,H4⟩:=hR2 4 (by kernel_rfl);obtain ⟨a4,c4,h4⟩:=H4;simp only [h4] at hK⊢;go_simp;exact shP hK
    · have h2:vs 2=_:=exR (hR2 2 (by kernel_rfl)) (fun _ _ h=> h);have h5:vs 5=_:=exR (hR2 5 (by kernel_rfl)) (fun _ _ h=> h);simp only [h2,h5] at hK⊢;go_simp;exact shP hK
    · have h6:vs 6=_:=exR (hR2 6 (by kernel_rfl)) (fun _ _ h=> h);simp only [h6] at hK⊢;go_simp;exact shP hK
    · have h7:vs 7=_:=exR (hR2 7 (by kernel_rfl)) (fun _ _ h=> h);simp only [h7] at hK⊢;rw [if_pos (by rfl)];go_simp;exact shP hK
    · have h7:vs 7=_:=exR (hR2 7 (by kernel_rfl)) (fun _ _ h=> h);have h8:vs 8=_:=exR (hR2 8 (by kernel_rfl)) (fun _ _ h=> h);have k0:=(zAa hS2.1).1 1 _ rfl;have k1:=(zAa hS2.1).1 2 _ rfl;simp only [h7,h8] at hK⊢;rw [if_pos (by rfl)];go_simp;exact shP hK
    · have h7:vs 7=_:=exR (hR2 7 (by kernel_rfl)) (fun _ _ h=> h);have h9:vs 9=_:=exR (hR2 9 (by kernel_rfl)) (fun _ _ h=> h);simp only [h7,h9] at hK⊢;rw [if_pos (by rfl)];go_simp;exact shP hK
    · have h7:vs 7=_:=exR (hR2 7 (by kernel_rfl)) (fun _ _ h=> h);simp only [h7] at hK⊢;rw [if_pos (by rfl)];go_simp;exact shP hK
    · have h7:vs 7=_:=exR (hR2 7 (by kernel_rfl)) (fun _ _ h=> h);have h11:vs 11=_:=exR (hR2 11 (by kernel_rfl)) (fun _ _ h=> h);simp only [h7,h11] at hK⊢;rw [if_pos (by rfl)];go_wp2_with (go_at_call 128;refine (nbranches_any p l _ hS2.2 (by have:=HG.out.len;omega)).mono ?_;rintro e w3 ⟨v,xs,rfl,hown,_,hb⟩;obtain ⟨ar,cr,rfl⟩:=(IsSl.of_own hown).form;clear hown;rw [HM.out]);exact hK.out _ _ hb ⟨ar,cr,rfl⟩
    · have h7:vs 7=_:=exR (hR2 7 (by kernel_rfl)) (fun _ _ h=> h);obtain ⟨_,_,_,H12⟩:=hR2 12 (by kernel_rfl);obtain ⟨a12,c12,h12⟩:=H12;simp only [h7,h12] at hK⊢;rw [if_pos (by rfl)];go_simp;exact shP hK
    · have h7:vs 7=_:=exR (hR2 7 (by kernel_rfl)) (fun _ _ h=> h);have h10:vs 10=_:=exR (hR2 10 (by kernel_rfl)) (fun _ _ h=> h);have h13:vs 13=_:=exR (hR2 13 (by kernel_rfl)) (fun _ _ h=> h);simp only [h7,h10,h13] at hK⊢;rw [if_pos (by rfl)];go_simp;exact shP hK
    · have h7:vs 7=_:=exR (hR2 7 (by kernel_rfl)) (fun _ _ h=> h);have h14:vs 14=_:=exR (hR2 14 (by kernel_rfl)) (fun _ _ h=> h);simp only [h7,h14] at hK⊢;go_simp;exact shP hK
   case hendm=>
    intro vs wx lo hiv hbx hSx hRx hdx;have h0:vs 0=_:=(hRx 0 (by kernel_rfl)).1;have h1:vs 1=_:=(hRx 1 (by kernel_rfl)).1;have h2:vs 2=_:=(hRx 2 (by kernel_rfl)).1;have h3:vs 3=_:=(hRx 3 (by kernel_rfl)).1;have H4:=(hRx 4 (by kernel_rfl)).1;obtain ⟨a4,c4,h4⟩:=H4;have h5:vs 5=_:=(hRx 5 (by kernel_rfl)).1;have h6:vs 6=_:=(hRx 6 (by kernel_rfl)).1;have h7:vs 7=_:=(hRx 7 (by kernel_rfl)).1;have h8:vs 8=_:=(hRx 8 (by kernel_rfl)).1;have h9:vs 9=_:=(hRx 9 (by kernel_rfl)).1;have h10:vs 10=_:=(hRx 10 (by kernel_rfl)).1;have h11:vs 11=_:=(hRx 11 (by kernel_rfl)).1;have H12:=(hRx 12 (by kernel_rfl)).1;obtain ⟨a12,c12,h12⟩:=H12;have h13:vs 13=_:=(hRx 13 (by kernel_rfl)).1;have h14:vs 14=_:=(hRx 14 (by kernel_rfl)).1;have h15:vs 15=_:=(hRx 15 (by kernel_rfl)).1;simp only [zBg,Act.put,List.setIfInBounds_toArray,lz,ls,h0,h1,h2,h3,h4,h5,h6,h7,h8,h9,h10,h11,h12,h13,h14,h15];clear hRx hdx;have hb:=zAq hbx;have HB2:=hid (zAd HBO.out hb);refine zAt (i:=16) (by kernel_rfl) rfl (fun K hK=> ?_);go_simp;refine hK.out _ _ ?_;clear hK;refine wpAny_done (by kernel_rfl) ?_ _;go_wp2
    (try simp only [Exit.inBlock,Exit.then])
    (try rw [Exit.noGoto_ret])
    go_ret;exact ⟨by rw [HW.out];rfl,HB2.out⟩
 subst h2;have HW:=hid (show fitsS false nv na nv na=0 by unfold fitsS;rw [if_neg (by simp),if_neg (by simp)]);go_enter Tryz.func75,Tryz.ntmps75;go_upto_region 1 with fail;generalize w.alloc (.cells #[.float .f64 om,.slice av nv cv,.slice aa na ca] 72)=w1 at *;obtain ⟨gs,hgs⟩:∃gs,w.heap.size=gs:=⟨_,rfl⟩;rw [hgs] at HS⊢;clear hgs;go_upto_region 3 with (go_at_call 114;refine (zDh _ l _ HP.out HG.out.nm).mono ?_;rintro e w' ⟨rfl,rfl⟩;rw [HQ.out]);refine wp_region_any (by kernel_rfl) ?_;change wpAny _ _ _ _ _ _ _ (World.drew _);refine zAy [⟨some 9,0, []⟩,⟨some 10,1, []⟩,⟨some 11,2, []⟩,⟨some 12,3, []⟩,⟨some 13,4, []⟩,⟨some 14,5, []⟩,⟨some 15,6, []⟩,⟨some 16,7, []⟩,⟨some 17,8, []⟩,⟨some 18,9, []⟩,⟨some 19,10, []⟩,⟨some 20,11, []⟩,⟨some 21,12, []⟩,⟨some 22,13, []⟩,⟨some 23,14, []⟩,⟨some 24,15, []⟩]
  (fun w'=> w'.heap[gs]? =some (.cells #[.float .f64 om,.slice av nv cv,.slice aa na ca] 72 (0,0))∧NN w' p l)
  (fun oq v _ _ _ _=> match oq with | 0=> v=.pointer (some ⟨gs,1,none⟩) | 1=> v=.slice av nv cv | 2=> v=.int .i64 nv | 3=> v=p | 4=> ∃a c,v=.slice a nv c | 5=> v=.int .i64 nv | 6=> v=.bool false | 7=> v=.bool false | 8=> v=.pointer (some ⟨gs,2,none⟩) | 9=> v=.slice aa na ca | 10=> v=.int .i64 na | 11=> v=p | 12=> ∃a c,v=.slice a na c | 13=> v=.int .i64 na | 14=> v=.bool false | 15=> v=.bool false | _=> True) (by kernel_rfl) ?hSm (fun _ _ hb h=> ⟨zAm hb h.1,h.2.below' hb⟩) (fun _ _ _ _ _ _ _ _ _ h=> h) ?hopm ?hendm
 case hSm=> exact ⟨zAm (Below.refl _ _).drew HS.out,HP.out.below (Below.refl _ _).drew (Nat.le_refl _)⟩
 case hopm=>
  delta Owed
  simp only [zBg,Act.put,List.setIfInBounds_toArray,lz,ls];refine Each.cons rfl ?_ (Each.cons rfl ?_ (Each.cons rfl ?_ (Each.cons rfl ?_ (Each.cons rfl ?_ (Each.cons rfl ?_ (Each.cons rfl ?_ (Each.cons rfl ?_ (Each.cons rfl ?_ (Each.cons rfl ?_ (Each.cons rfl ?_ (Each.cons rfl ?_ (Each.cons rfl ?_ (Each.cons rfl ?_ (Each.cons rfl ?_ (Each.cons rfl ?_ Each.nil)))))))))))))))
  all_goals intro vs w2 hb2 hS2 hR2 K hK;try simp only [lz,ls] at hK⊢
  · go_simp;exact shP hK
  · have h0:vs 0=_:=exR (hR2 0 (by kernel_rfl)) (fun _ _ h=> h);have k0:=(zAa hS2.1).1 1 _ rfl;have k1:=(zAa hS2.1).1 2 _ rfl;simp only [h0] at hK⊢;go_simp;exact shP hK
  · have h1:vs 1=_:=exR (hR2 1 (by kernel_rfl)) (fun _ _ h=> h);simp only [h1] at hK⊢;go_simp;exact shP hK
  · go_simp;exact shP hK
  · have h3:vs 3=_:=exR (hR2 3 (by kernel_rfl)) (fun _ _ h=> h);simp only [h3] at hK⊢;rw [if_pos (by rfl)];go_wp2_with (go_at_call 117;refine (zEf p l _ hS2.2 (by have:=HG.out.len;omega)).mono ?_;rintro e w3 ⟨v,xs,rfl,hown,_,hb⟩;obtain ⟨ar,cr,rfl⟩:=(IsSl.of_own hown).form;clear hown;rw [HK.out]);exact hK.out _ _ hb ⟨ar,cr,rfl⟩
  · obtain ⟨_,_,_,H4⟩:=hR2 4 (by kernel_rfl);obtain ⟨a4,c4,h4⟩:=H4;simp only [h4] at hK⊢;go_simp;exact shP hK
  · have h2:vs 2=_:=exR (hR2 2 (by kernel_rfl)) (fun _ _ h=> h);have h5:vs 5=_:=exR (hR2 5 (by kernel_rfl)) (fun _ _ h=> h);simp only [h2,h5] at hK⊢;go_simp;exact shP hK
  · have h6:vs 6=_:=exR (hR2 6 (by kernel_rfl)) (fun _ _ h=> h);simp only [h6] at hK⊢;go_simp;exact shP hK
  · have h7:vs 7=_:=exR (hR2 7 (by kernel_rfl)) (fun _ _ h=> h);simp only [h7] at hK⊢;rw [if_pos (by rfl)];go_simp;exact shP hK
  · have h7:vs 7=_:=exR (hR2 7 (by kernel_rfl)) (fun _ _ h=> h);have h8:vs 8=_:=exR (hR2 8 (by kernel_rfl)) (fun _ _ h=> h);have k0:=(zAa hS2.1).1 1 _ rfl;have k1:=(zAa hS2.1).1 2 _ rfl;simp only [h7,h8] at hK⊢;rw [if_pos (by rfl)];go_simp;exact shP hK
  · have h7:vs 7=_:=exR (hR2 7 (by kernel_rfl)) (fun _ _ h=> h);have h9:vs 9=_:=exR (hR2 9 (by kernel_rfl)) (fun _ _ h=> h);simp only [h7,h9] at hK⊢;rw [if_pos (by rfl)];go_simp;exact shP hK
  · have h7:vs 7=_:=exR (hR2 7 (by kernel_rfl)) (fun _ _ h=> h);simp only [h7] at hK⊢;rw [if_pos (by rfl)];go_simp;exact shP hK
  · have h7:vs 7=_:=exR (hR2 7 (by kernel_rfl)) (fun _ _ h=> h);have h11:vs 11=_:=exR (hR2 11 (by kernel_rfl)) (fun _ _ h=> h);simp only [h7,h11] at hK⊢;rw [if_pos (by rfl)];go_wp2_with (go_at_call 128;refine (nbranches_any p l _ hS2.2 (by have:=HG.out.len;omega)).mono ?_;rintro e w3 ⟨v,xs,rfl,hown,_,hb⟩;obtain ⟨ar,cr,rfl⟩:=(IsSl.of_own hown).form;clear hown;rw [HM.out]);exact hK.out _ _ hb ⟨ar,cr,rfl⟩
  · have h7:vs 7=_:=exR (hR2 7 (by kernel_rfl)) (fun _ _ h=> h);obtain ⟨_,_,_,H12⟩:=hR2 12 (by kernel_rfl);obtain ⟨a12,c12,h12⟩:=H12;simp only [h7,h12] at hK⊢;rw [if_pos (by rfl)];go_simp;exact shP hK
  · have h7:vs 7=_:=exR (hR2 7 (by kernel_rfl)) (fun _ _ h=> h);have h10:vs 10=_:=exR (hR2 10 (by kernel_rfl)) (fun _ _ h=> h);have h13:vs 13=_:=exR (hR2 13 (by kernel_rfl)) (fun _ _ h=> h);simp only [h7,h10,h13] at hK⊢;rw [if_pos (by rfl)];go_simp;exact shP hK
  · have h7:vs 7=_:=exR (hR2 7 (by kernel_rfl)) (fun _ _ h=> h);have h14:vs 14=_:=exR (hR2 14 (by kernel_rfl)) (fun _ _ h=> h);simp only [h7,h14] at hK⊢;go_simp;exact shP hK
 case hendm=>
  intro vs wx lo hiv hbx hSx hRx hdx;have h0:vs 0=_:=(hRx 0 (by kernel_rfl)).1;have h1:vs 1=_:=(hRx 1 (by kernel_rfl)).1;have h2:vs 2=_:=(hRx 2 (by kernel_rfl)).1;have h3:vs 3=_:=(hRx 3 (by kernel_rfl)).1;have H4:=(hRx 4 (by kernel_rfl)).1;obtain ⟨a4,c4,h4⟩:=H4;have h5:vs 5=_:=(hRx 5 (by kernel_rfl)).1;have h6:vs 6=_:=(hRx 6 (by kernel_rfl)).1;have h7:vs 7=_:=(hRx 7 (by kernel_rfl)).1;have h8:vs 8=_:=(hRx 8 (by kernel_rfl)).1;have h9:vs 9=_:=(hRx 9 (by kernel_rfl)).1;have h10:vs 10=_:=(hRx 10 (by kernel_rfl)).1;have h11:vs 11=_:=(hRx 11 (by kernel_rfl)).1;have H12:=(hRx 12 (by kernel_rfl)).1;obtain ⟨a12,c12,h12⟩:=H12;have h13:vs 13=_:=(hRx 13 (by kernel_rfl)).1;have h14:vs 14=_:=(hRx 14 (by kernel_rfl)).1;have h15:vs 15=_:=(hRx 15 (by kernel_rfl)).1;simp only [zBg,Act.put,List.setIfInBounds_toArray,lz,ls,h0,h1,h2,h3,h4,h5,h6,h7,h8,h9,h10,h11,h12,h13,h14,h15];clear hRx hdx;have hb:=zAq hbx;have HB2:=hid (zAd HBO.out hb);refine zAt (i:=16) (by kernel_rfl) rfl (fun K hK=> ?_);go_simp;refine hK.out _ _ ?_;clear hK;refine wpAny_done (by kernel_rfl) ?_ _;go_wp2
  (try simp only [Exit.inBlock,Exit.then])
  (try rw [Exit.noGoto_ret])
  go_ret;exact ⟨by rw [HW.out];rfl,HB2.out⟩
theorem at_any (f:FuncId) (cap v:Value) (j:Nat) (b:Bool) (xs:List Cx) (s:ByteArray) (w:World) (hv:IsSl w 1 v xs.length (xs.map mkC)) (hj:b=true→j < xs.length)
 (hcl:∀ (args:Array Value) (w':World),(callFunc f args).run Tryz.prog w'=.ok (.enter f args) w')
 (hf:Calls Tryz.prog f #[cap,.string s] w fun e w''=> e=.returned (.tuple #[.int .i64 j,.bool b])∧w=w''):
 Calls Tryz.prog 76 #[.func (.func f) #[cap] #[],v,.string s] w fun e w'=> e=.returned (.tuple #[mkC (if b=true then xs.getD j (0,0) else (0,0)),.bool b])∧Below w.heap.size w w':=by
 obtain ⟨i0,hi,hz0,hz1,hz2⟩:=info_parts zEm;obtain ⟨a,c,rfl⟩:=hv.form;have HF:=hid hf;clear hf;cases b
 · go_enter Tryz.func76,Tryz.ntmps76;go_wp2_with (first | (refine HF.out.mono ?_;rintro e w' ⟨rfl,rfl⟩) | (go_simp;refine HF.out.mono ?_;rintro e w' ⟨rfl,rfl⟩))
   (try rw [Exit.noGoto_ret])
   refine bodyPost_ret (v:=.tuple #[.complex .f64 0 0,.bool false]) ?_ rfl ⟨rfl,Below.refl _ _⟩;rw [results_tmp2 rfl];rfl
 · obtain ⟨g,o,x0,hidx,hg,hc,hx0⟩:=IsSl.at1 Tryz.underlying70 hi hz1 hv (hj rfl);obtain ⟨x,hx,rfl⟩:=map_getElem? hx0;clear hj;have HX:=hid (show xs.getD j (0,0)=x by rw [List.getD_eq_getElem?_getD,hx];rfl);unfold mkC at hc;clear hx hx0;go_enter Tryz.func76,Tryz.ntmps76;go_wp2_with (first | (refine HF.out.mono ?_;rintro e w' ⟨rfl,rfl⟩) | (go_simp;refine HF.out.mono ?_;rintro e w' ⟨rfl,rfl⟩))
   (try rw [Exit.noGoto_ret])
   refine bodyPost_ret (v:=.tuple #[mkC x,.bool true]) ?_ rfl ⟨by rw [←HX.out];simp,Below.refl _ _⟩;rw [results_tmp2 rfl];rfl
end
end Go.Proofs.YtejooaeppcjhjaaGreat
