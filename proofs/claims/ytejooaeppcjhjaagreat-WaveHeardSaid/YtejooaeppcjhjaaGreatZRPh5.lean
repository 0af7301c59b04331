/- a part of the proof of the last text -/
import Derived.Test.YtejooaeppcjhjaaGreatZRPh4
import Derived.Test.YtejooaeppcjhjaaGreatZMHrd1
namespace Go.Proofs.YtejooaeppcjhjaaGreat
set_option linter.all false
set_option maxHeartbeats 4000000
set_option maxRecDepth 100000
open Go.RowKit
def zFd (b:Bool) (l:List El) (om:Nat):List Cx × (Int × Int):=
 if askS b om≠0 then ([],zEj (askS b om)) else if grdS false l≠ (0,0) then ([],grdS false l) else if (matS false l om).2≠ (0,0) then ([],(matS false l om).2) else rgtE false l
theorem plain_ne {e:Int} (h:e≠0):zEj e≠ (0,0):=fun h2=> h (plain_zero h2)
theorem sol_right (b:Bool) (l:List El) (om:Nat):solS b l om=if (zFd b l om).2≠ (0,0) then (none,(zFd b l om).2) else zDd false l om (zFd b l om).1:=by
 unfold solS zFd
 by_cases h1:askS b om=0
 · have e1:¬(askS b om≠0):=fun h=> h h1
   rw [if_neg e1,if_neg e1]
   by_cases h2:grdS false l=(0,0)
   · have e2:¬(grdS false l≠ (0,0)):=fun h=> h h2
     rw [if_neg e2,if_neg e2]
     by_cases h3:(matS false l om).2=(0,0)
     · have e3:¬((matS false l om).2≠ (0,0)):=fun h=> h h3
       rw [if_neg e3,if_neg e3]
     · rw [if_pos h3,if_pos h3];dsimp only;rw [if_pos h3]
   · rw [if_pos h2,if_pos h2];dsimp only;rw [if_pos h2]
 · rw [if_pos h1,if_pos h1];dsimp only;rw [if_pos (plain_ne h1)]
theorem right_ask {b:Bool} {l:List El} {om:Nat} (h:(zFd b l om).2=(0,0)):askS b om=0∧(zFd b l om).1.length≤szL l:=by
 unfold zFd at *
 by_cases h1:askS b om=0
 · have e1:¬(askS b om≠0):=fun h=> h h1
   refine ⟨h1,?_⟩;rw [if_neg e1]
   split
   · exact Nat.zero_le _
   · split
     · exact Nat.zero_le _
     · exact rgt_len l
 · rw [if_pos h1] at h;exact absurd h (plain_ne h1)
theorem rright20_any (p:Value) (l:List El) (om:Nat) (w:World) (hp:RN w p l) (hg:NetG l) (hu:Uniq l):
 Calls Tryz.prog 81 #[p,.float .f64 om] w (zGq (zFd (zAw p) l om) w):=by
 have hb1:=(Below.refl w.heap.size w).alloc (Nat.le_refl _) (.cells #[.int .i64 0,.int .i64 0] 32);have HBO:=hid hb1;have HT:=hid (heap_alloc_new w (.cells #[.int .i64 0,.int .i64 0] 32));have HP0:=hid hp;have HG:=hid hg;have HUQ:=hid hu;clear hp hg hu hb1;go_enter Tryz.func81,Tryz.ntmps81;go_upto_region 1 with fail;generalize w.alloc (.cells #[.int .i64 0,.int .i64 0] 32)=w1 at *;obtain ⟨gt,hgt⟩:∃gt,w.heap.size=gt:=⟨_,rfl⟩;rw [hgt] at HT⊢;have HGT:=hid hgt;clear hgt;obtain ⟨p1,p2,hpp⟩:∃p1 p2,zEj (askS (noRef p) om)=(p1,p2):=⟨_,_,rfl⟩;have HPL:=hid hpp;obtain ⟨f1,f2,hf⟩:∃f1 f2,grdS false l=(f1,f2):=⟨_,_,rfl⟩;have HF:=hid hf;obtain ⟨r1,D1,e1,a1,hS⟩:∃r D e a,matS false l om=((r,D),(e,a)):=⟨_,_,_,_,rfl⟩;have HS:=hid hS;obtain ⟨R,x1,x2,hR⟩:∃R x1 x2,rgtE false l=(R,(x1,x2)):=⟨_,_,_,rfl⟩;have HR:=hid hR;clear hpp hf hS hR;go_upto_region 2 with (go_at_call 130;refine (rbegin_any p l om _ (HP0.out.below HBO.out (Nat.le_refl _))).mono ?_;rintro e w2 ⟨rfl,hb⟩;have HT1:=hid (zAc hb HT.out);have HB1:=hid (zAd HBO.out hb);rw [HPL.out];(try dsimp only);clear hb);clear HT HBO;have HT2:=hid (zAc ((Below.refl w2.heap.size w2).alloc (Nat.le_refl _) (.cells #[.int .i64 p1,.int .i64 p2] 32)) HT1.out);have HB2:=hid (zAd HB1.out ((Below.refl w2.heap.size w2).alloc (Nat.le_refl _) (.cells #[.int .i64 p1,.int .i64 p2] 32)));have HNE:=hid (show gt < w2.heap.size from (Array.getElem?_eq_some_iff.1 HT1.out).1);have H6:=hid (heap_alloc_new w2 (.cells #[.int .i64 p1,.int .i64 p2] 32));clear HT1 HB1;generalize w2.alloc (.cells #[.int .i64 p1,.int .i64 p2] 32)=w3 at *;generalize w2.heap.size=g6 at *;rcases zBw (p1,p2) with hz | ⟨hnz,hw⟩
 rotate_left
 · have HW:=hid (show zFd (zAw p) l om=([],(p1,p2)) by
    have h1:=HPL.out;rw [noRef_eq] at h1;have h2:askS (zAw p) om≠0:=fun h=> hnz (by rw [←h1,h];rfl)
    unfold zFd;rw [if_pos h2,h1])
   dsimp only at hw;clear hnz;rcases hw with q1 | ⟨q1,q0,q2⟩
   all_goals
    have hbk:=zAb HT2.out;have t0:=hbk.1 0 _ rfl;have t1:=hbk.1 1 _ rfl;have tf0:=hbk.2 0;have tf1:=hbk.2 1;clear hbk;have hbk:=zAb H6.out;have v0:=hbk.1 0 _ rfl;have v1:=hbk.1 1 _ rfl;have vf0:=hbk.2 0;have vf1:=hbk.2 1;clear hbk;have hgne:gt≠g6:=by have:=HNE.out;omega
    have ko:∀ (u:World) (o q:Nat) (v:Value),(u.setCell ⟨gt,o,none⟩ v).cell? ⟨g6,q,none⟩=u.cell? ⟨g6,q,none⟩:=fun u o q v=> World.cell?_setCell_other u _ _ v (fun e=> hgne (congrArg Addr.block e))
    go_upto_region 3 with fail;go_region_with fail
    all_goals (go_wp2_with fail)
    all_goals (try simp only [Exit.inBlock,Exit.then])
    all_goals (try rw [Exit.noGoto_ret])
    all_goals (refine bodyPost_ret (v:=.tuple #[.slice none 0 0,.agg #[.int .i64 p1,.int .i64 p2]]) ?_ rfl (zGq.bad HW.out (zBv HB2.out (Nat.le_of_eq HGT.out)).drew))
    all_goals (rw [zAi rfl];go_simp;done)
 have HA:=hid (show askS (zAw p) om=0 by have h1:=HPL.out;rw [noRef_eq,hz] at h1;exact plain_zero h1);obtain ⟨hz1,hz2⟩:=Prod.mk.inj hz;subst hz1 hz2;clear hz;have HQ:=hid (ask_b HA.out);have hbk:=zAb H6.out;have v0:=hbk.1 0 _ rfl;have v1:=hbk.1 1 _ rfl;have vf0:=hbk.2 0;have vf1:=hbk.2 1;clear hbk;go_upto_region 5 with (go_at_call 131;refine (rgrounded_any p l _ (HP0.out.below HB2.out (Nat.le_refl _)) (by have:=HG.out.len;omega) HG.out.ck).mono ?_;rintro e w4 ⟨rfl,hb⟩;have HT3:=hid (zAc hb HT2.out);have H63:=hid (zAc hb H6.out);have HB3:=hid (zAd HB2.out hb);rw [HQ.out,HF.out];(try dsimp only);clear v0 v1 vf0 vf1;have hbk:=zAb H63.out;have v0:=hbk.1 0 _ rfl;have v1:=hbk.1 1 _ rfl;have vf0:=hbk.2 0;have vf1:=hbk.2 1;clear hbk;clear hb);clear v0 v1 vf0 vf1 HT2 H6 HB2;have HTr3:=hid (zAk (zAf (zAj w4 g6 0 (.int .i64 f1)) (zAj _ g6 1 (.int .i64 f2))) (by have:=HNE.out;omega) HT3.out);have H6r3:Hid (((w4.setCell ⟨g6,0,none⟩ (.int .i64 f1)).setCell ⟨g6,1,none⟩ (.int .i64 f2)).heap[g6]? =some (.cells #[.int .i64 f1,.int .i64 f2] 32 (0,0))):=hid (zBi (zBi H63.out _) _);have HBr3:=hid ((HB3.out.setCell (p:=⟨g6,0,none⟩) (by have:=HNE.out;have:=HGT.out;dsimp only;omega) (.int .i64 f1)).setCell (p:=⟨g6,1,none⟩) (by have:=HNE.out;have:=HGT.out;dsimp only;omega) (.int .i64 f2));clear HT3 H63 HB3;generalize ((w4.setCell ⟨g6,0,none⟩ (.int .i64 f1)).setCell ⟨g6,1,none⟩ (.int .i64 f2))=w5 at *;rcases zBw (f1,f2) with hz | ⟨hnz,hw⟩
 rotate_left
 · have HW:=hid (show zFd (zAw p) l om=([],(f1,f2)) by
    unfold zFd;rw [if_neg (fun h=> h HA.out),HF.out,if_pos hnz])
   dsimp only at hw;clear hnz;rcases hw with q1 | ⟨q1,q0,q2⟩
   all_goals
    have hbk:=zAb HTr3.out;have t0:=hbk.1 0 _ rfl;have t1:=hbk.1 1 _ rfl;have tf0:=hbk.2 0;have tf1:=hbk.2 1;clear hbk;have hbk:=zAb H6r3.out;have v0:=hbk.1 0 _ rfl;have v1:=hbk.1 1 _ rfl;have vf0:=hbk.2 0;have vf1:=hbk.2 1;clear hbk;have hgne:gt≠g6:=by have:=HNE.out;omega
    have ko:∀ (u:World) (o q:Nat) (v:Value),(u.setCell ⟨gt,o,none⟩ v).cell? ⟨g6,q,none⟩=u.cell? ⟨g6,q,none⟩:=fun u o q v=> World.cell?_setCell_other u _ _ v (fun e=> hgne (congrArg Addr.block e))
    go_upto_region 6 with fail;go_region_with fail
    all_goals (go_wp2_with fail)
    all_goals (try simp only [Exit.inBlock,Exit.then])
    all_goals (try rw [Exit.noGoto_ret])
    all_goals (refine bodyPost_ret (v:=.tuple #[.slice none 0 0,.agg #[.int .i64 f1,.int .i64 f2]]) ?_ rfl (zGq.bad HW.out (zBv HBr3.out (Nat.le_of_eq HGT.out)).drew))
    all_goals (rw [zAi rfl];go_simp;done)
 obtain ⟨hz1,hz2⟩:=Prod.mk.inj hz;subst hz1 hz2;clear hz;have hbk:=zAb H6r3.out;have v0:=hbk.1 0 _ rfl;have v1:=hbk.1 1 _ rfl;have vf0:=hbk.2 0;have vf1:=hbk.2 1;clear hbk;go_upto_region 8 with (go_at_call 52;refine (((rmx_any p l om _ (HP0.out.below HBr3.out (Nat.le_refl _)) HQ.out HG.out).mono fun _ _ h=> RetMz.of HS.out h)).mono ?_;rintro e w6 ⟨v1',ms,rfl,hxs,hown,hb⟩;have HT4:=hid (zAc hb HTr3.out);have H64:=hid (zAc hb H6r3.out);have HB4:=hid (zAd HBr3.out hb);obtain ⟨am,cm,rfl⟩:=(IsSl.of_own hown).form;clear hxs hown;clear v0 v1 vf0 vf1;have hbk:=zAb H64.out;have v0:=hbk.1 0 _ rfl;have v1:=hbk.1 1 _ rfl;have vf0:=hbk.2 0;have vf1:=hbk.2 1;clear hbk;clear hb);clear v0 v1 vf0 vf1 HTr3 H6r3 HBr3;have HTr4:=hid (zAk (zAf (zAj w6 g6 0 (.int .i64 e1)) (zAj _ g6 1 (.int .i64 a1))) (by have:=HNE.out;omega) HT4.out);have H6r4:Hid (((w6.setCell ⟨g6,0,none⟩ (.int .i64 e1)).setCell ⟨g6,1,none⟩ (.int .i64 a1)).heap[g6]? =some (.cells #[.int .i64 e1,.int .i64 a1] 32 (0,0))):=hid (zBi (zBi H64.out _) _);have HBr4:=hid ((HB4.out.setCell (p:=⟨g6,0,none⟩) (by have:=HNE.out;have:=HGT.out;dsimp only;omega) (.int .i64 e1)).setCell (p:=⟨g6,1,none⟩) (by have:=HNE.out;have:=HGT.out;dsimp only;omega) (.int .i64 a1));clear HT4 H64 HB4;generalize ((w6.setCell ⟨g6,0,none⟩ (.int .i64 e1)).setCell ⟨g6,1,none⟩ (.int .i64 a1))=w7 at *;rcases zBw (e1,a1) with hz | ⟨hnz,hw⟩
 rotate_left
 · have HW:=hid (show zFd (zAw p) l om=([],(e1,a1)) by
    unfold zFd;rw [if_neg (fun h=> h HA.out),HF.out,if_neg (fun h=> h rfl),HS.out,if_pos hnz])
   dsimp only at hw;clear hnz;rcases hw with q1 | ⟨q1,q0,q2⟩
   all_goals
    have hbk:=zAb HTr4.out;have t0:=hbk.1 0 _ rfl;have t1:=hbk.1 1 _ rfl;have tf0:=hbk.2 0;have tf1:=hbk.2 1;clear hbk;have hbk:=zAb H6r4.out;have v0:=hbk.1 0 _ rfl;have v1:=hbk.1 1 _ rfl;have vf0:=hbk.2 0;have vf1:=hbk.2 1;clear hbk;have hgne:gt≠g6:=by have:=HNE.out;omega
    have ko:∀ (u:World) (o q:Nat) (v:Value),(u.setCell ⟨gt,o,none⟩ v).cell? ⟨g6,q,none⟩=u.cell? ⟨g6,q,none⟩:=fun u o q v=> World.cell?_setCell_other u _ _ v (fun e=> hgne (congrArg Addr.block e))
    go_upto_region 9 with fail;go_region_with fail
    all_goals (go_wp2_with fail)
    all_goals (try simp only [Exit.inBlock,Exit.then])
    all_goals (try rw [Exit.noGoto_ret])
    all_goals (refine bodyPost_ret (v:=.tuple #[.slice none 0 0,.agg #[.int .i64 e1,.int .i64 a1]]) ?_ rfl (zGq.bad HW.out (zBv HBr4.out (Nat.le_of_eq HGT.out)).drew))
    all_goals (rw [zAi rfl];go_simp;done)
 obtain ⟨hz1,hz2⟩:=Prod.mk.inj hz;subst hz1 hz2;clear hz;have HW:=hid (show zFd (zAw p) l om=(R,(x1,x2)) by unfold zFd;rw [if_neg (fun h=> h HA.out),HF.out,if_neg (fun h=> h rfl),HS.out,if_neg (fun h=> h rfl),HR.out]);have hbk:=zAb H6r4.out;have v0:=hbk.1 0 _ rfl;have v1:=hbk.1 1 _ rfl;have vf0:=hbk.2 0;have vf1:=hbk.2 1;clear hbk;go_wp2_with (go_at_call 132;refine (rright_any p l _ (HP0.out.below HBr4.out (Nat.le_refl _)) (by have:=HG.out.len;omega) HG.out.ok HG.out.ck HUQ.out HG.out.sz).mono ?_;rintro e w8 ⟨vr,bs,he,hbs,hown,hb⟩;have HT5:=hid (zAc hb HTr4.out);have H65:=hid (zAc hb H6r4.out);have HB5:=hid (zAd HBr4.out hb);rw [HQ.out,HR.out] at he hbs;dsimp only at he hbs;subst he;obtain ⟨av,cv,rfl⟩:=(IsSl.of_own hown).form;have HBS:=hid hbs;have HO:=hid hown;have HLE:=hid (show w.heap.size≤w7.heap.size from HBr4.out.size);have HNT:=hid (show gt < w7.heap.size from (Array.getElem?_eq_some_iff.1 HTr4.out).1);clear hbs hown;clear v0 v1 vf0 vf1;have hbk:=zAb HT5.out;have t0:=hbk.1 0 _ rfl;have t1:=hbk.1 1 _ rfl;have tf0:=hbk.2 0;have tf1:=hbk.2 1;clear hbk;clear hb)
 (try simp only [Exit.inBlock,Exit.then])
 (try rw [Exit.noGoto_ret])
 refine bodyPost_ret (v:=.tuple #[.slice av bs.length cv,.agg #[.int .i64 x1,.int .i64 x2]]) ?_ rfl ⟨_,bs,by rw [HW.out],by rw [HW.out];exact HBS.out,zBs (zAz HO.out (zAf (zAj w8 gt 0 (.int .i64 x1)) (zAj _ gt 1 (.int .i64 x2))) (fun r e e2=> by obtain rfl:=Option.some.inj e2;have:=(HO.out.lt _ e).1;have:=HNT.out;omega)) HLE.out,zBv HB5.out (Nat.le_of_eq HGT.out)⟩;rw [zAi rfl];go_simp
theorem rsolve20_any (p:Value) (l:List El) (om:Nat) (w:World) (hp:RN w p l) (hg:NetG l) (hu:Uniq l):
 Calls Tryz.prog 31 #[p,.float .f64 om] w (zGo om (nds l).length (brs l).length (solS (zAw p) l om) w):=by
 obtain ⟨t1,t2,t3⟩:=zDk w (.cells #[.float .f64 0,.slice none 0 0,.slice none 0 0] 72) (.cells #[.int .i64 0,.int .i64 0] 32);have HT:=hid t1;have HU:=hid t2;have HBO:=hid t3;have HP0:=hid hp;have HG:=hid hg;have HUQ:=hid hu;clear hp hg hu t1 t2 t3;go_enter Tryz.func31,Tryz.ntmps31;go_upto_region 1 with fail;generalize (w.alloc (.cells #[.float .f64 0,.slice none 0 0,.slice none 0 0] 72)).alloc (.cells #[.int .i64 0,.int .i64 0] 32)=w1 at *;obtain ⟨gt,hgt⟩:∃gt,w.heap.size=gt:=⟨_,rfl⟩;rw [hgt] at HT HU⊢;have HGT:=hid hgt;clear hgt;obtain ⟨R,x1,x2,hR⟩:∃R x1 x2,zFd (zAw p) l om=(R,(x1,x2)):=⟨_,_,_,rfl⟩;have HR:=hid hR;have HSR:=hid (sol_right (zAw p) l om);clear hR;go_upto_region 2 with (go_at_call 81;refine (rright20_any p l om _ (HP0.out.below HBO.out (Nat.le_refl _)) HG.out HUQ.out).mono ?_;rintro e w2 ⟨vr,bs,he,hbs,hown,hb⟩;have HT1:=hid (zAc hb HT.out);have HU1:=hid (zAc hb HU.out);have HB1:=hid (zAd HBO.out hb);rw [HR.out] at he hbs;dsimp only at he hbs;subst he;have HV:=hid (IsSl.of_own hown);obtain ⟨av,cv,rfl⟩:=(IsSl.of_own hown).form;have HBS:=hid hbs;clear hbs hown;clear hb);clear HT HU HBO;have HT2:=hid (zAc ((Below.refl w2.heap.size w2).alloc (Nat.le_refl _) (.cells #[.int .i64 x1,.int .i64 x2] 32)) HT1.out);have HU2:=hid (zAc ((Below.refl w2.heap.size w2).alloc (Nat.le_refl _) (.cells #[.int .i64 x1,.int .i64 x2] 32)) HU1.out);have HV2:=hid (HV.out.below ((Below.refl w2.heap.size w2).alloc (Nat.le_refl _) (.cells #[.int .i64 x1,.int .i64 x2] 32)) (Nat.le_refl _));have HB2:=hid (zAd HB1.out ((Below.refl w2.heap.size w2).alloc (Nat.le_refl _) (.cells #[.int .i64 x1,.int .i64 x2] 32)));have H6:=hid (heap_alloc_new w2 (.cells #[.int .i64 x1,.int .i64 x2] 32))
 clear HT1 HU1 HV HB1;generalize w2.alloc (.cells #[.int .i64 x1,.int .i64 x2] 32)=w3 at *;generalize w2.heap.size=g6 at *;rcases zBw (x1,x2) with hz | ⟨hnz,hw⟩
 rotate_left
 · have HW:=hid (show solS (zAw p) l om=(none,(x1,x2)) by rw [HSR.out,HR.out,if_pos hnz]);dsimp only at hw;clear hnz;rcases hw with q1 | ⟨q1,q0,q2⟩
   all_goals
    have hbk:=zAb HT2.out;have t0:=hbk.1 0 _ rfl;have t1:=hbk.1 1 _ rfl;have t2:=hbk.1 2 _ rfl;have tf0:=hbk.2 0;have tf1:=hbk.2 1;have tf2:=hbk.2 2;clear hbk;have hbk:=zAb HU2.out;have u0:=hbk.1 0 _ rfl;have u1:=hbk.1 1 _ rfl;have uf0:=hbk.2 0;have uf1:=hbk.2 1;clear hbk;have hbk:=zAb H6.out;have v0:=hbk.1 0 _ rfl;have v1:=hbk.1 1 _ rfl;have vf0:=hbk.2 0;have vf1:=hbk.2 1;clear hbk;have hgne:=zAv HT2.out H6.out (by decide);have ko:∀ (u:World) (o q:Nat) (v:Value),(u.setCell ⟨gt,o,none⟩ v).cell? ⟨g6,q,none⟩=u.cell? ⟨g6,q,none⟩:=fun u o q v=> World.cell?_setCell_other u _ _ v (fun e=> hgne (congrArg Addr.block e))
    go_upto_region 3 with fail;go_region_with fail
    all_goals (go_wp2_with fail)
    all_goals (try simp only [Exit.inBlock,Exit.then])
    all_goals (try rw [Exit.noGoto_ret])
    all_goals (refine bodyPost_ret (v:=.tuple #[.agg #[.float .f64 0,.slice none 0 0,.slice none 0 0],.agg #[.int .i64 x1,.int .i64 x2]]) ?_ rfl ⟨(zBk HB2.out (Nat.le_of_eq HGT.out)).drew,.inl ⟨by rw [HW.out],by rw [HW.out]⟩⟩)
    all_goals (rw [zAh rfl];go_simp;done)
 obtain ⟨hz1,hz2⟩:=Prod.mk.inj hz;subst hz1 hz2;clear hz;have hra:=right_ask (b:=zAw p) (l:=l) (om:=om) (by rw [HR.out]);have HQ:=hid (ask_b hra.1);have HBL:=hid (show bs.length≤64 by have h:=hra.2;rw [HR.out,←HBS.out,List.length_map] at h;exact Nat.le_trans h HG.out.sz);clear hra;have HW0:=hid (show solS (zAw p) l om=zDd (zAw p) l om (bs.map ck) by rw [HSR.out,HR.out,if_neg (fun h=> h rfl),HQ.out,HBS.out]);have hbk:=zAb H6.out;have v0:=hbk.1 0 _ rfl;have v1:=hbk.1 1 _ rfl;have vf0:=hbk.2 0;have vf1:=hbk.2 1;clear hbk;go_upto_region 4 with fail;clear v0 v1 vf0 vf1;cases hsb:(zDd (zAw p) l om (bs.map ck)).1
 · have HSB:=hid hsb;obtain ⟨y1,y2,hy⟩:∃y1 y2,(zDd (zAw p) l om (bs.map ck)).2=(y1,y2):=⟨_,_,rfl⟩;have HY:=hid hy;have HW:=hid (show solS (zAw p) l om=(none,(y1,y2)) by rw [HW0.out];exact Prod.ext hsb hy);clear hsb hy;go_wp2_with (go_at_call 82;refine (((rwith_any p (.slice av bs.length cv) l om bs _ (HP0.out.below HB2.out (Nat.le_refl _)) HG.out HV2.out (by have:=HBL.out;omega)).mono fun _ _ h=> h.no HSB.out)).mono ?_;rintro e wa ⟨rfl,hb⟩;have HT3:=hid (zAc hb HT2.out);have HU3:=hid (zAc hb HU2.out);have HV3:=hid (HV2.out.below hb (Nat.le_refl _));have H63:=hid (zAc hb H6.out);have HB3:=hid (zAd HB2.out hb);rw [HY.out];(try dsimp only);have hbk:=zAb HT3.out;have tf0:=hbk.2 0;have tf1:=hbk.2 1;have tf2:=hbk.2 2;have t0:=hbk.1 0 _ rfl;have t1:=hbk.1 1 _ rfl;have t2:=hbk.1 2 _ rfl;clear hbk;have hbk:=zAb HU3.out;have uf0:=hbk.2 0;have uf1:=hbk.2 1;have u0:=hbk.1 0 _ rfl;have u1:=hbk.1 1 _ rfl;clear hbk;clear hb)
   (try simp only [Exit.inBlock,Exit.then])
   (try rw [Exit.noGoto_ret])
   (refine bodyPost_ret (v:=.tuple #[.agg #[.float .f64 0,.slice none 0 0,.slice none 0 0],.agg #[.int .i64 y1,.int .i64 y2]]) ?_ rfl ⟨(zBk HB3.out (Nat.le_of_eq HGT.out)),.inl ⟨by rw [HW.out],by rw [HW.out]⟩⟩)
   (rw [zAh rfl];go_simp;done)
 · rename_i x;have HSB:=hid hsb;clear hsb;go_wp2_with (go_at_call 82;refine (((rwith_any p (.slice av bs.length cv) l om bs _ (HP0.out.below HB2.out (Nat.le_refl _)) HG.out HV2.out (by have:=HBL.out;omega)).mono fun _ _ h=> h.yes HSB.out)).mono ?_;rintro e wa ⟨a1,a2,c1,c2,xs1,xs2,rfl,hs2,ho1,ho2,hx1,hx2,hb⟩;have HT3:=hid (zAc hb HT2.out);have HU3:=hid (zAc hb HU2.out);have HV3:=hid (HV2.out.below hb (Nat.le_refl _));have H63:=hid (zAc hb H6.out);have HB3:=hid (zAd HB2.out hb);have HW:=hid (show solS (zAw p) l om=(some x,(0,0)) by rw [HW0.out];exact Prod.ext HSB.out hs2);have HX1:=hid hx1;have HX2:=hid hx2;have HBA:=hid (show gt+1 < w3.heap.size from (Array.getElem?_eq_some_iff.1 HU2.out).1);have HLE:=hid (show w.heap.size≤w3.heap.size from HB2.out.size);have HO1:=hid ho1;have HO2:=hid ho2;clear ho1 ho2 hx1 hx2 hs2;have hbk:=zAb HT3.out;have tf0:=hbk.2 0;have tf1:=hbk.2 1;have tf2:=hbk.2 2;have t0:=hbk.1 0 _ rfl;have t1:=hbk.1 1 _ rfl;have t2:=hbk.1 2 _ rfl;clear hbk;have hbk:=zAb HU3.out;have uf0:=hbk.2 0;have uf1:=hbk.2 1;have u0:=hbk.1 0 _ rfl;have u1:=hbk.1 1 _ rfl;clear hbk;clear hb)
   (try simp only [Exit.inBlock,Exit.then])
   (try rw [Exit.noGoto_ret])
   (refine bodyPost_ret (v:=.tuple #[.agg #[.float .f64 om,.slice a1 (nds l).length c1,.slice a2 (brs l).length c2],.agg #[.int .i64 0,.int .i64 0]]) ?_ rfl ⟨(zBk HB3.out (Nat.le_of_eq HGT.out)),.inr ⟨x,a1,a2,c1,c2,xs1,xs2,HW.out,rfl,zBs (own_five HO1.out HBA.out) HLE.out,zBs (own_five HO2.out HBA.out) HLE.out,HX1.out,HX2.out⟩⟩)
   (rw [zAh rfl];go_simp;done)
end Go.Proofs.YtejooaeppcjhjaaGreat
