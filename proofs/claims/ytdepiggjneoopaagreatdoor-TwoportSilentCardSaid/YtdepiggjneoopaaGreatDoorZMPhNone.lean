/- a part of the proof of the last text -/
import Derived.Test.YtdepiggjneoopaaGreatDoorZMtx2
import Derived.Test.YtdepiggjneoopaaGreatDoorZSlv1
import Derived.Deep.RegionWith
namespace Go.Proofs.YtdepiggjneoopaaGreatDoor
set_option linter.all false
set_option maxHeartbeats 4000000
set_option maxRecDepth 100000
section
open Go.RowKit
def RetMz (n:Nat) (zs:List Cx) (ea eb:Int) (w:World) (e:Ending) (w':World):Prop:=
 ∃ (v:Value) (xs:List Cx),e=.returned (.tuple #[.agg #[.int .i64 n,.int .i64 n,v],.agg #[.int .i64 ea,.int .i64 eb]])∧xs.map ck=zs∧w'.ownsRow w.heap.size 48 1 v xs.length (xs.map mkC)∧Below w.heap.size w w'
theorem RetMz.of {n:Nat} {zs:List Cx} {ea eb:Int} {w w':World} {e:Ending} {S:(Nat × List Cx) × (Int × Int)} (hS:S=((n,zs),(ea,eb))) (h:zEs S w e w'):RetMz n zs ea eb w e w':=by
 subst hS;exact h
theorem smx_any (p:Value) (l:List El) (om:Nat) (w:World) (hp:NN w p l) (hq:zBp p=false) (hg:NetG l):
 Calls Tryz.prog 100 #[p,.float .f64 om] w (zEs (matS false l om) w):=by
 by_cases ha:angE om=0
 · exact (smatrix_good p l om w hp hg.nm hq ha hg.ok (fun x hx=> check_isK (hg.ck x hx)) (by have:=hg.len;omega) hg.sz)
 · have h:=smatrix_bad p l om w hp hg.nm (.inr ha)
   rwa [hq] at h
end
section
open Go.RowKit
theorem asked_any (p:Value) (l:List El) (om:Nat) (w:World) (hp:NN w p l) (hn:has (l.map El.name) ⟨#[]⟩=false):
 Calls Tryz.prog 67 #[p,.float .f64 om] w (fun e w'=> e=.returned (.int .i64 (askS (zBp p) om))∧Below w.heap.size w w'):=by
 have HP:=hid hp;have HN:=hid hn;clear hp hn;cases hq:zBp p
 · have HQ:=hid hq;clear hq;cases hf:ffin (fc om)
   · have HF:=hid hf;have HA:=hid (ang_5 hf);clear hf;go_enter Tryz.func67,Tryz.ntmps67;go_wp2_with (first | (go_at_call 61;refine (zCh _ l _ HP.out HN.out).mono ?_;rintro e w' ⟨rfl,rfl⟩;rw [HQ.out]) | (refine zAo rfl _ _ _ _ _ rfl rfl _ _ rfl rfl ?_;intro r n hr;have hq:=zCa hr HF.out;simp only [Bool.not_false] at hq;clear hr))
     (try rw [Exit.noGoto_ret])
     go_ret;exact ⟨by unfold askS;rw [if_neg (by decide),HA.out];rfl,zAg (Below.refl _ _) _⟩
   · have HF:=hid hf;cases hg:(FloatKind.f64.format.order om 0==some .gt)
     · have HG:=hid hg;have HA:=hid (ang_2 hf hg);clear hf hg;go_enter Tryz.func67,Tryz.ntmps67;go_wp2_with (first | (go_at_call 61;refine (zCh _ l _ HP.out HN.out).mono ?_;rintro e w' ⟨rfl,rfl⟩;rw [HQ.out]) | (refine zAo rfl _ _ _ _ _ rfl rfl _ _ rfl rfl ?_;intro r n hr;have hq:=zCa hr HF.out;have oI:=HG.out;simp only [Bool.not_true] at hq;clear hr))
       (try rw [Exit.noGoto_ret])
       go_ret;exact ⟨by unfold askS;rw [if_neg (by decide),HA.out];rfl,zAg (Below.refl _ _) _⟩
     · have HG:=hid hg;have HA:=hid (ang_0 hf hg);clear hf hg;go_enter Tryz.func67,Tryz.ntmps67;go_wp2_with (first | (go_at_call 61;refine (zCh _ l _ HP.out HN.out).mono ?_;rintro e w' ⟨rfl,rfl⟩;rw [HQ.out]) | (refine zAo rfl _ _ _ _ _ rfl rfl _ _ rfl rfl ?_;intro r n hr;have hq:=zCa hr HF.out;have oI:=HG.out;simp only [Bool.not_true] at hq;clear hr))
       (try rw [Exit.noGoto_ret])
       go_ret;exact ⟨by unfold askS;rw [if_neg (by decide),HA.out];rfl,zAg (Below.refl _ _) _⟩
 · have HQ:=hid hq;clear hq;go_enter Tryz.func67,Tryz.ntmps67;go_wp2_with (go_at_call 61;refine (zCh _ l _ HP.out HN.out).mono ?_;rintro e w' ⟨rfl,rfl⟩;rw [HQ.out])
   (try rw [Exit.noGoto_ret])
   go_ret;exact ⟨by unfold askS;rw [if_pos rfl];rfl,Below.refl _ _⟩
end
section
open Go.RowKit
structure AltB (P:Nat→Prop) (w w':World):Prop where
 size:w.heap.size≤w'.heap.size
 block:∀k,k < w.heap.size→¬P k→w'.heap[k]? =w.heap[k]?
theorem AltB.refl (P:Nat→Prop) (w:World):AltB P w w:=⟨Nat.le_refl _,fun _ _ _=> rfl⟩
theorem AltB.drew {P:Nat→Prop} {w w':World} (h:AltB P w w'):AltB P w w'.drew:=⟨h.size,h.block⟩
theorem AltB.set {P:Nat→Prop} {w w':World} (h:AltB P w w') {r o:Nat} {v:Value} (hp:P r):AltB P w (w'.setCell ⟨r,o,none⟩ v):=
 ⟨by have:=h.size;simpa using this,fun k hk hn=> (Below.heap_setCell w' ⟨r,o,none⟩ v k (fun e=> hn (by rw [e];exact hp))).trans (h.block k hk hn)⟩
theorem AltB.heap {P:Nat→Prop} {w w':World} {g:Nat} {o:Obj} (h:AltB P w w') (hn:¬P g) (hx:w.heap[g]? =some o):w'.heap[g]? =some o:=(h.block g (Array.getElem?_eq_some_iff.1 hx).1 hn).trans hx
theorem own_sameA {w w':World} {B e s n:Nat} {v:Value} {xs:List Value} (h:w.ownsRow B e s v n xs) (hb:∀g,v.ownBlock=some g→w'.heap[g]? =w.heap[g]?):w'.ownsRow B e s v n xs:=
 ⟨h.1,h.2.imp id fun ⟨g,cap,cur,hv,hB,hg,r⟩=> ⟨g,cap,cur,hv,hB,(hb g (by rw [hv];rfl)).trans hg,r⟩⟩
theorem AltB.own {P:Nat→Prop} {w w':World} {B e s n:Nat} {v:Value} {xs:List Value} (h:AltB P w w') (ho:w.ownsRow B e s v n xs) (hn:∀r,v.ownBlock=some r→¬P r):w'.ownsRow B e s v n xs:=
 own_sameA ho fun r hr=> h.block r (ho.lt r hr).2 (hn r hr)
theorem LwAt.alt {P:Nat→Prop} {B g n m mo:Nat} {w w':World} {vR vO:Value} {bj:Nat→Nat} {M:Nat→List Cx} {ord:List Int} {sg:Int} (h:LwAt B w g vR vO n m mo bj M ord sg) (ha:AltB P w w')
 (hP:∀k,P k→∃cs t,w.heap[k]? =some (.cells cs t (0,0))∧t≠206 ∧t≠41 ∧t≠3 ∧t≠48):LwAt B w' g vR vO n m mo bj M ord sg:=by
 have key:∀ {k:Nat} {cs:Array Value} {t:TypeId},w.heap[k]? =some (.cells cs t (0,0))→(t=206 ∨t=41 ∨t=3 ∨t=48)→¬P k:=by
  intro k cs t hk ht hp;obtain ⟨cs',t',h1,h2,h3,h4,h5⟩:=hP k hp;rw [hk] at h1;cases h1;rcases ht with h | h | h | h
  · exact h2 h
  · exact h3 h
  · exact h4 h
  · exact h5 h
 exact ⟨h.gB,h.bB,ha.heap (key h.box (.inl rfl)) h.box,ha.own h.oR (fun r hr=> by obtain ⟨_,c,hc⟩:=zCj h.oR hr;exact key hc (.inr (.inl rfl))),
  ha.own h.oO (fun r hr=> by obtain ⟨_,c,hc⟩:=zCj h.oO hr;exact key hc (.inr (.inr (.inl rfl)))),fun j hj=> ha.heap (key (h.row j hj) (.inr (.inr (.inr rfl)))) (h.row j hj),h.len,h.inj⟩
end
section
open Go.RowKit
def workS (l:List El) (om:Nat):Option Es × (Int × Int):=
 if grdS false l≠ (0,0) then (none,grdS false l) else if (matS false l om).2≠ (0,0) then (none,(matS false l om).2) else lowM (szL l) (matK l om l.length)
def RetWork (n:Nat) (S:Option Es × (Int × Int)) (w:World) (e:Ending) (w':World):Prop:=
 ∃ (r0 r1:Int) (am:Option Addr) (lm cm:Nat) (p:Option Addr),e=.returned (.tuple #[.agg #[.int .i64 r0,.int .i64 r1,.slice am lm cm,.pointer p],.agg #[.int .i64 S.2.1,.int .i64 S.2.2]])∧Below w.heap.size w w'∧
  (S.1=none∨∃s g vR vO bj M ord sg,S.1=some s∧Value.pointer p=.pointer (some ⟨g,0,none⟩)∧LwAt w.heap.size w' g vR vO n n n bj M ord sg∧LwS n s M ord sg)
theorem below_six {B gt:Nat} {w u:World} {a0 a1 a2 a3 b0 b1:Value} (h:Below B w u) (hg:B≤gt):Below B w (((((((u.setCell ⟨gt,0,none⟩ a0).setCell ⟨gt,1,none⟩ a1).setCell ⟨gt,2,none⟩ a2).setCell ⟨gt,3,none⟩ a3).setCell ⟨gt+1,0,none⟩ b0).setCell ⟨gt+1,1,none⟩ b1).drew):=
 ((((((h.setCell (p:=⟨gt,0,none⟩) hg a0).setCell (p:=⟨gt,1,none⟩) hg a1).setCell (p:=⟨gt,2,none⟩) hg a2).setCell (p:=⟨gt,3,none⟩) hg a3).setCell (p:=⟨gt+1,0,none⟩) (Nat.le_succ_of_le hg) b0).setCell (p:=⟨gt+1,1,none⟩) (Nat.le_succ_of_le hg) b1).drew
theorem alt_six {gt:Nat} {u:World} {a0 a1 a2 a3 b0 b1:Value}:AltB (fun k=> k=gt∨k=gt+1) u (((((((u.setCell ⟨gt,0,none⟩ a0).setCell ⟨gt,1,none⟩ a1).setCell ⟨gt,2,none⟩ a2).setCell ⟨gt,3,none⟩ a3).setCell ⟨gt+1,0,none⟩ b0).setCell ⟨gt+1,1,none⟩ b1).drew):=
 (((((((AltB.refl _ u).set (.inl rfl)).set (.inl rfl)).set (.inl rfl)).set (.inl rfl)).set (.inr rfl)).set (.inr rfl)).drew
theorem zDk (f:Int × Int):(f=(0,0))∨(f≠ (0,0)∧((f.1==0)=false∨((f.1==0)=true∧f.1=0∧(f.2==0)=false))):=by
 obtain ⟨a,b⟩:=f
 by_cases ha:a=0
 · by_cases hb:b=0
   · subst ha hb;exact .inl rfl
   · exact .inr ⟨fun h=> hb (Prod.mk.inj h).2,.inr ⟨by simpa using ha,ha,by simpa using hb⟩⟩
 · exact .inr ⟨fun h=> ha (Prod.mk.inj h).1,.inl (by simpa using ha)⟩
theorem mat_kz {l:List El} {om:Nat} (h:(matS false l om).2=(0,0)):(matS false l om).1=(szL l,(List.range (szL l * szL l)).map (matK l om l.length)):=by
 unfold matS at *;rw [if_neg (by simp)] at h⊢
 by_cases ha:angE om=0
 · rw [if_neg (by simpa using ha)] at h⊢
   by_cases h0:(matR l om 0 l fun _=> cZero).2.1=0
   · rw [if_pos h0];have hd:matS false l om=((szL l,(List.range (szL l * szL l)).map (matR l om 0 l fun _=> cZero).1),(0,0)):=by unfold matS;rw [if_neg (by simp),if_neg (by simpa using ha),if_pos h0]
     have bT:∀ (i:Nat) (x:El),l[i]? =some x→(zBd l om (matK l om i) x).2=0:=fun i=> by
      induction i using Nat.strongRecOn with
      | _ i ih=>
       intro x hx
       by_cases hz:(zBd l om (matK l om i) x).2=0
       · exact hz
       · have:=zCr ha hx (fun j y hj hy=> ih j hj y hy) hz;rw [hd] at this;exact absurd (Prod.mk.inj (Prod.mk.inj this).2).1.symm hz
     have h2:=mat_done ha bT;rw [hd] at h2;exact (Prod.mk.inj h2).1
   · rw [if_neg h0] at h;exact absurd (Prod.mk.inj h).1 h0
 · rw [if_pos ha] at h;exact absurd (Prod.mk.inj h).1 ha
theorem mat_sq {l:List El} {om n:Nat} {xs:List Cx} (h:(n,xs.map ck)=(szL l,(List.range (szL l * szL l)).map (matK l om l.length))):n=szL l∧xs.length=n * n∧∀i,i < n * n→matK l om l.length i=ck (xs.getD i (0,0)):=by
 obtain ⟨h1,h2⟩:=Prod.mk.inj h;subst h1;have hl:xs.length=szL l * szL l:=by have:=congrArg List.length h2;simpa using this
 refine ⟨rfl,hl,fun i hi=> ?_⟩;have h3:(xs.map ck)[i]? =some (matK l om l.length i):=by rw [h2,List.getElem?_map,List.getElem?_range hi];rfl
 rw [List.getElem?_map,List.getElem?_eq_getElem (by omega)] at h3;rw [List.getD_eq_getElem?_getD,List.getElem?_eq_getElem (by omega)];exact (Option.some.inj h3).symm
theorem work_any (p:Value) (l:List El) (om:Nat) (w:World) (hp:NN w p l) (hq:zBp p=false) (hg:NetG l):
 Calls Tryz.prog 69 #[p,.float .f64 om] w (RetWork (szL l) (workS l om) w):=by
 obtain ⟨t1,t2,t3⟩:=zEc w (.cells #[.int .i64 0,.int .i64 0,.slice none 0 0,.pointer none] 127) (.cells #[.int .i64 0,.int .i64 0] 38);have HT:=hid t1;have HU:=hid t2;have eP:=hid t3;have HP:=hid (hp.below t3 (Nat.le_refl _));have HQ:=hid hq;have HG:=hid hg;clear hp hq hg t1 t2 t3;go_enter Tryz.func69,Tryz.ntmps69;go_upto_region 1 with fail;generalize (w.alloc (.cells #[.int .i64 0,.int .i64 0,.slice none 0 0,.pointer none] 127)).alloc (.cells #[.int .i64 0,.int .i64 0] 38)=w1 at *;obtain ⟨gt,eR⟩:∃gt,w.heap.size=gt:=⟨_,rfl⟩;rw [eR] at HT HU⊢;have dZ:=hid eR;clear eR;obtain ⟨f1,f2,hf⟩:∃f1 f2,grdS false l=(f1,f2):=⟨_,_,rfl⟩;have HF:=hid hf;clear hf;go_upto_region 2 with (go_at_call 99;refine (ggrounded_any p l _ HP.out (by have:=HG.out.len;omega) HG.out.ok).mono ?_;rintro e w2 ⟨rfl,hb⟩;have cP:=hid (zAa hb HT.out);have nN:=hid (zAa hb HU.out);have gE:=hid (HP.out.below' hb);have aL:=hid (zAd eP.out hb);rw [HQ.out,HF.out];(try dsimp only);clear hb);clear HT HU HP eP;have eO:=hid (zAa ((Below.refl w2.heap.size w2).alloc (Nat.le_refl _) (.cells #[.int .i64 f1,.int .i64 f2] 38)) cP.out);have mI:=hid (zAa ((Below.refl w2.heap.size w2).alloc (Nat.le_refl _) (.cells #[.int .i64 f1,.int .i64 f2] 38)) nN.out);have lO:=hid (gE.out.below' ((Below.refl w2.heap.size w2).alloc (Nat.le_refl _) (.cells #[.int .i64 f1,.int .i64 f2] 38)));have aG:=hid (zAd aL.out ((Below.refl w2.heap.size w2).alloc (Nat.le_refl _) (.cells #[.int .i64 f1,.int .i64 f2] 38)));have H6:=hid (heap_alloc_new w2 (.cells #[.int .i64 f1,.int .i64 f2] 38));clear cP nN gE aL;generalize w2.alloc (.cells #[.int .i64 f1,.int .i64 f2] 38)=w3 at *
 generalize w2.heap.size=g6 at *;rcases zDk (f1,f2) with hz | ⟨hnz,hw⟩
 rotate_left
 · have HW:=hid (show workS l om=(none,(f1,f2)) by unfold workS;rw [HF.out,if_pos hnz]);dsimp only at hw;clear hnz;rcases hw with q1 | ⟨q1,q0,q2⟩
   all_goals
    have aB:=zAc eO.out;have t0:=aB.1 0 _ rfl;have t1:=aB.1 1 _ rfl;have t2:=aB.1 2 _ rfl;have t3:=aB.1 3 _ rfl;have tf0:=aB.2 0;have tf1:=aB.2 1;have tf2:=aB.2 2;have tf3:=aB.2 3;clear aB;have aB:=zAc mI.out;have u0:=aB.1 0 _ rfl;have u1:=aB.1 1 _ rfl;have uf0:=aB.2 0;have uf1:=aB.2 1;clear aB;have aB:=zAc H6.out;have v0:=aB.1 0 _ rfl;have v1:=aB.1 1 _ rfl;have vf0:=aB.2 0;have vf1:=aB.2 1;clear aB;have iX:=zBi eO.out H6.out (by decide);have ko:∀ (u:World) (o q:Nat) (v:Value),(u.setCell ⟨gt,o,none⟩ v).cell? ⟨g6,q,none⟩=u.cell? ⟨g6,q,none⟩:=fun u o q v=> World.cell?_setCell_other u _ _ v (fun e=> iX (congrArg Addr.block e))
    go_upto_region 3 with fail;go_region_with fail
    all_goals (go_wp2_with fail)
    all_goals (refine bodyPost_ret (v:=.tuple #[.agg #[.int .i64 0,.int .i64 0,.slice none 0 0,.pointer none],.agg #[.int .i64 f1,.int .i64 f2]]) ?_ rfl ⟨_,_,_,_,_,_,by rw [HW.out],?_,.inl (by rw [HW.out])⟩)
    all_goals first
     | (rw [zAh rfl];go_simp;done)
     | (exact below_six aG.out (Nat.le_of_eq dZ.out))
 obtain ⟨bD,cB⟩:=Prod.mk.inj hz;subst bD cB;clear hz;have aB:=zAc H6.out;have v0:=aB.1 0 _ rfl;have v1:=aB.1 1 _ rfl;have vf0:=aB.2 0;have vf1:=aB.2 1;clear aB;obtain ⟨r1,D1,e1,a1,hS⟩:∃r D e a,matS false l om=((r,D),(e,a)):=⟨_,_,_,_,rfl⟩;have HS:=hid hS;clear hS;go_upto_region 5 with (go_at_call 100;refine (((smx_any p l om _ lO.out HQ.out HG.out).mono fun _ _ h=> RetMz.of HS.out h)).mono ?_;rintro e w4 ⟨v1,xs,rfl,eF,aC,hb⟩;have jG:=hid (zAa hb eO.out);have mH:=hid (zAa hb mI.out);have oU:=hid (lO.out.below' hb);have H63:=hid (zAa hb H6.out);have aT:=hid (zAd aG.out hb);have HX:=hid eF;have HO:=hid aC;obtain ⟨am,cm,rfl⟩:=(IsSl.of_own aC).form;clear eF aC;clear hb);clear v0 v1 vf0 vf1 eO mI lO H6 aG;have nO:=hid (zAa ((Below.refl w4.heap.size w4).alloc (Nat.le_refl _) (.cells #[.int .i64 r1,.int .i64 r1,.slice am xs.length cm] 43)) jG.out);have oP:=hid (zAa ((Below.refl w4.heap.size w4).alloc (Nat.le_refl _) (.cells #[.int .i64 r1,.int .i64 r1,.slice am xs.length cm] 43)) mH.out);have pJ:=hid (oU.out.below' ((Below.refl w4.heap.size w4).alloc (Nat.le_refl _) (.cells #[.int .i64 r1,.int .i64 r1,.slice am xs.length cm] 43)));have H64:=hid (zAa ((Below.refl w4.heap.size w4).alloc (Nat.le_refl _) (.cells #[.int .i64 r1,.int .i64 r1,.slice am xs.length cm] 43)) H63.out);have nS:=hid (zBf HO.out (zAe ((Below.refl w4.heap.size w4).alloc (Nat.le_refl _) (.cells #[.int .i64 r1,.int .i64 r1,.slice am xs.length cm] 43)) none));have bI:=hid (zAd aT.out ((Below.refl w4.heap.size w4).alloc (Nat.le_refl _) (.cells #[.int .i64 r1,.int .i64 r1,.slice am xs.length cm] 43)));have fR:=hid (show gt+1 < w4.heap.size from (Array.getElem?_eq_some_iff.1 mH.out).1);have jY:=hid (show (w4.alloc (.cells #[.int .i64 r1,.int .i64 r1,.slice am xs.length cm] 43)).heap.size=w4.heap.size+1 by simp)
 have H7:=hid (heap_alloc_new w4 (.cells #[.int .i64 r1,.int .i64 r1,.slice am xs.length cm] 43));clear jG mH oU H63 HO aT;generalize w4.alloc (.cells #[.int .i64 r1,.int .i64 r1,.slice am xs.length cm] 43)=w5 at *;generalize w4.heap.size=g7 at *;have lM:=hid (zAa ((Below.refl w5.heap.size w5).alloc (Nat.le_refl _) (.cells #[.int .i64 e1,.int .i64 a1] 38)) nO.out);have oN:=hid (zAa ((Below.refl w5.heap.size w5).alloc (Nat.le_refl _) (.cells #[.int .i64 e1,.int .i64 a1] 38)) oP.out);have tU:=hid (pJ.out.below' ((Below.refl w5.heap.size w5).alloc (Nat.le_refl _) (.cells #[.int .i64 e1,.int .i64 a1] 38)));have H65:=hid (zAa ((Below.refl w5.heap.size w5).alloc (Nat.le_refl _) (.cells #[.int .i64 e1,.int .i64 a1] 38)) H64.out);have HO5:=hid (zBf nS.out (zAe ((Below.refl w5.heap.size w5).alloc (Nat.le_refl _) (.cells #[.int .i64 e1,.int .i64 a1] 38)) none));have H75:=hid (zAa ((Below.refl w5.heap.size w5).alloc (Nat.le_refl _) (.cells #[.int .i64 e1,.int .i64 a1] 38)) H7.out);have cL:=hid (zAd bI.out ((Below.refl w5.heap.size w5).alloc (Nat.le_refl _) (.cells #[.int .i64 e1,.int .i64 a1] 38)));have H8:=hid (heap_alloc_new w5 (.cells #[.int .i64 e1,.int .i64 a1] 38));rw [jY.out] at H8;clear nO oP pJ H64 nS H7 bI;generalize w5.alloc (.cells #[.int .i64 e1,.int .i64 a1] 38)=w6 at *;obtain ⟨g8,wO⟩:∃g8,g7+1=g8:=⟨_,rfl⟩;rw [wO] at H8⊢;have tW:=hid (show gt+1 < g8 by have:=fR.out;omega);clear wO;rcases zDk (e1,a1) with hz | ⟨hnz,hw⟩
 rotate_left
 · have HW:=hid (show workS l om=(none,(e1,a1)) by unfold workS;rw [HF.out,if_neg (fun h=> h rfl),HS.out,if_pos hnz]);dsimp only at hw;clear hnz;rcases hw with q1 | ⟨q1,q0,q2⟩
   all_goals
    have aB:=zAc lM.out;have t0:=aB.1 0 _ rfl;have t1:=aB.1 1 _ rfl;have t2:=aB.1 2 _ rfl;have t3:=aB.1 3 _ rfl;have tf0:=aB.2 0;have tf1:=aB.2 1;have tf2:=aB.2 2;have tf3:=aB.2 3;clear aB;have aB:=zAc oN.out;have u0:=aB.1 0 _ rfl;have u1:=aB.1 1 _ rfl;have uf0:=aB.2 0;have uf1:=aB.2 1;clear aB;have aB:=zAc H8.out;have v0:=aB.1 0 _ rfl;have v1:=aB.1 1 _ rfl;have vf0:=aB.2 0;have vf1:=aB.2 1;clear aB;have iX:=zBi lM.out H8.out (by decide);have ko:∀ (u:World) (o q:Nat) (v:Value),(u.setCell ⟨gt,o,none⟩ v).cell? ⟨g8,q,none⟩=u.cell? ⟨g8,q,none⟩:=fun u o q v=> World.cell?_setCell_other u _ _ v (fun e=> iX (congrArg Addr.block e))
    go_upto_region 6 with fail;go_region_with fail
    all_goals (go_wp2_with fail)
    all_goals (refine bodyPost_ret (v:=.tuple #[.agg #[.int .i64 0,.int .i64 0,.slice none 0 0,.pointer none],.agg #[.int .i64 e1,.int .i64 a1]]) ?_ rfl ⟨_,_,_,_,_,_,by rw [HW.out],?_,.inl (by rw [HW.out])⟩)
    all_goals first
     | (rw [zAh rfl];go_simp;done)
     | (exact below_six cL.out (Nat.le_of_eq dZ.out))
 obtain ⟨bD,cB⟩:=Prod.mk.inj hz;subst bD cB;clear hz;obtain ⟨c1,c2,c3⟩:=mat_sq (om:=om) (l:=l) (n:=r1) (xs:=xs) (by rw [HX.out];have h:=mat_kz (l:=l) (om:=om) (by rw [HS.out]);rw [HS.out] at h;exact h);have HNZ:=hid c1;have mG:=hid c2;have xR:=hid c3;have hr64:r1≤64:=by rw [c1];exact HG.out.sz
 have HR64:=hid hr64;clear c1 c2 c3 hr64;obtain ⟨So,s1,s2,uM⟩:∃So s1 s2,lowM (szL l) (matK l om l.length)=(So,(s1,s2)):=⟨_,_,_,rfl⟩;have HLOW:=hid uM;clear uM;have HW:=hid (show workS l om=(So,(s1,s2)) by unfold workS;rw [HF.out,if_neg (fun h=> h rfl),HS.out,if_neg (fun h=> h rfl),HLOW.out]);have aB:=zAc H8.out;have v0:=aB.1 0 _ rfl;have v1:=aB.1 1 _ rfl;have vf0:=aB.2 0;have vf1:=aB.2 1;clear aB;go_upto_region 7 with fail;clear v0 v1 vf0 vf1;have aB:=zAc H75.out;have m0:=aB.1 0 _ rfl;have m1:=aB.1 1 _ rfl;have m2:=aB.1 2 _ rfl;clear aB;go_upto_region 8 with (go_at_call 101;refine (lowof_any r1 xs.length (.slice am xs.length cm) xs (matK l om l.length) _ (IsSl.of_own HO5.out) HR64.out mG.out xR.out).mono ?_;rintro e w7 ⟨p',tC,hb,iK⟩;have kI:=hid (zAa hb lM.out);have lL:=hid (zAa hb oN.out);have HP6:=hid (tU.out.below' hb);have H66:=hid (zAa hb H65.out);have HO6:=hid (zBf HO5.out (zAe hb none));have uD:=hid (zAa hb H75.out);have H86:=hid (zAa hb H8.out);have cJ:=hid (zAd cL.out hb);have HLE6:=hid (show w.heap.size≤w6.heap.size from cL.out.size);rw [HNZ.out,HLOW.out] at tC iK;dsimp only at tC iK;subst tC;have lR:=hid iK;clear iK;have aB:=zAc H86.out;have v0:=aB.1 0 _ rfl;have v1:=aB.1 1 _ rfl;have vf0:=aB.2 0;have vf1:=aB.2 1;clear aB;have HW6:=hid hb;clear hb);clear v0 v1 vf0 vf1 m0 m1 m2 lM oN tU H65 HO5 H75 H8 cL;obtain ⟨pa,rfl⟩:∃pa:Option Addr,p'=.pointer pa:=by
  rcases lR.out with ⟨_,h⟩ | ⟨_,_,_,_,_,_,_,_,_,h,_⟩
  · exact ⟨_,h⟩
  · exact ⟨_,h⟩
 have aF:w7.grownBy ((w7.setCell ⟨g8,0,none⟩ (.int .i64 s1)).setCell ⟨g8,1,none⟩ (.int .i64 s2)) (some g8):=zAf (zAn w7 g8 0 _) (zAn _ g8 1 _);have HT9:=hid (zAj aF (zBi kI.out H86.out (by decide)) kI.out);have HU9:=hid (zAj aF (by have:=tW.out;omega) lL.out);have H79:=hid (zAj aF (zBi uD.out H86.out (by decide)) uD.out);have H89:Hid (((w7.setCell ⟨g8,0,none⟩ (.int .i64 s1)).setCell ⟨g8,1,none⟩ (.int .i64 s2)).heap[g8]? =some (.cells #[.int .i64 s1,.int .i64 s2] 38 (0,0))):=hid (blk_set (blk_set H86.out _) _);have HB9:=hid ((cJ.out.setCell (p:=⟨g8,0,none⟩) (by have:=tW.out;have:=dZ.out;dsimp only;omega) (.int .i64 s1)).setCell (p:=⟨g8,1,none⟩) (by have:=tW.out;have:=dZ.out;dsimp only;omega) (.int .i64 s2));skip;have HFIN:=hid (show∀W:World,AltB (fun k=> k=gt∨k=gt+1) ((w7.setCell ⟨g8,0,none⟩ (.int .i64 s1)).setCell ⟨g8,1,none⟩ (.int .i64 s2)) W→(So=none∨∃s g vR vO bj M ord sg,So=some s∧.pointer pa=Value.pointer (some ⟨g,0,none⟩)∧LwAt w.heap.size W g vR vO (szL l) (szL l) (szL l) bj M ord sg∧LwS (szL l) s M ord sg) from fun W ha=> by
  rcases lR.out with ⟨h1,_⟩ | ⟨s,g,vR,vO,bj,M,ord,sg,h1,h2,h3,h4⟩
  · exact .inl h1
  · refine .inr ⟨s,g,vR,vO,bj,M,ord,sg,h1,h2,((h3.fault H86.out _ _).alt ha (fun k hk=> ?_)).base HLE6.out,h4⟩;rcases hk with rfl | rfl
    · exact ⟨_,_,HT9.out,by decide,by decide,by decide,by decide⟩
    · exact ⟨_,_,HU9.out,by decide,by decide,by decide,by decide⟩)
 clear aF kI lL HP6 H66 HO6 uD H86 cJ;generalize ((w7.setCell ⟨g8,0,none⟩ (.int .i64 s1)).setCell ⟨g8,1,none⟩ (.int .i64 s2))=w8 at *;have aB:=zAc HT9.out;have t0:=aB.1 0 _ rfl;have t1:=aB.1 1 _ rfl;have t2:=aB.1 2 _ rfl;have t3:=aB.1 3 _ rfl;have tf0:=aB.2 0;have tf1:=aB.2 1;have tf2:=aB.2 2;have tf3:=aB.2 3;clear aB;have aB:=zAc HU9.out;have u0:=aB.1 0 _ rfl;have u1:=aB.1 1 _ rfl;have uf0:=aB.2 0;have uf1:=aB.2 1;clear aB;have aB:=zAc H89.out;have v0:=aB.1 0 _ rfl;have v1:=aB.1 1 _ rfl;have vf0:=aB.2 0;have vf1:=aB.2 1;clear aB;have aB:=zAc H79.out;have m0:=aB.1 0 _ rfl;have m1:=aB.1 1 _ rfl;have m2:=aB.1 2 _ rfl;have mf0:=aB.2 0;have mf1:=aB.2 1;have mf2:=aB.2 2;clear aB;have iX:=zBi HT9.out H89.out (by decide);have ko:∀ (u:World) (o q:Nat) (v:Value),(u.setCell ⟨gt,o,none⟩ v).cell? ⟨g8,q,none⟩=u.cell? ⟨g8,q,none⟩:=fun u o q v=> World.cell?_setCell_other u _ _ v (fun e=> iX (congrArg Addr.block e))
 go_region_with fail
 all_goals (go_wp2_with fail)
 all_goals (refine bodyPost_ret (v:=.tuple #[.agg #[.int .i64 r1,.int .i64 r1,.slice am xs.length cm,.pointer pa],.agg #[.int .i64 s1,.int .i64 s2]]) ?_ rfl ⟨_,_,_,_,_,_,by rw [HW.out],?_,?_⟩)
 all_goals first
  | (rw [zAh rfl];go_simp;done)
  | (exact below_six HB9.out (Nat.le_of_eq dZ.out))
  | (rw [HW.out];exact HFIN.out _ alt_six)
end
section
open Go.RowKit
def RetLaid (om k m:Nat) (x:Nat→Cx) (w:World) (e:Ending) (w':World):Prop:=
 ∃q1 q2:Nat,e=.returned (.agg #[.float .f64 om,.slice (some ⟨q1,0,none⟩) k k,.slice (some ⟨q2,0,none⟩) m m])∧w.heap.size≤q1∧w.heap.size≤q2∧q1≠q2∧VecR w' q1 k x∧VecR w' q2 m (fun i=> x (k+i))∧Below w.heap.size w w'
theorem cut_to {a:Addr} {nn c k:Nat} (hk:k≤c) (w':World):(Instr.sliceAt 41 (.slice (some a) nn c) none (some (.int .i64 k)) none).run Tryz.prog w'=.ok (.slice (some a) k c) w':=by
 obtain ⟨i0,hi,cG,bD,cB⟩:=info_parts zFh;have he:Tryz.prog.elem 41 =48 :=by have:=Tryz.underlying41;simp [Program.elem,this]
 have hu:Tryz.prog.underlying 41 =some (.slice (Tryz.prog.elem 41)):=by rw [he];exact Tryz.underlying41
 have h:=run_slice_h w' 41 (some a) nn c hu .i64 k (by omega) (by omega);have h2:=run_sliceAt_slice w' 41 (.slice (some a) nn c) none (some (.int .i64 k)) none hu;rw [h2,h,he]
 simp [sizeOf,typeInfo,hi,bD,sliced,Result.andThen,Addr.add]
theorem cut_rest {a:Addr} {nn k:Nat} (hk:k≤nn):∃b:Option Addr,(k < nn→b=some (a.add k))∧∀w',(Instr.sliceAt 41 (.slice (some a) nn nn) (some (.int .i64 k)) none none).run Tryz.prog w'=.ok (.slice b (nn - k) (nn - k)) w':=by
 obtain ⟨i0,hi,cG,bD,cB⟩:=info_parts zFh;have he:Tryz.prog.elem 41 =48 :=by have:=Tryz.underlying41;simp [Program.elem,this]
 have hu:Tryz.prog.underlying 41 =some (.slice (Tryz.prog.elem 41)):=by rw [he];exact Tryz.underlying41
 refine ⟨if nn=k then some a else some (a.add k),fun h=> if_neg (by omega),fun w'=> ?_⟩;have h:=run_slice_l w' 41 (some a) nn nn hu .i64 k (by omega) (by omega);have h2:=run_sliceAt_slice w' 41 (.slice (some a) nn nn) (some (.int .i64 k)) none none hu;rw [h2,h,he]
 simp [sizeOf,typeInfo,hi,bD,sliced,Result.andThen]
theorem add_flat (b k j:Nat):(⟨b,k,none⟩:Addr).add j=⟨b,k+j,none⟩:=by unfold Addr.add;split <;> simp_all
theorem splice_len {n:Nat} {cs ds:List Value} (h:cs.length=n) (h2:ds.length=n):Go.splice ds 0 cs=cs:=splice_all h h2
theorem zFe {P:Program} {w:World} {ops:Array Oper} {rest:List Oper} {o:Oper} {a:Act} {Q:Exit→Act→World→Prop} (wN:o.guard=none) (d s:Operand) (dT sT:TypeId)
 (ho:o.op=.call {callee:=.builtin .copy,args:=#[d,s],argTypes:=#[dT,sT]}) (elem:TypeId) (hu:P.underlying dT=some (.slice elem)) (hsz:(P.info? elem).map (·.size)=some 1)
 (dp sp:Option Addr) (dLen dCap sLen sCap:Nat) (hd:a.eval d=.slice dp dLen dCap) (hs:a.eval s=.slice sp sLen sCap)
 (g off:Nat) (cur:List Value) (t:TypeId) (hg:w.heap[g]? =some (.cells cur.toArray t (0,0))) (cs:List Value) (hn:cs.length=Nat.min sLen dLen)
 (hpos:0 < cs.length→dp=some ⟨g,off,none⟩∧∃ad,sp=some ad∧∀j v,cs[j]? =some v→w.cell? (ad.add j)=some v)
 (hfit:off+cs.length≤cur.length) (h1:∀v∈cs,v.oneCell'=true)
 (h:∀w',Hid (w'.heap[g]? =some (.cells (Go.splice cur off cs).toArray t (0,0)))→w.grownBy w' (some g)→wpList P ops Q rest (a.put o.dst (goInt cs.length)) w'):
 wpList P ops Q (o::rest) a w:=by
 by_cases h0:cs.length=0
 · obtain rfl:cs= []:=List.eq_nil_of_length_eq_zero h0;refine wpList_copy_nothing wN d s dT sT ho elem hu hsz dp sp dLen dCap sLen sCap hd hs (by simpa using hn.symm) ?_;exact h w (show _=_ by simpa [Go.splice] using hg) (World.grownBy.refl _ _)
 · obtain ⟨rfl,ad,rfl,hsrc⟩:=hpos (by omega);refine wpList_copy_own wN d s dT sT ho elem hu hsz g off dLen dCap ad sLen sCap hd hs cur.toArray t hg cs hn hsrc (by simpa using hfit) h1 ?_;exact h _ (show _=_ by simpa [Go.splice] using setRow_heap w g _ _ t _ hg) ⟨rfl,rfl,rfl,by simp [World.setRow],fun k _ hk=> setRow_other w g k _ (fun e=> hk (by rw [e]))⟩
theorem VecM.cell {w:World} {b n j:Nat} {r:Nat→Cx} {M:List Cx} (h:VecM w b n r M) (hj:j < n):w.cell? ⟨b,j,none⟩=some (mkC (M.getD j (0,0))):=by
 have h2:(M.map mkC)[j]? =some (mkC (M.getD j (0,0))):=by
  rw [List.getElem?_map,List.getD_eq_getElem?_getD,List.getElem?_eq_getElem (by rw [h.len];exact hj)];rfl
 exact (zAc h.row).1 j _ (by simpa using h2)
theorem VecM.grow {w w':World} {b n g:Nat} {r:Nat→Cx} {M:List Cx} (h:VecM w b n r M) (hg:w.grownBy w' (some g)) (aK:b≠g):VecM w' b n r M:=⟨h.len,zAj hg aK h.row,h.num⟩
theorem vec_of {w:World} {b n:Nat} {r:Nat→Cx} {M:List Cx} {cs:List Value} (h:w.heap[b]? =some (.cells cs.toArray 48 (0,0))) (hc:cs=M.map mkC) (hl:M.length=n) (hr:∀i,i < n→ck (M.getD i (0,0))=r i):VecR w b n r:=⟨M,hl,by rw [←hc];exact h,hr⟩
def MkC (n:Nat) (v:Value) (w:World) (lo hi:Nat):Prop:=∃b,v=.slice (some ⟨b,0,none⟩) n n∧lo≤b∧b < hi∧w.heap[b]? =some (.cells (zrow n) 48 (0,0))
theorem MkC.later {n lo hi:Nat} {v:Value} {w w':World} (h:MkC n v w lo hi) (hb:Below w.heap.size w w'):MkC n v w' lo hi:=by
 obtain ⟨b,h1,h2,h3,h4⟩:=h;exact ⟨b,h1,h2,h3,zAs hb h4⟩
def ZS (v:Value) (w:World) (lo hi:Nat):Prop:=BlkD (.cells #[.float .f64 0,.slice none 0 0,.slice none 0 0] 87) v w lo hi
theorem ZS.later {v:Value} {w w':World} {lo hi:Nat} (h:ZS v w lo hi) (hb:Below w.heap.size w w'):ZS v w' lo hi:=BlkD.later h hb
theorem laid_any (p:Value) (l:List El) (om qx k n m:Nat) (x:Nat→Cx) (w:World) (hp:NN w p l) (hg:NetG l) (hk:(nds l).length=k) (hkm:n=k+m) (hn:n≤64) (hx:VecR w qx n x):
 Calls Tryz.prog 71 #[p,.float .f64 om,.slice (some ⟨qx,0,none⟩) n n] w (RetLaid om k m x w):=by
 obtain ⟨M,hM⟩:=hx;obtain ⟨ic,qX,hc0,kN,cC⟩:=info_parts zFh;have aI:=(Below.refl w.heap.size w).alloc (Nat.le_refl _) (.cells #[.float .f64 0,.slice none 0 0,.slice none 0 0] 87);have eP:=hid aI;have HT:=hid (heap_alloc_new w (.cells #[.float .f64 0,.slice none 0 0,.slice none 0 0] 87));have HP:=hid (hp.below aI (Nat.le_refl _));have HX:=hid (hM.below aI);have HG:=hid hg;have HK:=hid hk;have lQ:=hid hkm;have HN:=hid hn;have lC:=hid (show w.heap.size=w.heap.size from rfl);clear hp hg hk hkm hn hM aI;go_enter Tryz.func71,Tryz.ntmps71;go_upto_region 1 with fail;generalize w.alloc (.cells #[.float .f64 0,.slice none 0 0,.slice none 0 0] 87)=w1 at *;obtain ⟨gt,eR⟩:∃gt,w.heap.size=gt:=⟨_,rfl⟩;rw [eR] at HT⊢;have dZ:=hid eR;clear eR lC;go_upto_region 2 with (go_at_call 106;refine (zDi p l _ HP.out (by have:=HG.out.len;omega)).mono ?_;rintro e w2 ⟨v,xs,rfl,aC,_,hb⟩;obtain ⟨av,cv,rfl⟩:=(IsSl.of_own aC).form;rw [HK.out];have eO:=hid (zAa hb HT.out);have qA:=hid (HX.out.below hb);have aG:=hid (zAd eP.out hb);clear hb aC);clear HT HX HP eP;have qN:=show IntKind.i64.wrap ((n:Int) - (k:Int))=(m:Int) from by
  have h:=lQ.out;have h2:=HN.out;rw [IntWalk.i64_in _ ⟨by omega,by omega⟩];omega
 refine wp_region_any (by kernel_rfl) ?_;change wpAny _ _ _ _ _ _ _ (World.drew _);refine zAx [⟨some 12,0, []⟩,⟨some 13,1, []⟩,⟨some 14,2, []⟩,⟨some 15,3, []⟩,⟨some 16,4, []⟩,⟨some 17,5, []⟩,⟨some 18,6, []⟩,⟨some 19,7, []⟩,⟨some 20,8, [2,7]⟩,⟨some 8,9, []⟩]
  (fun w'=> w'.heap[gt]? =some (.cells #[.float .f64 0,.slice none 0 0,.slice none 0 0] 87 (0,0))∧VecM w' qx n x M)
  (fun oq v xs ww lo hi=> (match oq with | 0=> v=.float .f64 om | 1=> v=.int .i64 k | 2=> True | 3=> v=.slice (some ⟨qx,0,none⟩) n n | 4=> v=.int .i64 n | 5=> v=.int .i64 k | 6=> v=.int .i64 m | 7=> True | 8=> v=.agg #[.float .f64 om,xs.getD 0 undef,xs.getD 1 undef] | 9=> True | _=> True)∧(oq=2→MkC k v ww lo hi)∧(oq=7→MkC m v ww lo hi)∧(oq=9→ZS v ww lo hi)) (by kernel_rfl) ?hSm (fun _ _ hb h=> ⟨zAs hb h.1,h.2.below hb⟩) (fun _ _ _ _ _ _ _ hb _ h=> ⟨h.1,fun e=> (h.2.1 e).later hb,fun e=> (h.2.2.1 e).later hb,fun e=> (h.2.2.2 e).later hb⟩) ?kW ?gK
 case hSm=> exact ⟨zAs (Below.refl _ _).drew eO.out,qA.out.below (Below.refl _ _).drew⟩
 case kW=>
  delta Owed
  simp only [zBb,Act.put,List.setIfInBounds_toArray,lz,ls];refine Each.cons rfl ?_ (Each.cons rfl ?_ (Each.cons rfl ?_ (Each.cons rfl ?_ (Each.cons rfl ?_ (Each.cons rfl ?_ (Each.cons rfl ?_ (Each.cons rfl ?_ (Each.cons rfl ?_ (Each.cons rfl ?_ Each.nil)))))))))
  all_goals intro vs w2 aV hS2 hR2 K hK;try simp only [lz,ls] at hK⊢
  · go_simp;exact hK.out _ _ (Below.refl _ _) ⟨rfl,(fun e=> (by cases e)),(fun e=> (by cases e)),(fun e=> (by cases e))⟩
  · go_simp;exact hK.out _ _ (Below.refl _ _) ⟨rfl,(fun e=> (by cases e)),(fun e=> (by cases e)),(fun e=> (by cases e))⟩
  · have h1:vs 1=_:=exR (hR2 1 (by kernel_rfl)) (fun _ _ h=> h.1);simp only [h1] at hK⊢;have qV:=mk_many k w2 (by have h:=lQ.out;have h2:=HN.out;omega);go_simp;exact hK.out _ _ ((Below.refl _ _).alloc (Nat.le_refl _) _) ⟨trivial,fun _=> ⟨w2.heap.size,rfl,Nat.le_refl _,by simp,heap_alloc_new _ _⟩,(fun e=> (by cases e)),(fun e=> (by cases e))⟩
  · go_simp;exact hK.out _ _ (Below.refl _ _) ⟨rfl,(fun e=> (by cases e)),(fun e=> (by cases e)),(fun e=> (by cases e))⟩
  · have h3:vs 3=_:=exR (hR2 3 (by kernel_rfl)) (fun _ _ h=> h.1);simp only [h3] at hK⊢;go_simp;exact hK.out _ _ (Below.refl _ _) ⟨rfl,(fun e=> (by cases e)),(fun e=> (by cases e)),(fun e=> (by cases e))⟩
  · go_simp;exact hK.out _ _ (Below.refl _ _) ⟨rfl,(fun e=> (by cases e)),(fun e=> (by cases e)),(fun e=> (by cases e))⟩
  · have h4:vs 4=_:=exR (hR2 4 (by kernel_rfl)) (fun _ _ h=> h.1);have h5:vs 5=_:=exR (hR2 5 (by kernel_rfl)) (fun _ _ h=> h.1);simp only [h4,h5] at hK⊢;go_simp;exact hK.out _ _ (Below.refl _ _) ⟨rfl,(fun e=> (by cases e)),(fun e=> (by cases e)),(fun e=> (by cases e))⟩
  · have h6:vs 6=_:=exR (hR2 6 (by kernel_rfl)) (fun _ _ h=> h.1);simp only [h6] at hK⊢;have qV:=mk_many m w2 (by have h:=lQ.out;have h2:=HN.out;omega);go_simp;exact hK.out _ _ ((Below.refl _ _).alloc (Nat.le_refl _) _) ⟨trivial,(fun e=> (by cases e)),fun _=> ⟨w2.heap.size,rfl,Nat.le_refl _,by simp,heap_alloc_new _ _⟩,(fun e=> (by cases e))⟩
  · have h0:vs 0=_:=exR (hR2 0 (by kernel_rfl)) (fun _ _ h=> h.1);obtain ⟨_,_,_,H2⟩:=hR2 2 (by kernel_rfl);have Y2:=H2.2.1 rfl;obtain ⟨_,_,_,H7⟩:=hR2 7 (by kernel_rfl);have Y7:=H7.2.2.1 rfl;simp only [h0] at hK⊢;obtain ⟨b2,h2,_⟩:=Y2;obtain ⟨b7,h7,_⟩:=Y7;simp only [h2,h7] at hK⊢;go_simp;exact hK.out _ _ (Below.refl _ _) ⟨(by show _=Value.agg #[.float .f64 om,vs 2,vs 7];rw [h2,h7]),(fun e=> (by cases e)),(fun e=> (by cases e)),(fun e=> (by cases e))⟩
  · go_simp;exact hK.out _ _ ((Below.refl _ _).alloc (Nat.le_refl _) _) ⟨trivial,(fun e=> (by cases e)),(fun e=> (by cases e)),fun _=> BlkD.new _ _⟩
 case gK=>
  intro vs wx lo iB bK hSx hRx dN;have h0:vs 0=_:=(hRx 0 (by kernel_rfl)).1.1;have h1:vs 1=_:=(hRx 1 (by kernel_rfl)).1.1;have Y2:=(hRx 2 (by kernel_rfl)).1.2.1 rfl;have Z2:=(hRx 2 (by kernel_rfl)).2;have h3:vs 3=_:=(hRx 3 (by kernel_rfl)).1.1;have h4:vs 4=_:=(hRx 4 (by kernel_rfl)).1.1;have h5:vs 5=_:=(hRx 5 (by kernel_rfl)).1.1;have h6:vs 6=_:=(hRx 6 (by kernel_rfl)).1.1;have Y7:=(hRx 7 (by kernel_rfl)).1.2.2.1 rfl;have Z7:=(hRx 7 (by kernel_rfl)).2;have h8:vs 8=.agg #[.float .f64 om,vs 2,vs 7]:=(hRx 8 (by kernel_rfl)).1.1;have Y9:=(hRx 9 (by kernel_rfl)).1.2.2.2 rfl;have Z9:=(hRx 9 (by kernel_rfl)).2;simp only [zBb,Act.put,List.setIfInBounds_toArray,lz,ls,h0,h1,h3,h4,h5,h6,h8];obtain ⟨q1,h2,lo2,pA,fO⟩:=Y2;obtain ⟨q2,h7,lo7,hi7,hr7⟩:=Y7;obtain ⟨gs,h9,lo9,hi9,hr9⟩:=Y9;have tF:q1≠q2:=fun e=> by rcases dN 2 7 (by kernel_rfl) with h | h <;> omega
  have oE:q1≠gs:=fun e=> by rcases dN 2 9 (by kernel_rfl) with h | h <;> omega
  have hn3:q2≠gs:=fun e=> by rcases dN 7 9 (by kernel_rfl) with h | h <;> omega
  have l1:w2.heap.size≤q1:=Nat.le_trans Z2.1 lo2;have l2:w2.heap.size≤q2:=Nat.le_trans Z7.1 lo7;have l3:w2.heap.size≤gs:=Nat.le_trans Z9.1 lo9;have hb:=zAt bK;have lt:gt < w2.heap.size:=(Array.getElem?_eq_some_iff.1 eO.out).1;have lx:qx < w2.heap.size:=(Array.getElem?_eq_some_iff.1 qA.out.row).1;have jG:=hid hSx.1;have HX3:=hid hSx.2;have aT:=hid (zAd aG.out hb);have oQ:=hid hr9;have oT:=hid fO;have iO:=hid hr7;have HL:=hid (show w.heap.size≤q1∧w.heap.size≤q2∧w.heap.size≤gs∧q1≠q2∧q1≠gs∧q2≠gs∧gt < gs∧gt < q1∧gt < q2∧qx < gs∧qx < q1∧qx < q2 from by have:=aG.out.size;omega);simp only [h8,h2,h7,h9];clear bK hSx hRx dN fO hr7 hr9 lo2 pA lo7 hi7 lo9 hi9 tF oE hn3 l1 l2 l3 hb lt lx eO qA aG Z2 Z7 Z9 h0 h1 h2 h3 h4 h5 h6 h7 h8 h9;have aB:=zAc oQ.out;have f0:=aB.2 0;have f1:=aB.2 1;have f2:=aB.2 2;have v0:=aB.1 0 _ rfl;have v1:=aB.1 1 _ rfl;have v2:=aB.1 2 _ rfl;clear aB;refine zAr (i:=10) (by kernel_rfl) rfl (fun K hK=> ?_);go_simp;refine hK.out _ _ ?_;clear hK;refine wpAny_done (by kernel_rfl) ?_ _;clear f0 f1 f2 v0 v1 v2;have aF:wx.grownBy (((wx.setCell ⟨gs,0,none⟩ (.float .f64 om)).setCell ⟨gs,1,none⟩ (.slice (some ⟨q1,0,none⟩) k k)).setCell ⟨gs,2,none⟩ (.slice (some ⟨q2,0,none⟩) m m)) (some gs):=zAf (zAf (zAn wx gs 0 _) (zAn _ gs 1 _)) (zAn _ gs 2 _);have kS:=hid (show (((wx.setCell ⟨gs,0,none⟩ (.float .f64 om)).setCell ⟨gs,1,none⟩ (.slice (some ⟨q1,0,none⟩) k k)).setCell ⟨gs,2,none⟩ (.slice (some ⟨q2,0,none⟩) m m)).heap[gs]? =some (.cells #[.float .f64 om,.slice (some ⟨q1,0,none⟩) k k,.slice (some ⟨q2,0,none⟩) m m] 87 (0,0)) from zAy (zAy (zAy oQ.out _) _) _);have nO:=hid (zAj aF (by have:=HL.out;omega) jG.out);have tO:=hid (HX3.out.grow aF (by have:=HL.out;omega));have HQ14:=hid (zAj aF (by have:=HL.out;omega) oT.out);have HQ24:=hid (zAj aF (by have:=HL.out;omega) iO.out)
  have bI:=hid (aT.out.grown aF (by have:=aT.out.size;omega) (by intro k e;cases e;have:=HL.out;omega));clear aF oQ jG HX3 oT iO aT;generalize (((wx.setCell ⟨gs,0,none⟩ (.float .f64 om)).setCell ⟨gs,1,none⟩ (.slice (some ⟨q1,0,none⟩) k k)).setCell ⟨gs,2,none⟩ (.slice (some ⟨q2,0,none⟩) m m))=w4 at *;have aB:=zAc kS.out;have v1:=aB.1 1 _ rfl;clear aB;have hcut:=fun w'=> cut_to (a:=⟨qx,0,none⟩) (nn:=n) (c:=n) (k:=k) (by have:=lQ.out;omega) w'
  obtain ⟨cs,iK⟩:∃cs,(M.take k).map mkC=cs:=⟨_,rfl⟩;have lR:=hid iK;have mR:=hid (show cs.length=k by rw [←iK,List.length_map,List.length_take,tO.out.len];have:=lQ.out;omega);have yL:=hid (show∀v∈cs,v.oneCell'=true by intro v hv;rw [←iK] at hv;obtain ⟨x,_,rfl⟩:=List.mem_map.1 hv;rfl);clear iK;go_upto_region 3 with fail
  go_still_tail 5,(by kernel_rfl)
  change wpList _ _ _ _ _ w4.drew;go_wp2_with (refine zFe rfl (.tmp 22) (.tmp 25) _ _ rfl _ Tryz.underlying41 (by rw [qX];simp [kN]) (some ⟨q1,0,none⟩) (some ⟨qx,0,none⟩) k k k n rfl rfl q1 0 ((List.replicate k (0,0)).map mkC) 48 HQ14.out cs (mR.out.trans (Nat.min_self k).symm) (fun _=> ⟨rfl,_,rfl,?_⟩) (by rw [mR.out];simp) yL.out ?_)
  · intro j v hv;have hj:j < k:=by have:=(List.getElem?_eq_some_iff.1 hv).1;rw [mR.out] at this;exact this
    rw [add_flat,Nat.zero_add];rw [←lR.out,List.getElem?_map,List.getElem?_take,if_pos hj,List.getElem?_eq_getElem (by rw [tO.out.len];have:=lQ.out;omega)] at hv;have h:=tO.out.cell (j:=j) (by have:=lQ.out;omega);rw [List.getD_eq_getElem?_getD,List.getElem?_eq_getElem (by rw [tO.out.len];have:=lQ.out;omega)] at h;exact h.trans hv
  intro w5 hq mD;have aF:w4.grownBy w5 (some q1):=⟨mD.os,mD.tape,mD.output,mD.size,mD.block⟩;have iN:=hid (vec_of (n:=k) (r:=x) (M:=M.take k) hq.out (by rw [splice_len mR.out (by simp),lR.out]) (by rw [List.length_take,tO.out.len];have:=lQ.out;omega) (fun i hi=> by rw [←tO.out.num i (by have:=lQ.out;omega),List.getD_eq_getElem?_getD,List.getD_eq_getElem?_getD,List.getElem?_take,if_pos hi]));have HS5:=hid (zAj aF (by have:=HL.out;omega) kS.out);have lM:=hid (zAj aF (by have:=HL.out;omega) nO.out);have tN:=hid (tO.out.grow aF (by have:=HL.out;omega));have HQ25:=hid (zAj aF (by have:=HL.out;omega) HQ24.out);have cL:=hid (bI.out.grown aF (by have:=bI.out.size;omega) (by intro k e;cases e;have:=HL.out;omega));clear aF kS nO tO HQ14 HQ24 bI v1 hcut lR mR yL hq mD;have aB:=zAc HS5.out;have v1:=aB.1 2 _ rfl;clear aB;have hnk:n - k=m:=by have:=lQ.out;omega
  obtain ⟨ba,zP,hcut⟩:=cut_rest (a:=⟨qx,0,none⟩) (nn:=n) (k:=k) (by have:=lQ.out;omega);rw [hnk] at hcut;have kC:=hid zP;obtain ⟨cs2,iK⟩:∃cs,(M.drop k).map mkC=cs:=⟨_,rfl⟩;have lR:=hid iK;have mR:=hid (show cs2.length=m by rw [←iK,List.length_map,List.length_drop,tN.out.len];exact hnk);have yL:=hid (show∀v∈cs2,v.oneCell'=true by intro v hv;rw [←iK] at hv;obtain ⟨x,_,rfl⟩:=List.mem_map.1 hv;rfl);clear iK zP hnk;go_upto_region 4 with fail
  go_still_tail 5,(by kernel_rfl)
  change wpList _ _ _ _ _ w5.drew;go_wp2_with (refine zFe rfl (.tmp 28) (.tmp 31) _ _ rfl _ Tryz.underlying41 (by rw [qX];simp [kN]) (some ⟨q2,0,none⟩) ba m m m m rfl rfl q2 0 ((List.replicate m (0,0)).map mkC) 48 HQ25.out cs2 (mR.out.trans (Nat.min_self m).symm) (fun hp=> ⟨rfl,_,kC.out (by rw [mR.out] at hp;have:=lQ.out;omega),?_⟩) (by rw [mR.out];simp) yL.out ?_)
  · intro j v hv;have hj:j < m:=by have:=(List.getElem?_eq_some_iff.1 hv).1;rw [mR.out] at this;exact this
    rw [add_flat,add_flat,Nat.zero_add];rw [←lR.out,List.getElem?_map,List.getElem?_drop,List.getElem?_eq_getElem (by rw [tN.out.len];have:=lQ.out;omega)] at hv;have h:=tN.out.cell (j:=k+j) (by have:=lQ.out;omega);rw [List.getD_eq_getElem?_getD,List.getElem?_eq_getElem (by rw [tN.out.len];have:=lQ.out;omega)] at h;exact h.trans hv
  intro w6 hq mD;have aF:w5.grownBy w6 (some q2):=⟨mD.os,mD.tape,mD.output,mD.size,mD.block⟩;have hC:=hid (vec_of (n:=m) (r:=fun i=> x (k+i)) (M:=M.drop k) hq.out (by rw [splice_len mR.out (by simp),lR.out]) (by rw [List.length_drop,tN.out.len];have:=lQ.out;omega) (fun i hi=> by rw [←tN.out.num (k+i) (by have:=lQ.out;omega),List.getD_eq_getElem?_getD,List.getD_eq_getElem?_getD,List.getElem?_drop]));have HV16:=hid (show VecR w6 q1 k x from by obtain ⟨M1,h1⟩:=iN.out;exact ⟨M1,h1.grow aF (by have:=HL.out;omega)⟩);have dY:=hid (zAj aF (by have:=HL.out;omega) HS5.out);have kI:=hid (zAj aF (by have:=HL.out;omega) lM.out);have cJ:=hid (cL.out.grown aF (by have:=cL.out.size;omega) (by intro k e;cases e;have:=HL.out;omega));clear aF HS5 lM tN HQ25 cL v1 hcut lR mR yL hq mD kC iN;have aB:=zAc dY.out;have v0:=aB.1 0 _ rfl;have v1:=aB.1 1 _ rfl;have v2:=aB.1 2 _ rfl;have zN:=zAc kI.out;have f0:=zN.2 0;have f1:=zN.2 1;have f2:=zN.2 2;have t0:=zN.1 0 _ rfl;have t1:=zN.1 1 _ rfl;have t2:=zN.1 2 _ rfl;clear aB zN;go_wp2_with fail;refine bodyPost_ret (v:=.agg #[.float .f64 om,.slice (some ⟨q1,0,none⟩) k k,.slice (some ⟨q2,0,none⟩) m m]) ?_ rfl ?_
  · first | (rw [results_cell rfl];go_simp;done) | (rw [results_cell1 rfl];go_simp;done) | (unfold results;go_simp;done)
  have aF:w6.grownBy (((w6.setCell ⟨gt,0,none⟩ (.float .f64 om)).setCell ⟨gt,1,none⟩ (.slice (some ⟨q1,0,none⟩) k k)).setCell ⟨gt,2,none⟩ (.slice (some ⟨q2,0,none⟩) m m)) (some gt):=zAf (zAf (zAn w6 gt 0 _) (zAn _ gt 1 _)) (zAn _ gt 2 _);refine ⟨q1,q2,rfl,by have:=HL.out;omega,by have:=HL.out;omega,by have:=HL.out;omega,?_,?_,?_⟩
  · obtain ⟨M1,h1⟩:=HV16.out;exact ⟨M1,h1.grow aF (by have:=HL.out;omega)⟩
  · obtain ⟨M1,h1⟩:=hC.out;exact ⟨M1,h1.grow aF (by have:=HL.out;omega)⟩
  · exact cJ.out.grown aF (by have:=cJ.out.size;omega) (by intro k e;cases e;have:=dZ.out;omega)
end
section
open Go.RowKit
theorem results_cell1N {fn:Func} {p:Tmp} {ty:TypeId} (h:fn.results=#[.cell p ty]) (tmps:Array Value) (P:Program) (w:World):
 (results fn tmps).run P w=((asAddr (tmps.getD p undef)).run P w).andThen fun a w₁=> (loadVar ty a).run P w₁:=by
 simp only [results,h]
 simp [Sem.run_bind,Result.andThen]
def noneS (e:Int):Value:=if e=0 then .agg #[.int .i64 0,.int .i64 0] else .agg #[.int .i64 e,.int .i64 (-1)]
theorem pnone_any (e:Int) (w:World):
 Calls Tryz.prog 68 #[.int .i64 e] w fun en w'=> en=.returned (noneS e)∧Below w.heap.size w w':=by
 by_cases h:e=0
 · subst h;go_enter Tryz.func68,Tryz.ntmps68;go_wp2;refine bodyPost_ret (v:=.agg #[.int .i64 0,.int .i64 0]) ?_ rfl ⟨rfl,?_⟩
   · rw [results_cell1N rfl];go_simp
   · repeat (first | exact (Below.refl w.heap.size w).alloc (Nat.le_refl _) _ | refine Below.setCell ?_ (by dsimp only;omega) _)
 · have hb:(e==0)=false:=by simpa using h
   go_enter Tryz.func68,Tryz.ntmps68;go_wp2;refine bodyPost_ret (v:=.agg #[.int .i64 e,.int .i64 (-1)]) ?_ rfl ⟨congrArg Ending.returned (if_neg h).symm,?_⟩
   · rw [results_cell1N rfl];go_simp
   · repeat (first | exact (Below.refl w.heap.size w).alloc (Nat.le_refl _) _ | refine Below.setCell ?_ (by dsimp only;omega) _)
end
end Go.Proofs.YtdepiggjneoopaaGreatDoor
