/- a part of the proof of the last text -/
import Derived.Test.YtaegmlhfecfgkaaGreatDoorZMtx2
import Derived.Test.YtaegmlhfecfgkaaGreatDoorZSlv1
import Derived.Deep.RegionWith
namespace Go.Proofs.YtaegmlhfecfgkaaGreatDoor
set_option linter.all false
set_option maxHeartbeats 4000000
set_option maxRecDepth 100000
section
open Go.RowKit
def RetMz (n:Nat) (zs:List Cx) (ea eb:Int) (w:World) (e:Ending) (w':World):Prop:=
 ∃ (v:Value) (xs:List Cx),e=.returned (.tuple #[.agg #[.int .i64 n,.int .i64 n,v],.agg #[.int .i64 ea,.int .i64 eb]])∧xs.map ck=zs∧w'.ownsRow w.heap.size 43 1 v xs.length (xs.map mkC)∧Below w.heap.size w w'
theorem RetMz.of {n:Nat} {zs:List Cx} {ea eb:Int} {w w':World} {e:Ending} {S:(Nat × List Cx) × (Int × Int)} (hS:S=((n,zs),(ea,eb))) (h:RetMx S w e w'):RetMz n zs ea eb w e w':=by
 subst hS;exact h
theorem smx_any (p:Value) (l:List El) (om:Nat) (w:World) (hp:NN w p l) (hq:noNet p=false) (hg:NetG l):
 Calls Tryz.prog 22 #[p,.float .f64 om] w (RetMx (matS false l om) w):=by
 by_cases ha:angE om=0
 · exact (smatrix_good p l om w hp hg.nm hq ha hg.ok (fun x hx=> check_isK (hg.ck x hx)) (by have:=hg.len;omega) hg.sz)
 · have h:=smatrix_bad p l om w hp hg.nm (.inr ha)
   rwa [hq] at h
end
section
open Go.RowKit
theorem asked_any (p:Value) (l:List El) (om:Nat) (w:World) (hp:NN w p l) (hn:has (l.map El.name) ⟨#[]⟩=false):
 Calls Tryz.prog 19 #[p,.float .f64 om] w (fun e w'=> e=.returned (.int .i64 (askS (noNet p) om))∧Below w.heap.size w w'):=by
 have HP:=hid hp;have HN:=hid hn;clear hp hn;cases hq:noNet p
 · have HQ:=hid hq;clear hq;cases hf:ffin (fc om)
   · have HF:=hid hf;have HA:=hid (ang_5 hf);clear hf;go_enter Tryz.func19,Tryz.ntmps19;go_wp2_with (first | (go_at_call 34;refine (missing_any _ l _ HP.out HN.out).mono ?_;rintro e w' ⟨rfl,rfl⟩;rw [HQ.out]) | (refine wpList_float rfl _ _ _ _ _ rfl rfl _ _ rfl rfl ?_;intro r n hr;have hq:=neq_fin hr HF.out;simp only [Bool.not_false] at hq;clear hr))
     (try rw [Exit.noGoto_ret])
     go_ret;exact ⟨by unfold askS;rw [if_neg (by decide),HA.out];rfl,below_n (Below.refl _ _) _⟩
   · have HF:=hid hf;cases hg:(FloatKind.f64.format.order om 0==some .gt)
     · have HG:=hid hg;have HA:=hid (ang_2 hf hg);clear hf hg;go_enter Tryz.func19,Tryz.ntmps19;go_wp2_with (first | (go_at_call 34;refine (missing_any _ l _ HP.out HN.out).mono ?_;rintro e w' ⟨rfl,rfl⟩;rw [HQ.out]) | (refine wpList_float rfl _ _ _ _ _ rfl rfl _ _ rfl rfl ?_;intro r n hr;have hq:=neq_fin hr HF.out;have hgg:=HG.out;simp only [Bool.not_true] at hq;clear hr))
       (try rw [Exit.noGoto_ret])
       go_ret;exact ⟨by unfold askS;rw [if_neg (by decide),HA.out];rfl,below_n (Below.refl _ _) _⟩
     · have HG:=hid hg;have HA:=hid (ang_0 hf hg);clear hf hg;go_enter Tryz.func19,Tryz.ntmps19;go_wp2_with (first | (go_at_call 34;refine (missing_any _ l _ HP.out HN.out).mono ?_;rintro e w' ⟨rfl,rfl⟩;rw [HQ.out]) | (refine wpList_float rfl _ _ _ _ _ rfl rfl _ _ rfl rfl ?_;intro r n hr;have hq:=neq_fin hr HF.out;have hgg:=HG.out;simp only [Bool.not_true] at hq;clear hr))
       (try rw [Exit.noGoto_ret])
       go_ret;exact ⟨by unfold askS;rw [if_neg (by decide),HA.out];rfl,below_n (Below.refl _ _) _⟩
 · have HQ:=hid hq;clear hq;go_enter Tryz.func19,Tryz.ntmps19;go_wp2_with (go_at_call 34;refine (missing_any _ l _ HP.out HN.out).mono ?_;rintro e w' ⟨rfl,rfl⟩;rw [HQ.out])
   (try rw [Exit.noGoto_ret])
   go_ret;exact ⟨by unfold askS;rw [if_pos rfl];rfl,Below.refl _ _⟩
end
section
open Go.RowKit
structure AltB (P:Nat→Prop) (w w':World):Prop where
 size:w.heap.size≤w'.heap.size
 block:∀k,k < w.heap.size→¬P k→w'.heap[k]? =w.heap[k]?
theorem AltB.refl (P:Nat→Prop) (w:World):AltB P w w:=⟨Nat.le_refl _,fun _ _ _=> rfl⟩
theorem AltB.drew {P:Nat→Prop} {w w':World} (h:AltB P w w'):AltB P w w'.drew:=⟨h.size,h.block⟩
theorem AltB.set {P:Nat→Prop} {w w':World} (h:AltB P w w') {r o:Nat} {v:Value} (hp:P r):AltB P w (w'.setCell ⟨r,o,none⟩ v):=
 ⟨by have:=h.size;simpa using this,fun k hk hn=> (Below.heap_setCell w' ⟨r,o,none⟩ v k (fun e=> hn (by rw [e];exact hp))).trans (h.block k hk hn)⟩
theorem AltB.heap {P:Nat→Prop} {w w':World} {g:Nat} {o:Obj} (h:AltB P w w') (hn:¬P g) (hx:w.heap[g]? =some o):w'.heap[g]? =some o:=(h.block g (Array.getElem?_eq_some_iff.1 hx).1 hn).trans hx
theorem own_sameA {w w':World} {B e s n:Nat} {v:Value} {xs:List Value} (h:w.ownsRow B e s v n xs) (hb:∀g,v.ownBlock=some g→w'.heap[g]? =w.heap[g]?):w'.ownsRow B e s v n xs:=
 ⟨h.1,h.2.imp id fun ⟨g,cap,cur,hv,hB,hg,r⟩=> ⟨g,cap,cur,hv,hB,(hb g (by rw [hv];rfl)).trans hg,r⟩⟩
theorem AltB.own {P:Nat→Prop} {w w':World} {B e s n:Nat} {v:Value} {xs:List Value} (h:AltB P w w') (ho:w.ownsRow B e s v n xs) (hn:∀r,v.ownBlock=some r→¬P r):w'.ownsRow B e s v n xs:=
 own_sameA ho fun r hr=> h.block r (ho.lt r hr).2 (hn r hr)
theorem LwAt.alt {P:Nat→Prop} {B g n m mo:Nat} {w w':World} {vR vO:Value} {bj:Nat→Nat} {M:Nat→List Cx} {ord:List Int} {sg:Int} (h:LwAt B w g vR vO n m mo bj M ord sg) (ha:AltB P w w')
 (hP:∀k,P k→∃cs t,w.heap[k]? =some (.cells cs t (0,0))∧t≠171 ∧t≠33 ∧t≠3 ∧t≠43):LwAt B w' g vR vO n m mo bj M ord sg:=by
 have key:∀ {k:Nat} {cs:Array Value} {t:TypeId},w.heap[k]? =some (.cells cs t (0,0))→(t=171 ∨t=33 ∨t=3 ∨t=43)→¬P k:=by
  intro k cs t hk ht hp;obtain ⟨cs',t',h1,h2,h3,h4,h5⟩:=hP k hp;rw [hk] at h1;cases h1;rcases ht with h | h | h | h
  · exact h2 h
  · exact h3 h
  · exact h4 h
  · exact h5 h
 exact ⟨h.gB,h.bB,ha.heap (key h.box (.inl rfl)) h.box,ha.own h.oR (fun r hr=> by obtain ⟨_,c,hc⟩:=own_typ h.oR hr;exact key hc (.inr (.inl rfl))),
  ha.own h.oO (fun r hr=> by obtain ⟨_,c,hc⟩:=own_typ h.oO hr;exact key hc (.inr (.inr (.inl rfl)))),fun j hj=> ha.heap (key (h.row j hj) (.inr (.inr (.inr rfl)))) (h.row j hj),h.len,h.inj⟩
end
section
open Go.RowKit
def workS (l:List El) (om:Nat):Option Es × (Int × Int):=
 if grdS false l≠ (0,0) then (none,grdS false l) else if (matS false l om).2≠ (0,0) then (none,(matS false l om).2) else lowM (szL l) (matK l om l.length)
def RetWork (n:Nat) (S:Option Es × (Int × Int)) (w:World) (e:Ending) (w':World):Prop:=
 ∃ (r0 r1:Int) (am:Option Addr) (lm cm:Nat) (p:Option Addr),e=.returned (.tuple #[.agg #[.int .i64 r0,.int .i64 r1,.slice am lm cm,.pointer p],.agg #[.int .i64 S.2.1,.int .i64 S.2.2]])∧Below w.heap.size w w'∧
  (S.1=none∨∃s g vR vO bj M ord sg,S.1=some s∧Value.pointer p=.pointer (some ⟨g,0,none⟩)∧LwAt w.heap.size w' g vR vO n n n bj M ord sg∧LwS n s M ord sg)
theorem below_six {B gt:Nat} {w u:World} {a0 a1 a2 a3 b0 b1:Value} (h:Below B w u) (hg:B≤gt):Below B w (((((((u.setCell ⟨gt,0,none⟩ a0).setCell ⟨gt,1,none⟩ a1).setCell ⟨gt,2,none⟩ a2).setCell ⟨gt,3,none⟩ a3).setCell ⟨gt+1,0,none⟩ b0).setCell ⟨gt+1,1,none⟩ b1).drew):=
 ((((((h.setCell (p:=⟨gt,0,none⟩) hg a0).setCell (p:=⟨gt,1,none⟩) hg a1).setCell (p:=⟨gt,2,none⟩) hg a2).setCell (p:=⟨gt,3,none⟩) hg a3).setCell (p:=⟨gt+1,0,none⟩) (Nat.le_succ_of_le hg) b0).setCell (p:=⟨gt+1,1,none⟩) (Nat.le_succ_of_le hg) b1).drew
theorem alt_six {gt:Nat} {u:World} {a0 a1 a2 a3 b0 b1:Value}:AltB (fun k=> k=gt∨k=gt+1) u (((((((u.setCell ⟨gt,0,none⟩ a0).setCell ⟨gt,1,none⟩ a1).setCell ⟨gt,2,none⟩ a2).setCell ⟨gt,3,none⟩ a3).setCell ⟨gt+1,0,none⟩ b0).setCell ⟨gt+1,1,none⟩ b1).drew):=
 (((((((AltB.refl _ u).set (.inl rfl)).set (.inl rfl)).set (.inl rfl)).set (.inl rfl)).set (.inr rfl)).set (.inr rfl)).drew
theorem fault_ways (f:Int × Int):(f=(0,0))∨(f≠ (0,0)∧((f.1==0)=false∨((f.1==0)=true∧f.1=0∧(f.2==0)=false))):=by
 obtain ⟨a,b⟩:=f
 by_cases ha:a=0
 · by_cases hb:b=0
   · subst ha hb;exact .inl rfl
   · exact .inr ⟨fun h=> hb (Prod.mk.inj h).2,.inr ⟨by simpa using ha,ha,by simpa using hb⟩⟩
 · exact .inr ⟨fun h=> ha (Prod.mk.inj h).1,.inl (by simpa using ha)⟩
theorem mat_kz {l:List El} {om:Nat} (h:(matS false l om).2=(0,0)):(matS false l om).1=(szL l,(List.range (szL l * szL l)).map (matK l om l.length)):=by
 unfold matS at *;rw [if_neg (by simp)] at h⊢
 by_cases ha:angE om=0
 · rw [if_neg (by simpa using ha)] at h⊢
   by_cases h0:(matR l om 0 l fun _=> cZero).2.1=0
   · rw [if_pos h0];have hd:matS false l om=((szL l,(List.range (szL l * szL l)).map (matR l om 0 l fun _=> cZero).1),(0,0)):=by unfold matS;rw [if_neg (by simp),if_neg (by simpa using ha),if_pos h0]
     have hst:∀ (i:Nat) (x:El),l[i]? =some x→(stStep l om (matK l om i) x).2=0:=fun i=> by
      induction i using Nat.strongRecOn with
      | _ i ih=>
       intro x hx
       by_cases hz:(stStep l om (matK l om i) x).2=0
       · exact hz
       · have:=mat_stop ha hx (fun j y hj hy=> ih j hj y hy) hz;rw [hd] at this;exact absurd (Prod.mk.inj (Prod.mk.inj this).2).1.symm hz
     have h2:=mat_done ha hst;rw [hd] at h2;exact (Prod.mk.inj h2).1
   · rw [if_neg h0] at h;exact absurd (Prod.mk.inj h).1 h0
 · rw [if_pos ha] at h;exact absurd (Prod.mk.inj h).1 ha
theorem mat_sq {l:List El} {om n:Nat} {xs:List Cx} (h:(n,xs.map ck)=(szL l,(List.range (szL l * szL l)).map (matK l om l.length))):n=szL l∧xs.length=n * n∧∀i,i < n * n→matK l om l.length i=ck (xs.getD i (0,0)):=by
 obtain ⟨h1,h2⟩:=Prod.mk.inj h;subst h1;have hl:xs.length=szL l * szL l:=by have:=congrArg List.length h2;simpa using this
 refine ⟨rfl,hl,fun i hi=> ?_⟩;have h3:(xs.map ck)[i]? =some (matK l om l.length i):=by rw [h2,List.getElem?_map,List.getElem?_range hi];rfl
 rw [List.getElem?_map,List.getElem?_eq_getElem (by omega)] at h3;rw [List.getD_eq_getElem?_getD,List.getElem?_eq_getElem (by omega)];exact (Option.some.inj h3).symm
theorem work_any (p:Value) (l:List El) (om:Nat) (w:World) (hp:NN w p l) (hq:noNet p=false) (hg:NetG l):
 Calls Tryz.prog 51 #[p,.float .f64 om] w (RetWork (szL l) (workS l om) w):=by
 obtain ⟨t1,t2,t3⟩:=two_blocks w (.cells #[.int .i64 0,.int .i64 0,.slice none 0 0,.pointer none] 106) (.cells #[.int .i64 0,.int .i64 0] 38);have HT:=hid t1;have HU:=hid t2;have HBO:=hid t3;have HP:=hid (hp.below t3 (Nat.le_refl _));have HQ:=hid hq;have HG:=hid hg;clear hp hq hg t1 t2 t3;go_enter Tryz.func51,Tryz.ntmps51;go_upto_region 1 with fail;generalize (w.alloc (.cells #[.int .i64 0,.int .i64 0,.slice none 0 0,.pointer none] 106)).alloc (.cells #[.int .i64 0,.int .i64 0] 38)=w1 at *;obtain ⟨gt,hgt⟩:∃gt,w.heap.size=gt:=⟨_,rfl⟩;rw [hgt] at HT HU⊢;have HGT:=hid hgt;clear hgt;obtain ⟨f1,f2,hf⟩:∃f1 f2,grdS false l=(f1,f2):=⟨_,_,rfl⟩;have HF:=hid hf;clear hf;go_upto_region 2 with (go_at_call 21;refine (ggrounded_any p l _ HP.out (by have:=HG.out.len;omega) HG.out.ok).mono ?_;rintro e w2 ⟨rfl,hb⟩;have HT1:=hid (heap_later2 hb HT.out);have HU1:=hid (heap_later2 hb HU.out);have HP1:=hid (HP.out.below' hb);have HB1:=hid (below_next HBO.out hb);rw [HQ.out,HF.out];(try dsimp only);clear hb);clear HT HU HP HBO;have HT2:=hid (heap_later2 ((Below.refl w2.heap.size w2).alloc (Nat.le_refl _) (.cells #[.int .i64 f1,.int .i64 f2] 38)) HT1.out);have HU2:=hid (heap_later2 ((Below.refl w2.heap.size w2).alloc (Nat.le_refl _) (.cells #[.int .i64 f1,.int .i64 f2] 38)) HU1.out);have HP2:=hid (HP1.out.below' ((Below.refl w2.heap.size w2).alloc (Nat.le_refl _) (.cells #[.int .i64 f1,.int .i64 f2] 38)));have HB2:=hid (below_next HB1.out ((Below.refl w2.heap.size w2).alloc (Nat.le_refl _) (.cells #[.int .i64 f1,.int .i64 f2] 38)));have H6:=hid (heap_alloc_new w2 (.cells #[.int .i64 f1,.int .i64 f2] 38));clear HT1 HU1 HP1 HB1;generalize w2.alloc (.cells #[.int .i64 f1,.int .i64 f2] 38)=w3 at *
 generalize w2.heap.size=g6 at *;rcases fault_ways (f1,f2) with hz | ⟨hnz,hw⟩
 rotate_left
 · have HW:=hid (show workS l om=(none,(f1,f2)) by unfold workS;rw [HF.out,if_pos hnz]);dsimp only at hw;clear hnz;rcases hw with q1 | ⟨q1,q0,q2⟩
   all_goals
    have hbk:=block_cells HT2.out;have t0:=hbk.1 0 _ rfl;have t1:=hbk.1 1 _ rfl;have t2:=hbk.1 2 _ rfl;have t3:=hbk.1 3 _ rfl;have tf0:=hbk.2 0;have tf1:=hbk.2 1;have tf2:=hbk.2 2;have tf3:=hbk.2 3;clear hbk;have hbk:=block_cells HU2.out;have u0:=hbk.1 0 _ rfl;have u1:=hbk.1 1 _ rfl;have uf0:=hbk.2 0;have uf1:=hbk.2 1;clear hbk;have hbk:=block_cells H6.out;have v0:=hbk.1 0 _ rfl;have v1:=hbk.1 1 _ rfl;have vf0:=hbk.2 0;have vf1:=hbk.2 1;clear hbk;have hgne:=typ_ne HT2.out H6.out (by decide);have ko:∀ (u:World) (o q:Nat) (v:Value),(u.setCell ⟨gt,o,none⟩ v).cell? ⟨g6,q,none⟩=u.cell? ⟨g6,q,none⟩:=fun u o q v=> World.cell?_setCell_other u _ _ v (fun e=> hgne (congrArg Addr.block e))
    go_upto_region 3 with fail;go_region_with fail
    all_goals (go_wp2_with fail)
    all_goals (refine bodyPost_ret (v:=.tuple #[.agg #[.int .i64 0,.int .i64 0,.slice none 0 0,.pointer none],.agg #[.int .i64 f1,.int .i64 f2]]) ?_ rfl ⟨_,_,_,_,_,_,by rw [HW.out],?_,.inl (by rw [HW.out])⟩)
    all_goals first
     | (rw [results_cell_cellM rfl];go_simp;done)
     | (exact below_six HB2.out (Nat.le_of_eq HGT.out))
 obtain ⟨hz1,hz2⟩:=Prod.mk.inj hz;subst hz1 hz2;clear hz;have hbk:=block_cells H6.out;have v0:=hbk.1 0 _ rfl;have v1:=hbk.1 1 _ rfl;have vf0:=hbk.2 0;have vf1:=hbk.2 1;clear hbk;obtain ⟨r1,D1,e1,a1,hS⟩:∃r D e a,matS false l om=((r,D),(e,a)):=⟨_,_,_,_,rfl⟩;have HS:=hid hS;clear hS;go_upto_region 5 with (go_at_call 22;refine (((smx_any p l om _ HP2.out HQ.out HG.out).mono fun _ _ h=> RetMz.of HS.out h)).mono ?_;rintro e w4 ⟨v1,xs,rfl,hxs,hown,hb⟩;have HT3:=hid (heap_later2 hb HT2.out);have HU3:=hid (heap_later2 hb HU2.out);have HP3:=hid (HP2.out.below' hb);have H63:=hid (heap_later2 hb H6.out);have HB3:=hid (below_next HB2.out hb);have HX:=hid hxs;have HO:=hid hown;obtain ⟨am,cm,rfl⟩:=(IsSl.of_own hown).form;clear hxs hown;clear hb);clear v0 v1 vf0 vf1 HT2 HU2 HP2 H6 HB2;have HT4:=hid (heap_later2 ((Below.refl w4.heap.size w4).alloc (Nat.le_refl _) (.cells #[.int .i64 r1,.int .i64 r1,.slice am xs.length cm] 64)) HT3.out);have HU4:=hid (heap_later2 ((Below.refl w4.heap.size w4).alloc (Nat.le_refl _) (.cells #[.int .i64 r1,.int .i64 r1,.slice am xs.length cm] 64)) HU3.out);have HP4:=hid (HP3.out.below' ((Below.refl w4.heap.size w4).alloc (Nat.le_refl _) (.cells #[.int .i64 r1,.int .i64 r1,.slice am xs.length cm] 64)));have H64:=hid (heap_later2 ((Below.refl w4.heap.size w4).alloc (Nat.le_refl _) (.cells #[.int .i64 r1,.int .i64 r1,.slice am xs.length cm] 64)) H63.out);have HO4:=hid (own_none HO.out (grown_of_below ((Below.refl w4.heap.size w4).alloc (Nat.le_refl _) (.cells #[.int .i64 r1,.int .i64 r1,.slice am xs.length cm] 64)) none));have HB4:=hid (below_next HB3.out ((Below.refl w4.heap.size w4).alloc (Nat.le_refl _) (.cells #[.int .i64 r1,.int .i64 r1,.slice am xs.length cm] 64)));have HNE:=hid (show gt+1 < w4.heap.size from (Array.getElem?_eq_some_iff.1 HU3.out).1)
 have HZ5:=hid (show (w4.alloc (.cells #[.int .i64 r1,.int .i64 r1,.slice am xs.length cm] 64)).heap.size=w4.heap.size+1 by simp);have H7:=hid (heap_alloc_new w4 (.cells #[.int .i64 r1,.int .i64 r1,.slice am xs.length cm] 64));clear HT3 HU3 HP3 H63 HO HB3;generalize w4.alloc (.cells #[.int .i64 r1,.int .i64 r1,.slice am xs.length cm] 64)=w5 at *;generalize w4.heap.size=g7 at *;have HT5:=hid (heap_later2 ((Below.refl w5.heap.size w5).alloc (Nat.le_refl _) (.cells #[.int .i64 e1,.int .i64 a1] 38)) HT4.out);have HU5:=hid (heap_later2 ((Below.refl w5.heap.size w5).alloc (Nat.le_refl _) (.cells #[.int .i64 e1,.int .i64 a1] 38)) HU4.out);have HP5:=hid (HP4.out.below' ((Below.refl w5.heap.size w5).alloc (Nat.le_refl _) (.cells #[.int .i64 e1,.int .i64 a1] 38)));have H65:=hid (heap_later2 ((Below.refl w5.heap.size w5).alloc (Nat.le_refl _) (.cells #[.int .i64 e1,.int .i64 a1] 38)) H64.out);have HO5:=hid (own_none HO4.out (grown_of_below ((Below.refl w5.heap.size w5).alloc (Nat.le_refl _) (.cells #[.int .i64 e1,.int .i64 a1] 38)) none));have H75:=hid (heap_later2 ((Below.refl w5.heap.size w5).alloc (Nat.le_refl _) (.cells #[.int .i64 e1,.int .i64 a1] 38)) H7.out);have HB5:=hid (below_next HB4.out ((Below.refl w5.heap.size w5).alloc (Nat.le_refl _) (.cells #[.int .i64 e1,.int .i64 a1] 38)));have H8:=hid (heap_alloc_new w5 (.cells #[.int .i64 e1,.int .i64 a1] 38));rw [HZ5.out] at H8;clear HT4 HU4 HP4 H64 HO4 H7 HB4;generalize w5.alloc (.cells #[.int .i64 e1,.int .i64 a1] 38)=w6 at *;obtain ⟨g8,hg8⟩:∃g8,g7+1=g8:=⟨_,rfl⟩;rw [hg8] at H8⊢;have HN8:=hid (show gt+1 < g8 by have:=HNE.out;omega);clear hg8;rcases fault_ways (e1,a1) with hz | ⟨hnz,hw⟩
 rotate_left
 · have HW:=hid (show workS l om=(none,(e1,a1)) by unfold workS;rw [HF.out,if_neg (fun h=> h rfl),HS.out,if_pos hnz]);dsimp only at hw;clear hnz;rcases hw with q1 | ⟨q1,q0,q2⟩
   all_goals
    have hbk:=block_cells HT5.out;have t0:=hbk.1 0 _ rfl;have t1:=hbk.1 1 _ rfl;have t2:=hbk.1 2 _ rfl;have t3:=hbk.1 3 _ rfl;have tf0:=hbk.2 0;have tf1:=hbk.2 1;have tf2:=hbk.2 2;have tf3:=hbk.2 3;clear hbk;have hbk:=block_cells HU5.out;have u0:=hbk.1 0 _ rfl;have u1:=hbk.1 1 _ rfl;have uf0:=hbk.2 0;have uf1:=hbk.2 1;clear hbk;have hbk:=block_cells H8.out;have v0:=hbk.1 0 _ rfl;have v1:=hbk.1 1 _ rfl;have vf0:=hbk.2 0;have vf1:=hbk.2 1;clear hbk;have hgne:=typ_ne HT5.out H8.out (by decide);have ko:∀ (u:World) (o q:Nat) (v:Value),(u.setCell ⟨gt,o,none⟩ v).cell? ⟨g8,q,none⟩=u.cell? ⟨g8,q,none⟩:=fun u o q v=> World.cell?_setCell_other u _ _ v (fun e=> hgne (congrArg Addr.block e))
    go_upto_region 6 with fail;go_region_with fail
    all_goals (go_wp2_with fail)
    all_goals (refine bodyPost_ret (v:=.tuple #[.agg #[.int .i64 0,.int .i64 0,.slice none 0 0,.pointer none],.agg #[.int .i64 e1,.int .i64 a1]]) ?_ rfl ⟨_,_,_,_,_,_,by rw [HW.out],?_,.inl (by rw [HW.out])⟩)
    all_goals first
     | (rw [results_cell_cellM rfl];go_simp;done)
     | (exact below_six HB5.out (Nat.le_of_eq HGT.out))
 obtain ⟨hz1,hz2⟩:=Prod.mk.inj hz;subst hz1 hz2;clear hz;obtain ⟨c1,c2,c3⟩:=mat_sq (om:=om) (l:=l) (n:=r1) (xs:=xs) (by rw [HX.out];have h:=mat_kz (l:=l) (om:=om) (by rw [HS.out]);rw [HS.out] at h;exact h);have HNZ:=hid c1;have HXL:=hid c2;have HMK:=hid c3;have hr64:r1≤64:=by rw [c1];exact HG.out.sz
 have HR64:=hid hr64;clear c1 c2 c3 hr64;obtain ⟨So,s1,s2,hlow⟩:∃So s1 s2,lowM (szL l) (matK l om l.length)=(So,(s1,s2)):=⟨_,_,_,rfl⟩;have HLOW:=hid hlow;clear hlow;have HW:=hid (show workS l om=(So,(s1,s2)) by unfold workS;rw [HF.out,if_neg (fun h=> h rfl),HS.out,if_neg (fun h=> h rfl),HLOW.out]);have hbk:=block_cells H8.out;have v0:=hbk.1 0 _ rfl;have v1:=hbk.1 1 _ rfl;have vf0:=hbk.2 0;have vf1:=hbk.2 1;clear hbk;go_upto_region 7 with fail;clear v0 v1 vf0 vf1;have hbk:=block_cells H75.out;have m0:=hbk.1 0 _ rfl;have m1:=hbk.1 1 _ rfl;have m2:=hbk.1 2 _ rfl;clear hbk;go_upto_region 8 with (go_at_call 81;refine (lowof_any r1 xs.length (.slice am xs.length cm) xs (matK l om l.length) _ (IsSl.of_own HO5.out) HR64.out HXL.out HMK.out).mono ?_;rintro e w7 ⟨p',hpe,hb,hcs⟩;have HT6:=hid (heap_later2 hb HT5.out);have HU6:=hid (heap_later2 hb HU5.out);have HP6:=hid (HP5.out.below' hb);have H66:=hid (heap_later2 hb H65.out);have HO6:=hid (own_none HO5.out (grown_of_below hb none));have H76:=hid (heap_later2 hb H75.out);have H86:=hid (heap_later2 hb H8.out);have HB6:=hid (below_next HB5.out hb);have HLE6:=hid (show w.heap.size≤w6.heap.size from HB5.out.size);rw [HNZ.out,HLOW.out] at hpe hcs;dsimp only at hpe hcs;subst hpe;have HCS:=hid hcs;clear hcs;have hbk:=block_cells H86.out;have v0:=hbk.1 0 _ rfl;have v1:=hbk.1 1 _ rfl;have vf0:=hbk.2 0;have vf1:=hbk.2 1;clear hbk;have HW6:=hid hb;clear hb);clear v0 v1 vf0 vf1 m0 m1 m2 HT5 HU5 HP5 H65 HO5 H75 H8 HB5;obtain ⟨pa,rfl⟩:∃pa:Option Addr,p'=.pointer pa:=by
  rcases HCS.out with ⟨_,h⟩ | ⟨_,_,_,_,_,_,_,_,_,h,_⟩
  · exact ⟨_,h⟩
  · exact ⟨_,h⟩
 have hgr:w7.grownBy ((w7.setCell ⟨g8,0,none⟩ (.int .i64 s1)).setCell ⟨g8,1,none⟩ (.int .i64 s2)) (some g8):=grown_trans (set1_grown w7 g8 0 _) (set1_grown _ g8 1 _);have HT9:=hid (heap_nextG hgr (typ_ne HT6.out H86.out (by decide)) HT6.out);have HU9:=hid (heap_nextG hgr (by have:=HN8.out;omega) HU6.out);have H79:=hid (heap_nextG hgr (typ_ne H76.out H86.out (by decide)) H76.out);have H89:Hid (((w7.setCell ⟨g8,0,none⟩ (.int .i64 s1)).setCell ⟨g8,1,none⟩ (.int .i64 s2)).heap[g8]? =some (.cells #[.int .i64 s1,.int .i64 s2] 38 (0,0))):=hid (blk_set (blk_set H86.out _) _);have HB9:=hid ((HB6.out.setCell (p:=⟨g8,0,none⟩) (by have:=HN8.out;have:=HGT.out;dsimp only;omega) (.int .i64 s1)).setCell (p:=⟨g8,1,none⟩) (by have:=HN8.out;have:=HGT.out;dsimp only;omega) (.int .i64 s2));skip;have HFIN:=hid (show∀W:World,AltB (fun k=> k=gt∨k=gt+1) ((w7.setCell ⟨g8,0,none⟩ (.int .i64 s1)).setCell ⟨g8,1,none⟩ (.int .i64 s2)) W→(So=none∨∃s g vR vO bj M ord sg,So=some s∧.pointer pa=Value.pointer (some ⟨g,0,none⟩)∧LwAt w.heap.size W g vR vO (szL l) (szL l) (szL l) bj M ord sg∧LwS (szL l) s M ord sg) from fun W ha=> by
  rcases HCS.out with ⟨h1,_⟩ | ⟨s,g,vR,vO,bj,M,ord,sg,h1,h2,h3,h4⟩
  · exact .inl h1
  · refine .inr ⟨s,g,vR,vO,bj,M,ord,sg,h1,h2,((h3.fault H86.out _ _).alt ha (fun k hk=> ?_)).base HLE6.out,h4⟩;rcases hk with rfl | rfl
    · exact ⟨_,_,HT9.out,by decide,by decide,by decide,by decide⟩
    · exact ⟨_,_,HU9.out,by decide,by decide,by decide,by decide⟩)
 clear hgr HT6 HU6 HP6 H66 HO6 H76 H86 HB6;generalize ((w7.setCell ⟨g8,0,none⟩ (.int .i64 s1)).setCell ⟨g8,1,none⟩ (.int .i64 s2))=w8 at *;have hbk:=block_cells HT9.out;have t0:=hbk.1 0 _ rfl;have t1:=hbk.1 1 _ rfl;have t2:=hbk.1 2 _ rfl;have t3:=hbk.1 3 _ rfl;have tf0:=hbk.2 0;have tf1:=hbk.2 1;have tf2:=hbk.2 2;have tf3:=hbk.2 3;clear hbk;have hbk:=block_cells HU9.out;have u0:=hbk.1 0 _ rfl;have u1:=hbk.1 1 _ rfl;have uf0:=hbk.2 0;have uf1:=hbk.2 1;clear hbk;have hbk:=block_cells H89.out;have v0:=hbk.1 0 _ rfl;have v1:=hbk.1 1 _ rfl;have vf0:=hbk.2 0;have vf1:=hbk.2 1;clear hbk;have hbk:=block_cells H79.out;have m0:=hbk.1 0 _ rfl;have m1:=hbk.1 1 _ rfl;have m2:=hbk.1 2 _ rfl;have mf0:=hbk.2 0;have mf1:=hbk.2 1;have mf2:=hbk.2 2;clear hbk;have hgne:=typ_ne HT9.out H89.out (by decide);have ko:∀ (u:World) (o q:Nat) (v:Value),(u.setCell ⟨gt,o,none⟩ v).cell? ⟨g8,q,none⟩=u.cell? ⟨g8,q,none⟩:=fun u o q v=> World.cell?_setCell_other u _ _ v (fun e=> hgne (congrArg Addr.block e))
 go_region_with fail
 all_goals (go_wp2_with fail)
 all_goals (refine bodyPost_ret (v:=.tuple #[.agg #[.int .i64 r1,.int .i64 r1,.slice am xs.length cm,.pointer pa],.agg #[.int .i64 s1,.int .i64 s2]]) ?_ rfl ⟨_,_,_,_,_,_,by rw [HW.out],?_,?_⟩)
 all_goals first
  | (rw [results_cell_cellM rfl];go_simp;done)
  | (exact below_six HB9.out (Nat.le_of_eq HGT.out))
  | (rw [HW.out];exact HFIN.out _ alt_six)
end
end Go.Proofs.YtaegmlhfecfgkaaGreatDoor
