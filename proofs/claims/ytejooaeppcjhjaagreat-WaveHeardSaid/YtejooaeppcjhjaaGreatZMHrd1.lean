/- a part of the proof of the last text -/
import Derived.Test.YtejooaeppcjhjaaGreatZMRgt1
namespace Go.Proofs.YtejooaeppcjhjaaGreat
set_option linter.all false
set_option maxHeartbeats 4000000
set_option maxRecDepth 100000
section
open Go.RowKit
def wB (om k:Nat):Nat:=fop .mul (fc om) (fc (floatOfInt .f64 ((k:Int)+1)))
def vX (l:List El) (x:Nat→Cx) (t:ByteArray):Cx × Int:=if has (nds l) t=true then (x (plI (nds l) t).toNat,0) else if t.toList= [48] then (ck (0,0),0) else (ck (0,0),10)
def zGa (k:Nat) (at_:Int):Int:=(((k:Int)+1) % 24 * (at_ % 24)) % 24
def zEn (l:List El) (wk:Nat) (t:ByteArray) (at_:Int) (k:Nat):Nat × Int:=
 if ffin wk=false then (0,5) else match solS false l wk with
 | (none,f)=> (0,f.1)
 | (some x,_)=> if (vX l x t).2≠0 then (0,(vX l x t).2) else ((cmul (vX l x t).1 (fc (root (zGa k at_)).1,fc (root (zGa k at_)).2)).1,0)
def sumH (ls:List (List El)) (om:Nat) (t:ByteArray) (at_:Int):Nat→Nat
 | 0=> fc 0
 | k+1=> fop .add (sumH ls om t at_ k) (fc (zEn (ls.getD k []) (wB om k) t at_ k).1)
def hBad (ls:List (List El)) (om:Nat) (t:ByteArray) (at_:Int):Option Nat:=(List.range ls.length).find? fun k=> (zEn (ls.getD k []) (wB om k) t at_ k).2 !=0
def zDb (bs:List Bool) (ls:List (List El)) (om:Nat) (t:ByteArray) (at_:Int):Nat × (Int × Int):=
 if mayS bs om≠ (0,0) then (fc 0,mayS bs om) else match hBad ls om t at_ with
 | some k=> (fc 0,((zEn (ls.getD k []) (wB om k) t at_ k).2,(k:Int)))
 | none=> if ffin (sumH ls om t at_ ls.length)=false then (fc 0,(6,-1)) else (sumH ls om t at_ ls.length,(0,0))
theorem heard_may {bs:List Bool} {ls:List (List El)} {om:Nat} {t:ByteArray} {at_:Int} (h:mayS bs om≠ (0,0)):zDb bs ls om t at_=(fc 0,mayS bs om):=by unfold zDb;rw [if_pos h]
theorem zFu {bs:List Bool} {ls:List (List El)} {om:Nat} {t:ByteArray} {at_:Int} {k:Nat} (h:mayS bs om=(0,0)) (hk:k < ls.length) (h0:∀i,i < k→(zEn (ls.getD i []) (wB om i) t at_ i).2=0) (hp:(zEn (ls.getD k []) (wB om k) t at_ k).2≠0):
 zDb bs ls om t at_=(fc 0,((zEn (ls.getD k []) (wB om k) t at_ k).2,(k:Int))):=by
 unfold zDb hBad;rw [if_neg (fun h2=> h2 h),find_at hk (fun i hi=> by rw [h0 i hi];rfl) (by simpa using hp)]
theorem heard_done {bs:List Bool} {ls:List (List El)} {om:Nat} {t:ByteArray} {at_:Int} (h:mayS bs om=(0,0)) (h0:∀i,i < ls.length→(zEn (ls.getD i []) (wB om i) t at_ i).2=0):
 zDb bs ls om t at_=if ffin (sumH ls om t at_ ls.length)=false then (fc 0,(6,-1)) else (sumH ls om t at_ ls.length,(0,0)):=by
 unfold zDb hBad;rw [if_neg (fun h2=> h2 h),List.find?_eq_none.2 (fun i hi=> by rw [h0 i (by simpa using hi)];decide)]
theorem lowM_err {n:Nat} {m:Nat→Cx} {f:Int × Int} (h:lowM n m=(none,f)):f.1≠0:=by
 unfold lowM at h
 split at h
 · rw [←(Prod.mk.inj h).2];exact (by decide:(5:Int)≠0)
 · unfold lowE lowBad at h
   split at h
   · rename_i k h1;have h2:=List.find?_some h1;rw [←(Prod.mk.inj h).2]
     simpa using h2
   · cases (Prod.mk.inj h).1
theorem grd_err {l:List El} (h:grdS false l≠ (0,0)):(grdS false l).1≠0:=by
 unfold grdS at *;rw [if_neg (by simp)] at h⊢
 split
 · exact (by decide:(11:Int)≠0)
 · rename_i h1;rw [h1] at h;exact absurd rfl h
theorem mat_err {l:List El} {om:Nat} (h:(matS false l om).2≠ (0,0)):(matS false l om).2.1≠0:=by
 unfold matS at *;rw [if_neg (by simp)] at h⊢
 split at h
 · rename_i h1;rw [if_pos h1];exact h1
 · rename_i h1;rw [if_neg h1]
   split at h
   · exact absurd rfl h
   · rename_i h2;rw [if_neg h2];exact h2
theorem rgt_err {l:List El} (h:(rgtE false l).2≠ (0,0)):(rgtE false l).2.1≠0:=by
 unfold rgtE at *;rw [if_neg (by simp)] at h⊢
 split
 · exact (by decide:(6:Int)≠0)
 · rename_i h1;rw [h1] at h;exact absurd rfl h
theorem with_err {b:Bool} {l:List El} {om:Nat} {r:List Cx} {f:Int × Int} (h:zDd b l om r=(none,f)):f.1≠0:=by
 unfold zDd at h
 split at h
 · rename_i h1;rw [←(Prod.mk.inj h).2];unfold zEj;rw [if_neg h1];exact h1
 · split at h
   · rw [←(Prod.mk.inj h).2];decide
   · split at h
     · rw [←(Prod.mk.inj h).2];decide
     · split at h
       · rename_i h1;rw [←(Prod.mk.inj h).2];exact grd_err h1
       · split at h
         · rename_i h1;rw [←(Prod.mk.inj h).2];exact mat_err h1
         · split at h
           · rename_i f2 h1;rw [←(Prod.mk.inj h).2];exact lowM_err h1
           · split at h
             · cases (Prod.mk.inj h).1
             · rw [←(Prod.mk.inj h).2];decide
theorem sol_err {b:Bool} {l:List El} {om:Nat} {f:Int × Int} (h:solS b l om=(none,f)):f.1≠0:=by
 unfold solS at h
 split at h
 · rename_i h1;rw [←(Prod.mk.inj h).2];unfold zEj;rw [if_neg h1];exact h1
 · split at h
   · rename_i h1;rw [←(Prod.mk.inj h).2];exact grd_err h1
   · split at h
     · rename_i h1;rw [←(Prod.mk.inj h).2];exact mat_err h1
     · split at h
       · rename_i h1;rw [←(Prod.mk.inj h).2];exact rgt_err h1
       · exact with_err h
theorem with_some {b:Bool} {l:List El} {om:Nat} {r:List Cx} {x:Nat→Cx} {f:Int × Int} (h:zDd b l om r=(some x,f)):f=(0,0):=by
 unfold zDd at h
 split at h
 · cases (Prod.mk.inj h).1
 · split at h
   · cases (Prod.mk.inj h).1
   · split at h
     · cases (Prod.mk.inj h).1
     · split at h
       · cases (Prod.mk.inj h).1
       · split at h
         · cases (Prod.mk.inj h).1
         · split at h
           · cases (Prod.mk.inj h).1
           · split at h
             · exact (Prod.mk.inj h).2.symm
             · cases (Prod.mk.inj h).1
theorem sol_some {b:Bool} {l:List El} {om:Nat} {x:Nat→Cx} {f:Int × Int} (h:solS b l om=(some x,f)):f=(0,0):=by
 unfold solS at h
 split at h
 · cases (Prod.mk.inj h).1
 · split at h
   · cases (Prod.mk.inj h).1
   · split at h
     · cases (Prod.mk.inj h).1
     · split at h
       · cases (Prod.mk.inj h).1
       · exact with_some h
theorem vx_of {l:List El} {x:Nat→Cx} {M:List Cx} {na:Nat} {t:ByteArray} (hl:M.length=(nds l).length) (ha:na=(brs l).length) (hx:∀i,i < M.length→ck (M.getD i (0,0))=x i):
 ck (vltS false l M na t).1=(vX l x t).1∧(vltS false l M na t).2=(vX l x t).2:=by
 have hf:fitsS false M.length na (nds l).length (brs l).length=0:=by unfold fitsS;rw [if_neg (by simp),if_neg (by omega)]
 unfold vltS vX;rw [hf,if_neg (fun h=> h rfl)]
 by_cases hh:has (nds l) t=true
 · rw [if_pos hh,if_pos hh];obtain ⟨j,hj,hj2⟩:=pl_in2 hh;rw [hj];exact ⟨hx j (by omega),rfl⟩
 · rw [if_neg hh,if_neg hh]
   by_cases hz:t.toList= [48]
   · rw [if_pos hz,if_pos hz];exact ⟨rfl,rfl⟩
   · rw [if_neg hz,if_neg hz];exact ⟨rfl,rfl⟩
theorem fin_same {r y:Nat} (h:fc r=y) (hy:ffin y=true):r=y:=by
 cases hn:fnan r
 · rw [←h,zCw hn]
 · rw [zCx hn] at h;subst h;exact absurd hy (by decide+kernel)
theorem hear_five {l:List El} {wk:Nat} {t:ByteArray} {at_:Int} {k:Nat} (h:ffin wk=false):zEn l wk t at_ k=(0,5):=by unfold zEn;rw [if_pos h]
theorem hear_none {l:List El} {wk:Nat} {t:ByteArray} {at_:Int} {k:Nat} {f:Int × Int} (h:ffin wk=true) (hs:solS false l wk=(none,f)):zEn l wk t at_ k=(0,f.1):=by
 unfold zEn;rw [if_neg (by rw [h];simp),hs]
theorem hear_some {l:List El} {wk:Nat} {t:ByteArray} {at_:Int} {k:Nat} {x:Nat→Cx} {f:Int × Int} (h:ffin wk=true) (hs:solS false l wk=(some x,f)):
 zEn l wk t at_ k=if (vX l x t).2≠0 then (0,(vX l x t).2) else ((cmul (vX l x t).1 (fc (root (zGa k at_)).1,fc (root (zGa k at_)).2)).1,0):=by
 unfold zEn;rw [if_neg (by rw [h];simp),hs]
end
section
open Go.RowKit
def zEu (S:Nat × (Int × Int)) (w:World) (e:Ending) (w':World):Prop:=
 ∃r,e=.returned (.tuple #[.float .f64 r,.agg #[.int .i64 S.2.1,.int .i64 S.2.2]])∧fc r=S.1∧Below w.heap.size w w'
theorem zEu.of {S:Nat × (Int × Int)} {w w':World} {r:Nat} {a b:Int} (h:S=(fc r,(a,b))) (hb:Below w.heap.size w w'):zEu S w (.returned (.tuple #[.float .f64 r,.agg #[.int .i64 a,.int .i64 b]])) w':=
 ⟨r,by rw [h],by rw [h],hb⟩
theorem may_ok {bs:List Bool} {om:Nat} (h:mayS bs om=(0,0)):bs.length≤64∧∀i,i < bs.length→bs.getD i false=false:=by
 unfold mayS at h
 split at h
 · cases (Prod.mk.inj h).1
 · rename_i h1
   split at h
   · cases (Prod.mk.inj h).1
   · rename_i h2;refine ⟨by omega,fun i hi=> ?_⟩;have:=List.find?_eq_none.1 h2 i (by simpa using hi)
     simpa using this
theorem VecM.sl {w:World} {b n:Nat} {r:Nat→Cx} {M:List Cx} (h:VecM w b n r M):IsSl w 1 (.slice (some ⟨b,0,none⟩) n n) M.length (M.map mkC):=by
 obtain ⟨hl,hr,_⟩:=h;subst hl;refine ⟨by simp,.inr ⟨b,0,M.length,rfl,Nat.le_refl _,(Array.getElem?_eq_some_iff.1 hr).1,fun q hq=> ?_⟩⟩;rw [Nat.zero_add,cell_of_row _ _ _ _ _ _ hr,List.getElem?_toArray]
theorem zBv {B gt:Nat} {w u:World} {a b:Value} (h:Below B w u) (hg:B≤gt):Below B w ((u.setCell ⟨gt,0,none⟩ a).setCell ⟨gt,1,none⟩ b):=
 (h.setCell (p:=⟨gt,0,none⟩) hg a).setCell (p:=⟨gt,1,none⟩) hg b
theorem zGp.no2 {om k m:Nat} {b:Bool} {l:List El} {y1 y2:Int} {w w':World} {e:Ending} (h:zGp om k m (solS b l om) w e w') (hb:b=false) (hs:solS false l om=(none,(y1,y2))):e=.returned (.tuple #[.agg #[.float .f64 0,.slice none 0 0,.slice none 0 0],.agg #[.int .i64 y1,.int .i64 y2]])∧Below w.heap.size w w':=by
 subst hb;have h2:=h.no (by rw [hs]);rw [hs] at h2;exact h2
theorem zGp.yes2 {om k m:Nat} {b:Bool} {l:List El} {x:Nat→Cx} {y:Int × Int} {w w':World} {e:Ending} (h:zGp om k m (solS b l om) w e w') (hb:b=false) (hs:solS false l om=(some x,y)):
 ∃q1 q2 M1 M2,e=.returned (.tuple #[.agg #[.float .f64 om,.slice (some ⟨q1,0,none⟩) k k,.slice (some ⟨q2,0,none⟩) m m],.agg #[.int .i64 0,.int .i64 0]])∧VecM w' q1 k x M1∧VecM w' q2 m (fun i=> x (k+i)) M2∧Below w.heap.size w w':=by
 subst hb;obtain ⟨q1,q2,h1,_,_,_,_,⟨M1,h2⟩,⟨M2,h3⟩,h4⟩:=h.yes (by rw [hs]);exact ⟨q1,q2,M1,M2,h1,h2,h3,h4⟩
theorem ls_at {ls:List (List El)} {k:Nat} {l:List El} (h:ls[k]? =some l):ls.getD k []=l:=by rw [List.getD_eq_getElem?_getD,h];rfl
theorem wrap1 {k:Nat} (h:k≤64):IntKind.i64.wrap ((k:Int)+1)=(k:Int)+1:=IntWalk.i64_in _ ⟨by omega,by omega⟩
theorem heard_any (v:Value) (ps:List Value) (ls:List (List El)) (om:Nat) (t:ByteArray) (at_:Int) (w:World) (h:NetsAt w v ps ls) (hl:ps.length≤100000) (ht:t.size≤maxLen):
 Calls Tryz.prog 9 #[v,.float .f64 om,.string t,.int .i64 at_] w (zEu (zDb (ps.map zAw) ls om t at_) w):=by
 obtain ⟨av,cv,rfl⟩:=h.sl.form;obtain ⟨i0,hi,hz0,hz1,hz2⟩:=info_parts infoNp;have hb1:=(Below.refl w.heap.size w).alloc (Nat.le_refl _) (.cells #[.int .i64 0,.int .i64 0] 32);have HBO:=hid hb1;have HU:=hid (heap_alloc_new w (.cells #[.int .i64 0,.int .i64 0] 32));have HN:=hid (h.below hb1);have HPL:=hid hl;have HTL:=hid ht;clear h hl hb1 ht;go_enter Tryz.func9,Tryz.ntmps9;go_upto_region 1 with fail;generalize w.alloc (.cells #[.int .i64 0,.int .i64 0] 32)=w1 at *;obtain ⟨gt,hgt⟩:∃gt,w.heap.size=gt:=⟨_,rfl⟩;rw [hgt] at HU⊢;have HGT:=hid hgt;clear hgt;obtain ⟨f1,f2,hf⟩:∃f1 f2,mayS (ps.map zAw) om=(f1,f2):=⟨_,_,rfl⟩;have HF:=hid hf;clear hf;go_upto_region 2 with (go_at_call 24;refine (may_any _ ps ls om _ HN.out HPL.out).mono ?_;rintro e w2 ⟨rfl,hb⟩;have HU1:=hid (zAc hb HU.out);have HN1:=hid (HN.out.below hb);have HB1:=hid (zAd HBO.out hb);rw [HF.out];(try dsimp only);clear hb);clear HU HN HBO;have HU2:=hid (zAc ((Below.refl w2.heap.size w2).alloc (Nat.le_refl _) (.cells #[.int .i64 f1,.int .i64 f2] 32)) HU1.out);have HN2:=hid (HN1.out.below ((Below.refl w2.heap.size w2).alloc (Nat.le_refl _) (.cells #[.int .i64 f1,.int .i64 f2] 32)));have HB2:=hid (zAd HB1.out ((Below.refl w2.heap.size w2).alloc (Nat.le_refl _) (.cells #[.int .i64 f1,.int .i64 f2] 32)));have H6:=hid (heap_alloc_new w2 (.cells #[.int .i64 f1,.int .i64 f2] 32));clear HU1 HN1 HB1;generalize w2.alloc (.cells #[.int .i64 f1,.int .i64 f2] 32)=w3 at *;generalize w2.heap.size=g6 at *;have hbk:=zAb HU2.out;have u0:=hbk.1 0 _ rfl;have u1:=hbk.1 1 _ rfl;have uf0:=hbk.2 0;have uf1:=hbk.2 1;clear hbk;have hbk:=zAb H6.out;have v0:=hbk.1 0 _ rfl;have v1:=hbk.1 1 _ rfl;have vf0:=hbk.2 0
 have vf1:=hbk.2 1;clear hbk;rcases zBw (f1,f2) with hz | ⟨hnz,hw⟩
 rotate_left
 · have HW:=hid (show zDb (ps.map zAw) ls om t at_=(fc 0,(f1,f2)) by rw [heard_may (by rw [HF.out];exact hnz),HF.out]);dsimp only at hw;clear hnz;rcases hw with q1 | ⟨q1,q0,q2⟩
   all_goals
    go_upto_region 3 with fail;go_region_with fail
    all_goals (go_wp2_with fail)
    all_goals (try simp only [Exit.inBlock,Exit.then])
    all_goals (try rw [Exit.noGoto_ret])
    all_goals (refine bodyPost_ret (v:=.tuple #[.float .f64 0,.agg #[.int .i64 f1,.int .i64 f2]]) ?_ rfl (zEu.of HW.out (zBv HB2.out (Nat.le_of_eq HGT.out)).drew))
    all_goals (rw [zAi rfl];go_simp;done)
 obtain ⟨hz1,hz2⟩:=Prod.mk.inj hz;subst hz1 hz2;clear hz;obtain ⟨hl64,hno⟩:=may_ok HF.out;rw [List.length_map] at hl64;have HL64:=hid hl64;have HNO:=hid (show∀i p,ps[i]? =some p→zAw p=false from fun i p hp=> by rw [←no_at hp];exact hno i (by rw [List.length_map];exact (List.getElem?_eq_some_iff.1 hp).1));clear hl64 hno;go_upto_region 5 with fail;clear u0 u1 v0 v1 uf0 uf1 vf0 vf1;go_wp2
 go_loopw [11,28] (fun s i wr=> ∃ (k r:Nat),k≤ps.length∧i=.int .i64 k∧s=.float .f64 r∧fc r=sumH ls om t at_ k∧(∀i,i < k→(zEn (ls.getD i []) (wB om i) t at_ i).2=0)∧Below w3.heap.size w3 wr) (fun _ i _=> ps.length - (intOf i).toNat)
 case atStart=> exact ⟨0,0,Nat.zero_le _,rfl,rfl,rfl,fun i hi=> absurd hi (Nat.not_lt_zero _),Below.refl _ _⟩
 case round=>
  obtain ⟨k,r,hk,rfl,rfl,hr,hall,hb⟩:=hrel;obtain ⟨wo,rfl⟩:∃wo:World,wo=wr:=⟨_,rfl⟩;have HW3:=hid hb;have HAL:=hid hall;have HR:=hid hr;have hbnd:=HL64.out;have HU3:=hid (zAc hb HU2.out);have HN3:=hid (HN2.out.below hb);have HB3:=hid (zAd HB2.out hb);clear hall hb hr HU2 HN2 HB2
  by_cases hlt:k < ps.length
  · obtain ⟨g,o,p,hidx,hg,hc,hx0⟩:=IsSl.at1 Tryz.underlying24 hi hz1 HN3.out.sl hlt;obtain ⟨l,hl,hnn,hng⟩:=HN3.out.get hx0;have HLT:=hid (show k < ls.length by rw [←HN3.out.len];exact hlt);have HLA:=hid (ls_at hl);have HNN:=hid hnn;have HNG:=hid hng;have HQ:=hid (HNO.out k p hx0);have hw1:=wrap1 (k:=k) (by omega);clear hx0 hl hnn hng;go_upto_region 9 with (refine zAp rfl _ _ _ _ _ rfl rfl _ _ rfl rfl ?_;intro r1 n1 hr1;have HR1:=hid hr1;clear hr1;have hb:=zAg (Below.refl wo.heap.size wo) n1;have HU4:=hid (zAc hb HU3.out);have HN4:=hid (HN3.out.below hb);have HNN4:=hid (HNN.out.below' hb);have HW34:=hid (zAd HW3.out hb);have HB4:=hid (zAd HB3.out hb);clear hb);clear hw1 hidx hg hc HU3 HN3 HNN HW3 HB3;generalize wo.drewN n1=wn at *;cases hf:ffin (fc r1)
    · have HFI:=hid hf;have HW:=hid (show zDb (ps.map zAw) ls om t at_=(fc 0,(5,(k:Int))) by
       have h5:zEn (ls.getD k []) (wB om k) t at_ k=(0,5):=hear_five (by have h:=HR1.out;unfold wB;rw [←h];exact hf);rw [zFu HF.out HLT.out HAL.out (by rw [h5];decide),h5])
      clear hf;have hbk:=zAb HU4.out;have u0:=hbk.1 0 _ rfl;have u1:=hbk.1 1 _ rfl;have uf0:=hbk.2 0;have uf1:=hbk.2 1;clear hbk;go_wp2_with (go_at_call 25;refine (zDz _ _).mono ?_;rintro e w2 ⟨rfl,rfl⟩;rw [HFI.out])
      (try simp only [Exit.inBlock,Exit.then])
      (try rw [Exit.noGoto_ret])
      (refine bodyPost_ret (v:=.tuple #[.float .f64 0,.agg #[.int .i64 5,.int .i64 k]]) ?_ rfl (zEu.of HW.out (zBv HB4.out (Nat.le_of_eq HGT.out))))
      (rw [zAi rfl];go_simp;done)
    · have HFI:=hid hf;have hrr:r1=fc r1:=fin_same rfl hf;have HWB:=hid (show wB om k=r1 from HR1.out.symm.trans hrr.symm);have HFR:=hid (show ffin r1=true by rw [hrr];exact hf);clear hf hrr;go_upto_region 11 with (go_at_call 25;refine (zDz _ _).mono ?_;rintro e w2 ⟨rfl,rfl⟩;rw [HFI.out]);rcases hs:solS false l r1 with ⟨_ | x,y1,y2⟩
      · have HS:=hid hs;have hy:y1≠0:=sol_err hs;have HW:=hid (show zDb (ps.map zAw) ls om t at_=(fc 0,(y1,(k:Int))) by
         have h5:zEn (ls.getD k []) (wB om k) t at_ k=(0,y1):=by rw [HWB.out,HLA.out];exact hear_none HFR.out hs
         rw [zFu HF.out HLT.out HAL.out (by rw [h5];exact hy),h5])
        clear hs;go_upto_region 12 with (go_at_call 26;refine (((psolve_any p l r1 _ HNN4.out HNG.out).mono fun _ _ h=> h.no2 HQ.out HS.out)).mono ?_;rintro e w5 ⟨rfl,hb⟩;have HU5:=hid (zAc hb HU4.out);have HN5:=hid (HN4.out.below hb);have HNN5:=hid (HNN4.out.below' hb);have HW35:=hid (zAd HW34.out hb);have HB5:=hid (zAd HB4.out hb);clear hb);clear HU4 HN4 HNN4 HW34 HB4;have HU6:=hid (zAc ((Below.refl w5.heap.size w5).alloc (Nat.le_refl _) (.cells #[.float .f64 0,.slice none 0 0,.slice none 0 0] 72)) HU5.out);have HN6:=hid (HN5.out.below ((Below.refl w5.heap.size w5).alloc (Nat.le_refl _) (.cells #[.float .f64 0,.slice none 0 0,.slice none 0 0] 72)));have HNN6:=hid (HNN5.out.below' ((Below.refl w5.heap.size w5).alloc (Nat.le_refl _) (.cells #[.float .f64 0,.slice none 0 0,.slice none 0 0] 72)));have HW36:=hid (zAd HW35.out ((Below.refl w5.heap.size w5).alloc (Nat.le_refl _) (.cells #[.float .f64 0,.slice none 0 0,.slice none 0 0] 72)));have HB6:=hid (zAd HB5.out ((Below.refl w5.heap.size w5).alloc (Nat.le_refl _) (.cells #[.float .f64 0,.slice none 0 0,.slice none 0 0] 72)));have HZ5:=hid (show (w5.alloc (.cells #[.float .f64 0,.slice none 0 0,.slice none 0 0] 72)).heap.size=w5.heap.size+1 by simp);have H7:=hid (heap_alloc_new w5 (.cells #[.float .f64 0,.slice none 0 0,.slice none 0 0] 72));clear HU5 HN5 HNN5 HW35 HB5;generalize w5.alloc (.cells #[.float .f64 0,.slice none 0 0,.slice none 0 0] 72)=w6 at *;generalize w5.heap.size=g7 at *;have HU7:=hid (zAc ((Below.refl w6.heap.size w6).alloc (Nat.le_refl _) (.cells #[.int .i64 y1,.int .i64 y2] 32)) HU6.out);have HN7:=hid (HN6.out.below ((Below.refl w6.heap.size w6).alloc (Nat.le_refl _) (.cells #[.int .i64 y1,.int .i64 y2] 32)))
        have HNN7:=hid (HNN6.out.below' ((Below.refl w6.heap.size w6).alloc (Nat.le_refl _) (.cells #[.int .i64 y1,.int .i64 y2] 32)));have HW37:=hid (zAd HW36.out ((Below.refl w6.heap.size w6).alloc (Nat.le_refl _) (.cells #[.int .i64 y1,.int .i64 y2] 32)));have H77:=hid (zAc ((Below.refl w6.heap.size w6).alloc (Nat.le_refl _) (.cells #[.int .i64 y1,.int .i64 y2] 32)) H7.out);have HB7:=hid (zAd HB6.out ((Below.refl w6.heap.size w6).alloc (Nat.le_refl _) (.cells #[.int .i64 y1,.int .i64 y2] 32)));have H8:=hid (heap_alloc_new w6 (.cells #[.int .i64 y1,.int .i64 y2] 32));rw [HZ5.out] at H8;clear HU6 HN6 HNN6 HW36 H7 HB6;generalize w6.alloc (.cells #[.int .i64 y1,.int .i64 y2] 32)=w7 at *;clear HZ5;have hbk:=zAb HU7.out;have u0:=hbk.1 0 _ rfl;have u1:=hbk.1 1 _ rfl;have uf0:=hbk.2 0;have uf1:=hbk.2 1;clear hbk;have hbk:=zAb H8.out;have v0:=hbk.1 0 _ rfl;have v1:=hbk.1 1 _ rfl;have vf0:=hbk.2 0;have vf1:=hbk.2 1;clear hbk;have hb0:(y1==0)=false:=by simpa using hy
        have hb1:(y1 !=0)=true:=by simpa using hy
        go_upto_region 13 with fail;go_region_with fail
        all_goals (go_wp2_with fail)
        all_goals (try simp only [Exit.inBlock,Exit.then])
        all_goals (try rw [Exit.noGoto_ret])
        all_goals (refine bodyPost_ret (v:=.tuple #[.float .f64 0,.agg #[.int .i64 y1,.int .i64 k]]) ?_ rfl (zEu.of HW.out (zBv HB7.out (Nat.le_of_eq HGT.out)).drew))
        all_goals (rw [zAi rfl];go_simp;done)
      · obtain rfl:=(Prod.mk.inj (sol_some hs)).1;obtain rfl:=(Prod.mk.inj (sol_some hs)).2;have HS:=hid hs;go_upto_region 12 with (go_at_call 26;refine (((psolve_any p l r1 _ HNN4.out HNG.out).mono fun _ _ h=> h.yes2 HQ.out HS.out)).mono ?_;rintro e w5 ⟨q1,q2,M1,M2,rfl,hv1,hv2,hb⟩;have HU5:=hid (zAc hb HU4.out);have HN5:=hid (HN4.out.below hb);have HNN5:=hid (HNN4.out.below' hb);have HW35:=hid (zAd HW34.out hb);have HB5:=hid (zAd HB4.out hb);have HM1:=hid hv1;have HM2:=hid hv2;clear hv1 hv2;clear hb);clear hs HU4 HN4 HNN4 HW34 HB4;have HU6:=hid (zAc ((Below.refl w5.heap.size w5).alloc (Nat.le_refl _) (.cells #[.float .f64 r1,.slice (some ⟨q1,0,none⟩) (nds l).length (nds l).length,.slice (some ⟨q2,0,none⟩) (brs l).length (brs l).length] 72)) HU5.out);have HN6:=hid (HN5.out.below ((Below.refl w5.heap.size w5).alloc (Nat.le_refl _) (.cells #[.float .f64 r1,.slice (some ⟨q1,0,none⟩) (nds l).length (nds l).length,.slice (some ⟨q2,0,none⟩) (brs l).length (brs l).length] 72)));have HNN6:=hid (HNN5.out.below' ((Below.refl w5.heap.size w5).alloc (Nat.le_refl _) (.cells #[.float .f64 r1,.slice (some ⟨q1,0,none⟩) (nds l).length (nds l).length,.slice (some ⟨q2,0,none⟩) (brs l).length (brs l).length] 72)));have HW36:=hid (zAd HW35.out ((Below.refl w5.heap.size w5).alloc (Nat.le_refl _) (.cells #[.float .f64 r1,.slice (some ⟨q1,0,none⟩) (nds l).length (nds l).length,.slice (some ⟨q2,0,none⟩) (brs l).length (brs l).length] 72)));have HM16:=hid (HM1.out.below ((Below.refl w5.heap.size w5).alloc (Nat.le_refl _) (.cells #[.float .f64 r1,.slice (some ⟨q1,0,none⟩) (nds l).length (nds l).length,.slice (some ⟨q2,0,none⟩) (brs l).length (brs l).length] 72)));have HM26:=hid (HM2.out.below ((Below.refl w5.heap.size w5).alloc (Nat.le_refl _) (.cells #[.float .f64 r1,.slice (some ⟨q1,0,none⟩) (nds l).length (nds l).length,.slice (some ⟨q2,0,none⟩) (brs l).length (brs l).length] 72)))
        have HB6:=hid (zAd HB5.out ((Below.refl w5.heap.size w5).alloc (Nat.le_refl _) (.cells #[.float .f64 r1,.slice (some ⟨q1,0,none⟩) (nds l).length (nds l).length,.slice (some ⟨q2,0,none⟩) (brs l).length (brs l).length] 72)));have HZ5:=hid (show (w5.alloc (.cells #[.float .f64 r1,.slice (some ⟨q1,0,none⟩) (nds l).length (nds l).length,.slice (some ⟨q2,0,none⟩) (brs l).length (brs l).length] 72)).heap.size=w5.heap.size+1 by simp);have H7:=hid (heap_alloc_new w5 (.cells #[.float .f64 r1,.slice (some ⟨q1,0,none⟩) (nds l).length (nds l).length,.slice (some ⟨q2,0,none⟩) (brs l).length (brs l).length] 72));clear HU5 HN5 HNN5 HW35 HM1 HM2 HB5;generalize w5.alloc (.cells #[.float .f64 r1,.slice (some ⟨q1,0,none⟩) (nds l).length (nds l).length,.slice (some ⟨q2,0,none⟩) (brs l).length (brs l).length] 72)=w6 at *;generalize w5.heap.size=g7 at *;have HU7:=hid (zAc ((Below.refl w6.heap.size w6).alloc (Nat.le_refl _) (.cells #[.int .i64 0,.int .i64 0] 32)) HU6.out);have HN7:=hid (HN6.out.below ((Below.refl w6.heap.size w6).alloc (Nat.le_refl _) (.cells #[.int .i64 0,.int .i64 0] 32)));have HNN7:=hid (HNN6.out.below' ((Below.refl w6.heap.size w6).alloc (Nat.le_refl _) (.cells #[.int .i64 0,.int .i64 0] 32)));have HW37:=hid (zAd HW36.out ((Below.refl w6.heap.size w6).alloc (Nat.le_refl _) (.cells #[.int .i64 0,.int .i64 0] 32)));have HM17:=hid (HM16.out.below ((Below.refl w6.heap.size w6).alloc (Nat.le_refl _) (.cells #[.int .i64 0,.int .i64 0] 32)));have HM27:=hid (HM26.out.below ((Below.refl w6.heap.size w6).alloc (Nat.le_refl _) (.cells #[.int .i64 0,.int .i64 0] 32)));have H77:=hid (zAc ((Below.refl w6.heap.size w6).alloc (Nat.le_refl _) (.cells #[.int .i64 0,.int .i64 0] 32)) H7.out)
        have HB7:=hid (zAd HB6.out ((Below.refl w6.heap.size w6).alloc (Nat.le_refl _) (.cells #[.int .i64 0,.int .i64 0] 32)));have H8:=hid (heap_alloc_new w6 (.cells #[.int .i64 0,.int .i64 0] 32));rw [HZ5.out] at H8;clear HU6 HN6 HNN6 HW36 HM16 HM26 H7 HB6;generalize w6.alloc (.cells #[.int .i64 0,.int .i64 0] 32)=w7 at *;clear HZ5;have hbk:=zAb H8.out;have v0:=hbk.1 0 _ rfl;have v1:=hbk.1 1 _ rfl;have vf0:=hbk.2 0;have vf1:=hbk.2 1;clear hbk;have hbk:=zAb H77.out;have x0:=hbk.1 0 _ rfl;have x1:=hbk.1 1 _ rfl;have x2:=hbk.1 2 _ rfl;have xf0:=hbk.2 0;have xf1:=hbk.2 1;have xf2:=hbk.2 2;clear hbk;go_upto_region 14 with fail;clear v0 v1 vf0 vf1;obtain ⟨z,ez,hz⟩:∃z e,vltS (zAw p) l M1 M2.length t=(z,e):=⟨_,_,rfl⟩;have HZ:=hid hz;have HVX:=hid (show ck z=(vX l x t).1∧ez=(vX l x t).2 from by have h:=vx_of (l:=l) (x:=x) (t:=t) (M:=M1) (na:=M2.length) HM17.out.len HM27.out.len (fun i hi=> HM17.out.num i (by have:=HM17.out.len;omega));rw [HQ.out] at hz;rw [hz] at h;exact h);clear hz;have HHK:=hid (show zEn (ls.getD k []) (wB om k) t at_ k=if (vX l x t).2≠0 then (0,(vX l x t).2) else ((cmul (vX l x t).1 (fc (root (zGa k at_)).1,fc (root (zGa k at_)).2)).1,0) by rw [HWB.out,HLA.out];exact hear_some HFR.out HS.out);go_upto_region 15 with (go_at_call 27;refine (volt_any p _ _ l r1 M1 M2 t _ HNN7.out HNG.out HM17.out.sl HM27.out.sl HTL.out).mono ?_;rintro e w8 ⟨rfl,hb⟩;have HU8:=hid (zAc hb HU7.out);have HN8:=hid (HN7.out.below hb);have HNN8:=hid (HNN7.out.below' hb);have HW38:=hid (zAd HW37.out hb);have HB8:=hid (zAd HB7.out hb);rw [HZ.out];(try dsimp only);clear hb);clear x0 x1 x2 xf0 xf1 xf2 HU7 HN7 HNN7 HW37 HB7 H77 HM17 HM27
        by_cases hez:ez=0
        rotate_left
        · have HW:=hid (show zDb (ps.map zAw) ls om t at_=(fc 0,(ez,(k:Int))) by
           have h5:zEn (ls.getD k []) (wB om k) t at_ k=(0,ez):=by rw [HHK.out,if_pos (by rw [←HVX.out.2];exact hez),HVX.out.2]
           rw [zFu HF.out HLT.out HAL.out (by rw [h5];exact hez),h5])
          have hb0:(ez==0)=false:=by simpa using hez
          have hb1:(ez !=0)=true:=by simpa using hez
          have hbk:=zAb HU8.out;have u0:=hbk.1 0 _ rfl;have u1:=hbk.1 1 _ rfl;have uf0:=hbk.2 0;have uf1:=hbk.2 1;clear hbk;go_wp2_with fail
          (try simp only [Exit.inBlock,Exit.then])
          (try rw [Exit.noGoto_ret])
          (refine bodyPost_ret (v:=.tuple #[.float .f64 0,.agg #[.int .i64 ez,.int .i64 k]]) ?_ rfl (zEu.of HW.out (zBv HB8.out (Nat.le_of_eq HGT.out))))
          (rw [zAi rfl];go_simp;done)
        subst hez;have hw1:=wrap1 (k:=k) (by omega);obtain ⟨za,zb⟩:=z;unfold mkC;go_wp2_with (first | (go_at_call 29;refine (wtimes_any _ _ _).mono ?_;rintro e w' ⟨rfl,rfl⟩) | (go_at_call 28;refine (turned_any _ _ _ _).mono ?_;rintro e w9 ⟨v9,rfl,hb9,rt,it,rfl,hzt⟩;have HB9:=hid hb9;have HZT:=hid hzt;clear hb9 hzt) | (refine zAp rfl _ _ _ _ _ rfl rfl _ _ rfl rfl ?_;intro r2 n2 hr2;have HR2:=hid hr2;clear hr2));go_roundw
        case rel=>
         refine ⟨k+1,r2,by omega,by go_num,rfl,?_,fun i hi=> ?_,?_⟩
         · have h5:zEn (ls.getD k []) (wB om k) t at_ k=((cmul (vX l x t).1 (fc (root (zGa k at_)).1,fc (root (zGa k at_)).2)).1,0):=by rw [HHK.out,if_neg (fun h=> h HVX.out.2.symm)]
           show _=fop .add (sumH ls om t at_ k) (fc (zEn (ls.getD k []) (wB om k) t at_ k).1);rw [HR2.out,HR.out,h5,←HVX.out.1];have h6:=congrArg Prod.fst HZT.out;show fop .add _ (fc rt)=fop .add _ (fc (cmul (fc za,fc zb) _).1);rw [show (cmul (fc za,fc zb) (fc (root (zGa k at_)).1,fc (root (zGa k at_)).2)).1=fc rt from h6.symm,fc_fc]
         · by_cases e:i=k
           · subst e;rw [HHK.out,if_neg (fun h=> h HVX.out.2.symm)]
           · exact HAL.out i (by omega)
         · exact zAg (zAd HW38.out HB9.out) _
        case measure=> simp [intOf];omega
  · obtain rfl:k=ps.length:=by omega
    have HLS:=hid (show ps.length=ls.length from HN3.out.len);have HDN:=hid (heard_done (t:=t) (at_:=at_) HF.out (fun i hi=> HAL.out i (by rw [HLS.out];exact hi)));have HSR:=hid (show sumH ls om t at_ ls.length=fc r by rw [←HLS.out];exact HR.out.symm);cases hf:ffin (fc r)
    · have HFI:=hid hf;have HW:=hid (show zDb (ps.map zAw) ls om t at_=(fc 0,(6,-1)) by rw [HDN.out,HSR.out,if_pos hf]);clear hf hlt hk hbnd;have hbk:=zAb HU3.out;have u0:=hbk.1 0 _ rfl;have u1:=hbk.1 1 _ rfl;have uf0:=hbk.2 0;have uf1:=hbk.2 1;clear hbk;go_wp2_with (go_at_call 25;refine (zDz _ _).mono ?_;rintro e w2 ⟨rfl,rfl⟩;rw [HFI.out])
      (try simp only [Exit.inBlock,Exit.then])
      (try rw [Exit.noGoto_ret])
      (refine bodyPost_ret (v:=.tuple #[.float .f64 0,.agg #[.int .i64 6,.int .i64 (-1)]]) ?_ rfl (zEu.of HW.out (zBv HB3.out (Nat.le_of_eq HGT.out))))
      (rw [zAi rfl];go_simp;done)
    · have HFI:=hid hf;have HW:=hid (show zDb (ps.map zAw) ls om t at_=(fc r,(0,0)) by rw [HDN.out,HSR.out,if_neg (by rw [hf];simp)]);clear hf hlt hk hbnd;have hbk:=zAb HU3.out;have u0:=hbk.1 0 _ rfl;have u1:=hbk.1 1 _ rfl;have uf0:=hbk.2 0;have uf1:=hbk.2 1;clear hbk;go_wp2_with (go_at_call 25;refine (zDz _ _).mono ?_;rintro e w2 ⟨rfl,rfl⟩;rw [HFI.out])
      (try simp only [Exit.inBlock,Exit.then])
      (try rw [Exit.noGoto_ret])
      (refine bodyPost_ret (v:=.tuple #[.float .f64 r,.agg #[.int .i64 0,.int .i64 0]]) ?_ rfl (zEu.of HW.out (zBv HB3.out (Nat.le_of_eq HGT.out))))
      (rw [zAi rfl];go_simp;done)
end
end Go.Proofs.YtejooaeppcjhjaaGreat
