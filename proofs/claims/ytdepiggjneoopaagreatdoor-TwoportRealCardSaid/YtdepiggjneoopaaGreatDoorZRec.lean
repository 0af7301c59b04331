/- a part of the proof of the last text -/
import Derived.Test.YtdepiggjneoopaaGreatDoorZMPhw5
namespace Go.Proofs.YtdepiggjneoopaaGreatDoor
set_option linter.all false
set_option maxHeartbeats 4000000
set_option maxRecDepth 100000
open Go.RowKit
def recS (r c:Int) (xs:List Cx):Cx × Int:=
 if takS r c xs≠0 then ((fc 0,fc 0),takS r c xs)
 else if cfin (csub (ck (xs.getD 1 (0,0))) (ck (xs.getD 2 (0,0))))=true then (csub (ck (xs.getD 1 (0,0))) (ck (xs.getD 2 (0,0))),0) else ((fc 0,fc 0),6)
theorem rec_bad {r c k:Int} {xs:List Cx} (h:takS r c xs=k) (h0:¬k=0):recS r c xs=((fc 0,fc 0),k):=by unfold recS;rw [h,if_pos h0]
theorem rec_good {r c:Int} {xs:List Cx} {a b g d:Cx} (h:takS r c xs=0) (hx:xs= [a,b,g,d]):recS r c xs=if cfin (csub (ck b) (ck g))=true then (csub (ck b) (ck g),0) else ((fc 0,fc 0),6):=by unfold recS;rw [h,if_neg (by simp),hx];rfl
def RetRc (S:Cx × Int) (w:World) (e:Ending) (w':World):Prop:=∃r i,e=.returned (.tuple #[.complex .f64 r i,.int .i64 S.2])∧(fc r,fc i)=S.1∧Below w.heap.size w w'
theorem RetRc.of {S:Cx × Int} {w w':World} {r i:Nat} {k:Int} (h:S=((fc r,fc i),k)) (hb:Below w.heap.size w w'):RetRc S w (.returned (.tuple #[.complex .f64 r i,.int .i64 k])) w':=⟨r,i,by rw [h],by rw [h],hb⟩
theorem recip_any (r c:Int) (v:Value) (xs:List Cx) (w:World) (hv:IsSl w 1 v xs.length (xs.map mkC)):
 Calls Tryz.prog 15 #[.agg #[.int .i64 r,.int .i64 c,v]] w (RetRc (recS r c xs) w):=by
 obtain ⟨av,cp,rfl⟩:=hv.form;have aI:=(Below.refl w.heap.size w).alloc (Nat.le_refl _) (.cells #[.int .i64 r,.int .i64 c,.slice av xs.length cp] 43);have HS:=hid (heap_alloc_new w (.cells #[.int .i64 r,.int .i64 c,.slice av xs.length cp] 43));have HB:=hid aI;have HV:=hid (hv.below aI (Nat.le_refl _));clear aI hv;obtain ⟨k,hk⟩:∃k,takS r c xs=k:=⟨_,rfl⟩;have HK:=hid hk;clear hk;go_enter Tryz.func15,Tryz.ntmps15;go_upto_region 1 with fail;generalize w.alloc (.cells #[.int .i64 r,.int .i64 c,.slice av xs.length cp] 43)=w1 at *;obtain ⟨gs,eH⟩:∃gs,w.heap.size=gs:=⟨_,rfl⟩;rw [eH] at HS⊢;clear eH;have aE:=zAc HS.out;have s0:=aE.1 0 _ rfl;have s1:=aE.1 1 _ rfl;have s2:=aE.1 2 _ rfl;clear aE
 by_cases hk:k=0
 rotate_left
 · have q1:(k !=0)=true:=by simpa using hk
   have HW:=hid (rec_bad HK.out hk);clear hk;go_upto_region 2 with (go_at_call 44;refine (taken_any r c _ xs _ HV.out).mono ?_;rintro e w2 ⟨a,b,g,d,rfl,hb,hx⟩;have aL:=hid (zAd HB.out hb);rw [HK.out];clear hx;clear hb);clear s0 s1 s2 HB;have aG:=hid (zAd aL.out ((Below.refl w2.heap.size w2).alloc (Nat.le_refl _) (.cells #[mkC a,mkC b,mkC g,mkC d] 82)));have HF:=hid (heap_alloc_new w2 (.cells #[mkC a,mkC b,mkC g,mkC d] 82));clear aL;generalize w2.alloc (.cells #[mkC a,mkC b,mkC g,mkC d] 82)=w3 at *;generalize w2.heap.size=gf at *;go_wp2
   (try simp only [Exit.inBlock,Exit.then])
   (try rw [Exit.noGoto_ret])
   refine bodyPost_ret (v:=.tuple #[.complex .f64 0 0,.int .i64 k]) ?_ rfl (RetRc.of (by rw [HW.out,fc_zero]) aG.out);rw [results_tmp2 rfl];rfl
 subst hk;go_upto_region 2 with (go_at_call 44;refine (taken_any r c _ xs _ HV.out).mono ?_;rintro e w2 ⟨a,b,g,d,rfl,hb,hx⟩;have aL:=hid (zAd HB.out hb);rw [HK.out] at hx⊢;have kR:=hid (hx rfl);clear hx;clear hb);clear s0 s1 s2 HB;have aG:=hid (zAd aL.out ((Below.refl w2.heap.size w2).alloc (Nat.le_refl _) (.cells #[mkC a,mkC b,mkC g,mkC d] 82)));have HF:=hid (heap_alloc_new w2 (.cells #[mkC a,mkC b,mkC g,mkC d] 82));clear aL;generalize w2.alloc (.cells #[mkC a,mkC b,mkC g,mkC d] 82)=w3 at *;generalize w2.heap.size=gf at *;have HW:=hid (rec_good HK.out kR.out);go_upto_region 4 with fail;have aE:=zAc HF.out;have c0:=aE.1 0 _ rfl;have c1:=aE.1 1 _ rfl;have c2:=aE.1 2 _ rfl;have c3:=aE.1 3 _ rfl;clear aE;go_upto_region 5 with (go_at_call 45;refine (psub_any _ _ _ _ _).mono ?_;rintro e w5 ⟨_,n,rfl,he,r1,i1,rfl,hz⟩;have hb:Below w3.heap.size w3 w5:=(by rw [he];exact zAg (Below.refl _ _) n);have oW:=hid (zAa hb HF.out);have aT:=hid (zAd aG.out hb);have HD:=hid (show (fc r1,fc i1)=csub (ck b) (ck g) from hz);clear hz he;clear hb);clear c0 c1 c2 c3 HF aG;go_upto_region 6 with (go_at_call 41;refine (zBk r1 i1 _).mono ?_;rintro e _ ⟨_,n,rfl,rfl,rfl⟩;have hb:=zAg (Below.refl w5.heap.size w5) n;have HF4:=hid (zAa hb oW.out);have bI:=hid (zAd aT.out hb);cases gJ:cfin (fc r1,fc i1))
 all_goals (clear hb oW aT;generalize w5.drewN n=w6 at *)
 · go_wp2
   (try simp only [Exit.inBlock,Exit.then])
   (try rw [Exit.noGoto_ret])
   refine bodyPost_ret (v:=.tuple #[.complex .f64 0 0,.int .i64 6]) ?_ rfl (RetRc.of (by rw [HW.out,←HD.out,gJ,if_neg (by simp),fc_zero]) bI.out);rw [results_tmp2 rfl];rfl
 · go_wp2
   (try simp only [Exit.inBlock,Exit.then])
   (try rw [Exit.noGoto_ret])
   refine bodyPost_ret (v:=.tuple #[.complex .f64 r1 i1,.int .i64 0]) ?_ rfl (RetRc.of (by rw [HW.out,←HD.out,gJ,if_pos rfl]) bI.out);rw [results_tmp2 rfl];rfl
end Go.Proofs.YtdepiggjneoopaaGreatDoor
