/- a part of the proof of the last text -/
import Derived.Test.YtejooaeppcjhjaaGreatZMPhw6
namespace Go.Proofs.YtejooaeppcjhjaaGreat
set_option linter.all false
set_option maxHeartbeats 4000000
set_option maxRecDepth 100000
section
open Go.RowKit
theorem enter_Place (args:Array Value) (w:World):(callFunc 42 args).run Tryz.prog w=.ok (.enter 42 args) w:=by
 have h : (Tryz.f42.name == "runtime.NumGoroutine") = false := by kernel_rfl
 have h2:Tryz.f42.body.isNone=false:=by kernel_rfl
 simp only [callFunc,Sem.run_bind,run_program,Result.andThen_ok,Tryz.func42,h,h2,Bool.false_eq_true,if_false,Sem.run_pure]
def vltS (b:Bool) (l:List El) (xs:List Cx) (na:Nat) (t:ByteArray):Cx × Int:=
 if fitsS b xs.length na (nds l).length (brs l).length≠0 then ((0,0),fitsS b xs.length na (nds l).length (brs l).length)
 else if has (nds l) t=true then (xs.getD (plI (nds l) t).toNat (0,0),0) else if t.toList= [48] then ((0,0),0) else ((0,0),10)
theorem fits_zero {b:Bool} {nv na k m:Nat} (h:fitsS b nv na k m=0):b=false∧nv=k∧na=m:=by
 unfold fitsS at h;cases b
 · rw [if_neg (by simp)] at h
   by_cases h2:nv≠k∨na≠m
   · rw [if_pos h2] at h;cases h
   · exact ⟨rfl,by omega,by omega⟩
 · rw [if_pos rfl] at h;cases h
theorem pl_in2 {l:List ByteArray} {s:ByteArray} (h:has l s=true):∃k:Nat,plI l s=(k:Int)∧k < l.length:=by
 refine ⟨l.findIdx fun u=> u.toList==s.toList,by unfold plI;rw [if_pos h],?_⟩;rw [List.findIdx_lt_length];obtain ⟨u,hu,h2⟩:=List.any_eq_true.1 h;exact ⟨u,hu,h2⟩
theorem volt_any (p v va:Value) (l:List El) (om:Nat) (xs ys:List Cx) (t:ByteArray) (w:World) (hp:NN w p l) (hg:NetG l) (hv:IsSl w 1 v xs.length (xs.map mkC)) (ha:IsSl w 1 va ys.length (ys.map mkC)) (ht:t.size≤maxLen):
 Calls Tryz.prog 27 #[p,.agg #[.float .f64 om,v,va],.string t] w (fun e w'=> e=.returned (.tuple #[mkC (vltS (zAw p) l xs ys.length t).1,.int .i64 (vltS (zAw p) l xs ys.length t).2])∧Below w.heap.size w w'):=by
 obtain ⟨av,cv,rfl⟩:=hv.form;obtain ⟨aa,ca,rfl⟩:=ha.form;have hb1:=(Below.refl w.heap.size w).alloc (Nat.le_refl _) (.cells #[.float .f64 om,.slice av xs.length cv,.slice aa ys.length ca] 72);have HBO:=hid hb1;have HS:=hid (heap_alloc_new w (.cells #[.float .f64 om,.slice av xs.length cv,.slice aa ys.length ca] 72));have HP:=hid (hp.below hb1 (Nat.le_refl _));have HV:=hid (hv.below hb1 (Nat.le_refl _));have HG:=hid hg;have HTL:=hid ht;clear hp hg hv ha hb1 ht;obtain ⟨fe,hfe⟩:∃fe,fitsS (zAw p) xs.length ys.length (nds l).length (brs l).length=fe:=⟨_,rfl⟩;have HFE:=hid hfe;clear hfe;have START:True:=trivial;go_enter Tryz.func27,Tryz.ntmps27;go_upto_region 1 with fail;generalize w.alloc (.cells #[.float .f64 om,.slice av xs.length cv,.slice aa ys.length ca] 72)=w1 at *;obtain ⟨gs,hgs⟩:∃gs,w.heap.size=gs:=⟨_,rfl⟩;rw [hgs] at HS⊢;clear hgs;have hbk:=zAb HS.out;have s0:=hbk.1 0 _ rfl;have s1:=hbk.1 1 _ rfl;have s2:=hbk.1 2 _ rfl;clear hbk;go_upto_region 2 with (go_at_call 75;refine (fits_any2 p l om _ _ _ _ _ _ _ HP.out HG.out).mono ?_;rintro e w2 ⟨rfl,hb⟩;rw [HFE.out];have HP2:=hid (HP.out.below' hb);have HS2:=hid (zAc hb HS.out);have HV2:=hid (HV.out.below hb (Nat.le_refl _));have HB2:=hid (zAd HBO.out hb);clear hb);clear s0 s1 s2 HP HS HV HBO START;have hbk:=zAb HS2.out;have s1:=hbk.1 1 _ rfl;clear hbk
 by_cases h0:fe=0
 rotate_left
 · have hb0:(fe==0)=false:=by simpa using h0
   have hb1:(fe !=0)=true:=by simpa using h0
   have HW:=hid (show vltS (zAw p) l xs ys.length t=((0,0),fe) by unfold vltS;rw [HFE.out,if_pos h0]);go_wp2
   (try rw [Exit.noGoto_ret])
   refine bodyPost_ret (v:=.tuple #[.complex .f64 0 0,.int .i64 fe]) ?_ rfl ⟨by rw [HW.out],HB2.out⟩;rw [results_tmp2 rfl];rfl
 subst h0;obtain ⟨hn,hk,hm⟩:=fits_zero HFE.out;have HK:=hid hk;clear hn hk hm;cases hh:has (nds l) t
 · have HH:=hid hh
   by_cases hz:t.toList= [48]
   · have HW:=hid (show vltS (zAw p) l xs ys.length t=((0,0),0) by unfold vltS;rw [HFE.out,if_neg (fun h=> h rfl),if_neg (by rw [hh];simp),if_pos hz]);clear hh;go_upto_region 5 with (go_at_call 76;refine (at_any _ _ _ 0 false xs _ _ HV2.out (fun h=> by cases h) enter_Place ((zDn p l t _ HP2.out HTL.out).mono (by rintro e w' ⟨rfl,rfl⟩;exact ⟨by rw [HH.out,plI_no HH.out];rfl,rfl⟩))).mono ?_;rintro e w3 ⟨rfl,hb⟩;have HB3:=hid (zAd HB2.out hb);clear hb);clear s1;have hz1:(t.toList== [48])=true:=by rw [hz];rfl
     go_wp2
     (try rw [Exit.noGoto_ret])
     refine bodyPost_ret (v:=.tuple #[.complex .f64 0 0,.int .i64 0]) ?_ rfl ⟨by rw [HW.out],HB3.out⟩;rw [results_tmp2 rfl];rfl
   · have HW:=hid (show vltS (zAw p) l xs ys.length t=((0,0),10) by unfold vltS;rw [HFE.out,if_neg (fun h=> h rfl),if_neg (by rw [hh];simp),if_neg hz]);clear hh;go_upto_region 5 with (go_at_call 76;refine (at_any _ _ _ 0 false xs _ _ HV2.out (fun h=> by cases h) enter_Place ((zDn p l t _ HP2.out HTL.out).mono (by rintro e w' ⟨rfl,rfl⟩;exact ⟨by rw [HH.out,plI_no HH.out];rfl,rfl⟩))).mono ?_;rintro e w3 ⟨rfl,hb⟩;have HB3:=hid (zAd HB2.out hb);clear hb);clear s1;have hz1:(t.toList== [48])=false:=by cases h:(t.toList== [48]) <;> simp_all
     go_wp2
     (try rw [Exit.noGoto_ret])
     refine bodyPost_ret (v:=.tuple #[.complex .f64 0 0,.int .i64 10]) ?_ rfl ⟨by rw [HW.out],HB3.out⟩;rw [results_tmp2 rfl];rfl
 · obtain ⟨j,hj,hj2⟩:=pl_in2 hh;have HJ:=hid hj;have HH:=hid hh;have HJ2:=hid (show j < xs.length by rw [HK.out];exact hj2);have HW:=hid (show vltS (zAw p) l xs ys.length t=(xs.getD j (0,0),0) by unfold vltS;rw [HFE.out,if_neg (fun h=> h rfl),if_pos hh,hj];simp);obtain ⟨z,hz⟩:∃z,xs.getD j (0,0)=z:=⟨_,rfl⟩;have HZ:=hid hz;clear hh hj hj2 hz;go_upto_region 5 with (go_at_call 76;refine (at_any _ _ _ j true xs _ _ HV2.out (fun _=> HJ2.out) enter_Place ((zDn p l t _ HP2.out HTL.out).mono (by rintro e w' ⟨rfl,rfl⟩;exact ⟨by rw [HH.out,HJ.out],rfl⟩))).mono ?_;rintro e w3 ⟨rfl,hb⟩;rw [if_pos rfl,HZ.out];have HB3:=hid (zAd HB2.out hb);clear hb);clear s1;go_wp2
   (try rw [Exit.noGoto_ret])
   refine bodyPost_ret (v:=.tuple #[mkC z,.int .i64 0]) ?_ rfl ⟨by rw [HW.out,HZ.out],HB3.out⟩;rw [results_tmp2 rfl];rfl
end
section
open Go.RowKit
theorem infoNp:(Tryz.prog.info? 29).map (fun i=> (i.zero,i.size,i.bytes))=some (some (.pointer none),1,8):=by kernel_rfl
structure NetsAt (w:World) (v:Value) (ps:List Value) (ls:List (List El)):Prop where
 sl:IsSl w 1 v ps.length ps
 len:ps.length=ls.length
 net:∀ (i:Nat) (p:Value) (l:List El),ps[i]? =some p→ls[i]? =some l→NN w p l∧NetG l
theorem NetsAt.below {w w':World} {v:Value} {ps:List Value} {ls:List (List El)} (h:NetsAt w v ps ls) (hb:Below w.heap.size w w'):NetsAt w' v ps ls:=
 ⟨h.sl.below hb (Nat.le_refl _),h.len,fun i p l h1 h2=> ⟨(h.net i p l h1 h2).1.below' hb,(h.net i p l h1 h2).2⟩⟩
theorem NetsAt.get {w:World} {v p:Value} {ps:List Value} {ls:List (List El)} {k:Nat} (h:NetsAt w v ps ls) (hp:ps[k]? =some p):∃l,ls[k]? =some l∧NN w p l∧NetG l:=by
 have hk:=(List.getElem?_eq_some_iff.1 hp).1;rw [h.len] at hk;exact ⟨ls[k],List.getElem?_eq_getElem hk,h.net k p _ hp (List.getElem?_eq_getElem hk)⟩
def mayS (bs:List Bool) (om:Nat):Int × Int:=
 if 64 < bs.length then (3,-1) else match (List.range bs.length).find? fun k=> bs.getD k false with
 | some k=> (1,(k:Int))
 | none=> if angE om≠0 then (angE om,-1) else (0,0)
theorem may_stop {bs:List Bool} {om k:Nat} (h0:bs.length≤64) (hk:k < bs.length) (h:∀i,i < k→bs.getD i false=false) (hp:bs.getD k false=true):mayS bs om=(1,(k:Int)):=by
 unfold mayS;rw [if_neg (by omega),find_at hk h hp]
theorem may_done {bs:List Bool} {om:Nat} (h0:bs.length≤64) (h:∀i,i < bs.length→bs.getD i false=false):mayS bs om=if angE om≠0 then (angE om,-1) else (0,0):=by
 unfold mayS;rw [if_neg (by omega),List.find?_eq_none.2 (fun i hi=> by rw [h i (by simpa using hi)];decide)]
theorem no_at {ps:List Value} {k:Nat} {p:Value} (h:ps[k]? =some p):(ps.map zAw).getD k false=zAw p:=by
 rw [List.getD_eq_getElem?_getD,List.getElem?_map,h];rfl
theorem turned_any (a b:Nat) (k:Int) (w:World):
 Calls Tryz.prog 28 #[.complex .f64 a b,.int .i64 k] w (RetB (IsC (cmul (fc a,fc b) (fc (root k).1,fc (root k).2))) w):=by
 go_enter Tryz.func28,Tryz.ntmps28;go_wp2_with (first | (go_at_call 78;refine (troot_any _ _).mono ?_;rintro e w' ⟨rfl,rfl⟩) | (go_at_call 77;refine (pmul_any _ _ _ _ _).mono ?_;rintro e w' ⟨v,n,rfl,rfl,r,i,rfl,hz⟩));go_ret;exact ⟨_,rfl,zAg (Below.refl _ _) _,_,_,rfl,hz⟩
theorem zDz (x:Nat) (w:World):
 Calls Tryz.prog 25 #[.float .f64 x] w fun e w'=> e=.returned (.bool (ffin (fc x)))∧w=w':=by
 cases hf:FV.fin x
 · have H5:=hid (show ffin (fc x)=false from (fin_iff x).symm.trans hf);rcases isInf_not hf with h | ⟨h,h2⟩
   · have HI:=hid h;clear hf h;go_enter Tryz.func25,Tryz.ntmps25;go_wp2_with (go_at_call 69;refine (zFx _ _).mono ?_;rintro e w' ⟨rfl,rfl⟩;rw [HI.out]);go_ret;exact ⟨by rw [H5.out];rfl,rfl⟩
   · have HI:=hid h;have h3:(FloatKind.f64.format.order x x !=some .eq)=true:=h2;have h4:(FloatKind.f64.format.order x x==some .eq)=false:=by unfold bne at h3;simpa using h3
     clear hf h h2 h3;go_enter Tryz.func25,Tryz.ntmps25;go_wp2_with (go_at_call 69;refine (zFx _ _).mono ?_;rintro e w' ⟨rfl,rfl⟩;rw [HI.out]);go_ret;exact ⟨by rw [H5.out];rfl,rfl⟩
 · have H5:=hid (show ffin (fc x)=true from (fin_iff x).symm.trans hf);have HI:=hid (isInf_fin hf);have h4:(FloatKind.f64.format.order x x==some .eq)=true:=by
    have:=ord_self hf;show (ford x x==some .eq)=true;rw [this];rfl
   clear hf;go_enter Tryz.func25,Tryz.ntmps25;go_wp2_with (go_at_call 69;refine (zFx _ _).mono ?_;rintro e w' ⟨rfl,rfl⟩;rw [HI.out]);go_ret;exact ⟨by rw [H5.out];rfl,rfl⟩
theorem wmade_any (p:Value) (l:List El) (w:World) (hp:NN w p l) (hn:has (l.map El.name) ⟨#[]⟩=false):
 Calls Tryz.prog 68 #[p] w fun e w'=> e=.returned (.bool (!zAw p))∧w=w':=by
 have HP:=hid hp;have HN:=hid hn;clear hp hn;cases hq:zAw p
 all_goals
  have HQ:=hid hq;clear hq;go_enter Tryz.func68,Tryz.ntmps68;go_wp2_with (go_at_call 87;refine (zFn _ l _ HP.out HN.out).mono ?_;rintro e w' ⟨rfl,rfl⟩;rw [HQ.out]);go_ret;exact ⟨rfl,rfl⟩
theorem may_any (v:Value) (ps:List Value) (ls:List (List El)) (om:Nat) (w:World) (h:NetsAt w v ps ls) (hl:ps.length≤100000):
 Calls Tryz.prog 24 #[v,.float .f64 om] w (RetF (mayS (ps.map zAw) om) w):=by
 obtain ⟨av,cv,rfl⟩:=h.sl.form;obtain ⟨i0,hi,hz0,hz1,hz2⟩:=info_parts infoNp;have hb1:=(Below.refl w.heap.size w).alloc (Nat.le_refl _) (.cells #[.int .i64 0,.int .i64 0] 32);have HBR:=hid hb1;have HUR:=hid (heap_alloc_new w (.cells #[.int .i64 0,.int .i64 0] 32));have HN:=hid (h.below hb1);have HPL:=hid hl;clear h hl hb1;go_enter Tryz.func24,Tryz.ntmps24;go_upto_region 1 with fail;generalize w.alloc (.cells #[.int .i64 0,.int .i64 0] 32)=w1 at *;obtain ⟨gt,hgt⟩:∃gt,w.heap.size=gt:=⟨_,rfl⟩;rw [hgt] at HUR⊢;have HGT:=hid hgt;clear hgt
 by_cases hbig:64 < ps.length
 · have HM:=hid (show mayS (ps.map zAw) om=(3,-1) by unfold mayS;rw [if_pos (by rw [List.length_map];exact hbig)]);have hb0:(64:Int) < (ps.length:Int):=by omega
   have hbk:=zAb HUR.out;have f0:=hbk.2 0;have f1:=hbk.2 1;have c0:=hbk.1 0 _ rfl;have c1:=hbk.1 1 _ rfl;clear hbk;go_wp2_with fail
   (try simp only [Exit.inBlock,Exit.then])
   (try rw [Exit.noGoto_ret])
   refine bodyPost_ret (v:=.agg #[.int .i64 3,.int .i64 (-1)]) ?_ rfl ⟨by rw [HM.out],(HBR.out.setCell (p:=⟨gt,0,none⟩) (Nat.le_of_eq HGT.out) _).setCell (p:=⟨gt,1,none⟩) (Nat.le_of_eq HGT.out) _⟩
   first | (rw [results_cell rfl];go_simp;done) | (unfold results;go_simp;done)
 have HL64:=hid (show ps.length≤64 by omega);have hb0:¬(64:Int) < (ps.length:Int):=by omega
 clear hbig;go_wp2;clear hb0
 go_loopw [13] (fun i wr=> ∃k:Nat,k≤ps.length∧i=.int .i64 k∧(∀i,i < k→(ps.map zAw).getD i false=false)∧Below w1.heap.size w1 wr) (fun i _=> ps.length - (intOf i).toNat)
 case atStart=> exact ⟨0,Nat.zero_le _,rfl,fun i hi=> absurd hi (Nat.not_lt_zero _),Below.refl _ _⟩
 case round=>
  obtain ⟨k,hk,rfl,hall,hb⟩:=hrel;obtain ⟨wo,rfl⟩:∃wo:World,wo=wr:=⟨_,rfl⟩;have HW1:=hid hb;have HAL:=hid hall;have HN2:=hid (HN.out.below hb);have HUR2:=hid (zAc hb HUR.out);have HBR2:=hid (zAd HBR.out hb);have hbnd:=HL64.out;clear hb hall HUR HBR
  by_cases hlt:k < ps.length
  · obtain ⟨g,o,p,hidx,hg,hc,hx0⟩:=IsSl.at1 Tryz.underlying24 hi hz1 HN2.out.sl hlt;obtain ⟨l,hl,hnn,hng⟩:=HN2.out.get hx0;have HX:=hid hx0;have HNN:=hid hnn;have HNG:=hid hng;clear hx0 hl hnn hng;cases hq:zAw p
    · have HQ:=hid hq;clear hq;go_wp2_with (go_at_call 68;refine (wmade_any p l _ HNN.out HNG.out.nm).mono ?_;rintro e w2 ⟨rfl,rfl⟩;rw [HQ.out]);go_roundw
      case rel=>
       refine ⟨k+1,by omega,by go_num,fun i hi=> ?_,zBb HW1.out (by first | exact Below.refl _ _ | assumption)⟩
       by_cases e:i=k
       · rw [e,no_at HX.out,HQ.out]
       · exact HAL.out i (by omega)
      case measure=> simp [intOf];omega
    · have HQ:=hid hq;clear hq;have HM:=hid (may_stop (om:=om) (by rw [List.length_map];exact HL64.out) (by rw [List.length_map];exact hlt) HAL.out (by rw [no_at HX.out,HQ.out]));have hbk:=zAb HUR2.out;have f0:=hbk.2 0;have f1:=hbk.2 1;have c0:=hbk.1 0 _ rfl;have c1:=hbk.1 1 _ rfl;clear hbk;go_wp2_with (go_at_call 68;refine (wmade_any p l _ HNN.out HNG.out.nm).mono ?_;rintro e w2 ⟨rfl,rfl⟩;rw [HQ.out])
      (try simp only [Exit.inBlock,Exit.then])
      (try rw [Exit.noGoto_ret])
      refine bodyPost_ret (v:=.agg #[.int .i64 1,.int .i64 k]) ?_ rfl ⟨by rw [HM.out],(HBR2.out.setCell (p:=⟨gt,0,none⟩) (Nat.le_of_eq HGT.out) _).setCell (p:=⟨gt,1,none⟩) (Nat.le_of_eq HGT.out) _⟩
      first | (rw [results_cell rfl];go_simp;done) | (unfold results;go_simp;done)
  · obtain rfl:k=ps.length:=by omega
    have HM:=hid (may_done (om:=om) (by rw [List.length_map];exact HL64.out) (fun i hi=> HAL.out i (by rw [List.length_map] at hi;exact hi)));clear hlt hk hbnd;cases hf:ffin (fc om)
    · have HF:=hid hf;have HM2:=hid (show mayS (ps.map zAw) om=(5,-1) by rw [HM.out,ang_5 hf];rfl);clear hf;have hbk:=zAb HUR2.out;have f0:=hbk.2 0;have f1:=hbk.2 1;have c0:=hbk.1 0 _ rfl;have c1:=hbk.1 1 _ rfl;clear hbk;go_wp2_with (go_at_call 25;refine (zDz _ _).mono ?_;rintro e w2 ⟨rfl,rfl⟩;rw [HF.out])
      (try simp only [Exit.inBlock,Exit.then])
      (try rw [Exit.noGoto_ret])
      refine bodyPost_ret (v:=.agg #[.int .i64 5,.int .i64 (-1)]) ?_ rfl ⟨by rw [HM2.out],(HBR2.out.setCell (p:=⟨gt,0,none⟩) (Nat.le_of_eq HGT.out) _).setCell (p:=⟨gt,1,none⟩) (Nat.le_of_eq HGT.out) _⟩
      first | (rw [results_cell rfl];go_simp;done) | (unfold results;go_simp;done)
    · have HF:=hid hf;cases hg:(FloatKind.f64.format.order om 0==some .gt)
      · have HM2:=hid (show mayS (ps.map zAw) om=(2,-1) by rw [HM.out,ang_2 hf hg];rfl);have h4:(FloatKind.f64.format.order om 0==some .lt || FloatKind.f64.format.order om 0==some .eq)=true:=by
         have:=ord_le ((fin_iff om).trans hf) (show FV.fin 0=true by decide);show (ford om 0==some .lt || ford om 0==some .eq)=true;rw [this];show (!(FloatKind.f64.format.order om 0==some .gt))=true;rw [hg];rfl
        clear hf hg;have hbk:=zAb HUR2.out;have f0:=hbk.2 0;have f1:=hbk.2 1;have c0:=hbk.1 0 _ rfl;have c1:=hbk.1 1 _ rfl;clear hbk;go_wp2_with (go_at_call 25;refine (zDz _ _).mono ?_;rintro e w2 ⟨rfl,rfl⟩;rw [HF.out])
        (try simp only [Exit.inBlock,Exit.then])
        (try rw [Exit.noGoto_ret])
        refine bodyPost_ret (v:=.agg #[.int .i64 2,.int .i64 (-1)]) ?_ rfl ⟨by rw [HM2.out],(HBR2.out.setCell (p:=⟨gt,0,none⟩) (Nat.le_of_eq HGT.out) _).setCell (p:=⟨gt,1,none⟩) (Nat.le_of_eq HGT.out) _⟩
        first | (rw [results_cell rfl];go_simp;done) | (unfold results;go_simp;done)
      · have HM2:=hid (show mayS (ps.map zAw) om=(0,0) by rw [HM.out,ang_0 hf hg];rfl);have h4:(FloatKind.f64.format.order om 0==some .lt || FloatKind.f64.format.order om 0==some .eq)=false:=by
         have:=ord_le ((fin_iff om).trans hf) (show FV.fin 0=true by decide);show (ford om 0==some .lt || ford om 0==some .eq)=false;rw [this];show (!(FloatKind.f64.format.order om 0==some .gt))=false;rw [hg];rfl
        clear hf hg;have hbk:=zAb HUR2.out;have f0:=hbk.2 0;have f1:=hbk.2 1;have c0:=hbk.1 0 _ rfl;have c1:=hbk.1 1 _ rfl;clear hbk;go_wp2_with (go_at_call 25;refine (zDz _ _).mono ?_;rintro e w2 ⟨rfl,rfl⟩;rw [HF.out])
        (try simp only [Exit.inBlock,Exit.then])
        (try rw [Exit.noGoto_ret])
        refine bodyPost_ret (v:=.agg #[.int .i64 0,.int .i64 0]) ?_ rfl ⟨by rw [HM2.out],(HBR2.out.setCell (p:=⟨gt,0,none⟩) (Nat.le_of_eq HGT.out) _).setCell (p:=⟨gt,1,none⟩) (Nat.le_of_eq HGT.out) _⟩
        first | (rw [results_cell rfl];go_simp;done) | (unfold results;go_simp;done)
end
section
open Go.RowKit
theorem idx_same {l:List ByteArray} {s t:ByteArray} (hs:has l s=true) (ht:has l t=true) (h:plI l s=plI l t):s=t:=by
 have key:∀u:ByteArray,has l u=true→∃v,l[(plI l u).toNat]? =some v∧v=u:=fun u hu=> by
  unfold plI;rw [if_pos hu,Int.toNat_natCast];have hlt:l.findIdx (fun t=> t.toList==u.toList) < l.length:=by
   rw [List.findIdx_lt_length];unfold has at hu
   simpa using hu
  have hp:=List.findIdx_getElem (w:=hlt);exact ⟨_,List.getElem?_eq_getElem hlt,(zEh _ _).1 hp⟩
 obtain ⟨v,h1,rfl⟩:=key s hs;obtain ⟨u,h2,rfl⟩:=key t ht;rw [h] at h1;exact Option.some.inj (h1.symm.trans h2)
theorem plI_lt' {l:List ByteArray} {t:ByteArray} (h:has l t=true):(plI l t).toNat < l.length:=by
 unfold plI;rw [if_pos h];have:l.findIdx (fun u=> u.toList==t.toList) < l.length:=by
  rw [List.findIdx_lt_length];unfold has at h
  simpa using h
 omega
theorem plI_nn (l:List ByteArray) (t:ByteArray):0≤plI l t:=by unfold plI;split <;> omega
theorem putS_bad {l:List El} {r:Nat→Cx} {s:ByteArray} {f:Cx→Cx} (h:(putS l r s f).2=false):has (nds l) s=true∧cfin ((putS l r s f).1 (plI (nds l) s).toNat)=false:=by
 unfold putS at *
 split at h
 · rename_i hh;exact ⟨hh,by rw [if_pos hh];simp only [zAr];exact h⟩
 · cases h
theorem putS_other {l:List El} {r:Nat→Cx} {s t:ByteArray} {f:Cx→Cx} (hs:has (nds l) s=true) (hne:s≠t):(putS l r t f).1 (plI (nds l) s).toNat=r (plI (nds l) s).toNat:=by
 unfold putS
 split
 · rename_i ht;refine zAu _ _ (fun e=> hne (idx_same hs ht ?_));have h1:=plI_nn (nds l) s;have h2:=plI_nn (nds l) t
   omega
 · rfl
theorem zHa {l:List El} {r:Nat→Cx} {x:El} {n:Nat} (hn:(nds l).length≤n) (h5:x.kind=5→brAt l x < n) (hab:x.a≠x.b) (h:(rgtS l r x).2=false):∃j,j < n∧cfin ((rgtS l r x).1 j)=false:=by
 unfold rgtS at *
 split at h
 · cases h
 · rename_i h0;rw [if_neg h0]
   split at h
   · rename_i hk;rw [if_pos hk];exact ⟨_,h5 hk,by simp only [zAr];exact h⟩
   · rename_i hk;rw [if_neg hk];simp only at h⊢;rw [Bool.and_eq_false_iff] at h;rcases h with h | h
     · obtain ⟨h1,h2⟩:=putS_bad h;exact ⟨_,Nat.lt_of_lt_of_le (plI_lt' h1) hn,h2⟩
     · obtain ⟨h1,h2⟩:=putS_bad h;exact ⟨_,Nat.lt_of_lt_of_le (plI_lt' h1) hn,by rw [putS_other h1 hab];exact h2⟩
end
end Go.Proofs.YtejooaeppcjhjaaGreat
