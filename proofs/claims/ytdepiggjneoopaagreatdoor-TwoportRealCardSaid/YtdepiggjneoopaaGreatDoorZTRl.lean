/- a part of the proof of the last text -/
import Derived.Test.YtdepiggjneoopaaGreatDoorZTof2
import Derived.ChangeMaps5
import Derived.Carry
import Derived.Test.YtdepiggjneoopaaGreatDoorZRec
namespace Go.Proofs.YtdepiggjneoopaaGreatDoor
set_option linter.all false
set_option maxHeartbeats 4000000
set_option maxRecDepth 100000
open Go.RowKit
theorem ez_one (e:El):∀u∈ez e,u.oneCell'=true:=by intro u hu;simp [ez] at hu;rcases hu with rfl | rfl | rfl | rfl | rfl | rfl | rfl | rfl <;> rfl
theorem tw_four {b:Bool} {l:List El} {p q:ByteArray} {om:Nat} (h:(twS b l p q om).2=(0,0)):∃z1 z2 z3 z4,(twS b l p q om).1= [z1,z2,z3,z4]∧cfin z1=true∧cfin z2=true∧cfin z3=true∧cfin z4=true:=by
 have hc:∀d e g u f,colA l om d e g=(some u,f)→cfin u.1=true∧cfin u.2=true:=fun d e g u f h=> by
  unfold colA at h
  split at h
  · cases h
  · split at h
    · rename_i hf;obtain rfl:=(Prod.mk.inj h).1 |> Option.some.inj;exact hf
    · cases h
 have hn:∀d e g f,colA l om d e g=(none,f)→f≠ (0,0):=fun d e g f h=> by
  rcases colA_ways l om with ⟨f2,h2,h3⟩ | h2
  · rw [h3] at h;rw [←(Prod.mk.inj h).2];exact h2
  · rcases h2 d e g with ⟨u,hu⟩ | hu
    · rw [hu] at h;cases (Prod.mk.inj h).1
    · rw [hu] at h;rw [←(Prod.mk.inj h).2];decide
 unfold twS at h⊢
 split at h
 · rename_i ha
   exfalso
   unfold plain at h;dsimp only at h;rw [if_neg ha] at h;exact ha (Prod.mk.inj h).1
 · rename_i ha;rw [if_neg ha]
   split at h
   · split at h
     · cases (Prod.mk.inj h).1
     · rename_i e g he hg hk
       (try rw [he,hg])
       (try dsimp only)
       rw [if_neg hk]
       split at h
       · rename_i f hf;exact absurd h (hn _ _ _ _ hf)
       · rename_i u f hu
         (try rw [hu])
         (try dsimp only)
         split at h
         · rename_i f2 hf;exact absurd h (hn _ _ _ _ hf)
         · rename_i v f2 hv
           (try rw [hv])
           exact ⟨_,_,_,_,rfl,(hc _ _ _ _ _ hu).1,(hc _ _ _ _ _ hv).1,(hc _ _ _ _ _ hu).2,(hc _ _ _ _ _ hv).2⟩
   · cases (Prod.mk.inj h).1
theorem chg_re {f:Nat→Nat} {l:List El} (h:∀x∈l,ReK x):∀x∈l.map (chg f),ReK x:=fun x hx=> by
 obtain ⟨y,hy,rfl⟩:=List.mem_map.1 hx;have hk:(chg f y).kind=y.kind:=by unfold chg;split <;> rfl
 exact ⟨by rw [hk];exact (h y hy).1,by rw [hk];exact (h y hy).2⟩
theorem im_eq {i:Nat} {c:Cx} {r:Nat} (h:(fc r,fc i)=c) (hz:fz c.2=true):(FloatKind.f64.format.order i 0==some .eq)=true:=by
 have h2:ford i 0=some .eq:=fz_ord (fz_fc (by rw [←h] at hz;exact hz));show (ford i 0==some .eq)=true;rw [h2];rfl
theorem im_ne {z:Cx} (hz:fz (ck z).2=true):(FloatKind.f64.format.order z.2 0 !=some .eq)=false:=by
 have h2:ford z.2 0=some .eq:=fz_ord (fz_fc hz);show (ford z.2 0 !=some .eq)=false;rw [h2];rfl
def RetRs (w:World) (e:Ending) (w':World):Prop:=∃ (s:Value) (L:List El),e=.returned s∧L.length≤40∧w'.ownsRow w.heap.size 95 8 s L.length (L.flatMap ez)∧(∀e∈L,e.Ok∧ReK e)∧Below w.heap.size w w'
theorem resistive_any (v:Value) (l:List El) (w:World) (hv:InSl w 8 v l.length (l.flatMap ez)) (aY:∀e∈l,e.Ok):
 Calls Tryz.prog 14 #[v] w (RetRs w):=by
 obtain ⟨a0,c0,rfl⟩:=hv.form;obtain ⟨iu,dU,kD,lS,oY⟩:=info_parts infoEz;have HV:=hid hv;have cH:=hid aY;clear hv aY;go_enter Tryz.func14,Tryz.ntmps14;go_wp2
 go_loopw [3,4] (fun s i wr=> ∃ (k:Nat) (L:List El),k≤l.length∧k≤40∧i=.int .i64 k∧L.length≤k∧wr.ownsRow w.heap.size 95 8 s L.length (L.flatMap ez)∧(∀e∈L,e.Ok∧ReK e)∧Below w.heap.size w wr) (fun _ i _=> 40 - (intOf i).toNat)
 case atStart=> exact ⟨0, [],by omega,by omega,rfl,Nat.le_refl _,World.ownsRow_nil _ _ _ _,(fun e he=> by cases he),Below.refl _ _⟩
 case round=>
  obtain ⟨k,L,hk,hk40,rfl,hLk,aC,hL,hb⟩:=hrel;have HO:=hid aC;have HB:=hid hb;have HL:=hid hL;have gU:=hid hLk;clear aC hb hL hLk
  by_cases aM:k < l.length∧k < 40
  · obtain ⟨kF,hlt2⟩:=aM;obtain ⟨g,o,x,aZ,hg,hx,aA⟩:=InSl.atF Tryz.underlying22 dU lS ez_len (HV.out.below HB.out (Nat.le_refl _)) rfl kF;have c0:=aA 0 _ rfl;have c1:=aA 1 _ rfl;have c2:=aA 2 _ rfl;have c3:=aA 3 _ rfl;have c4:=aA 4 _ rfl;have c5:=aA 5 _ rfl;have c6:=aA 6 _ rfl;have c7:=aA 7 _ rfl;rw [Nat.add_zero] at c0;have HXX:=hid (cH.out x (List.mem_of_getElem? hx));clear hx aA;have wJ:(k:Int) < (l.length:Int):=by omega
    have mV:(k:Int) < 40:=by omega
    rcases (show x.kind=1∨(x.kind≠1∧x.kind=8)∨(x.kind≠1∧x.kind≠8∧x.kind=4)∨(x.kind≠1∧x.kind≠8∧x.kind≠4∧x.kind=5)∨(x.kind≠1∧x.kind≠8∧x.kind≠4∧x.kind≠5) by omega) with gW | ⟨h1,gW⟩ | ⟨h1,h2,gW⟩ | ⟨h1,h2,h3,gW⟩ | ⟨h1,h2,h3,h4⟩
    · have q1:(x.kind==1)=true:=by rw [gW];rfl
      have HRX:=hid (show ReK x from ⟨by omega,by omega⟩);clear gW;have aC:=HO.out;have hsz:=HB.out.size;go_wp2_with (refine zBq rfl rfl _ rfl _ _ _ rfl rfl w.heap.size 95 8 104 iu (.agg #[.int .u8 0,.string ⟨#[]⟩,.string ⟨#[]⟩,.string ⟨#[]⟩,.string ⟨#[]⟩,.string ⟨#[]⟩,.int .u64 0,.int .i64 0]) Tryz.underlying22 dU kD lS oY rfl (by decide) (by decide) _ L.length _ aC hsz (.agg #[.int .u8 x.kind,.string x.name,.string x.a,.string x.b,.string x.c,.string x.d,.int .u64 x.val,.int .i64 x.ph]) rfl rfl (ez_one x) rfl rfl (by have:=gU.out;simp [maxLen];omega) (by have:=gU.out;omega) ?_;intro g1 cap1 w4 aS fM bU);go_roundw
      case rel=>
       refine ⟨k+1,L++ [x],by omega,by omega,by go_num,by have:=gU.out;simp;omega,?_,?_,?_⟩
       · rw [flat_snoc,List.length_append];exact aS
       · intro e he;rcases List.mem_append.1 he with h | h
         · exact HL.out e h
         · obtain rfl:=List.mem_singleton.1 h;exact ⟨HXX.out,HRX.out⟩
       · rcases bU with ⟨h1,h2⟩ | ⟨_,h2⟩
         · exact zBo HB.out h2 fun _ e=> by cases e;exact (aC.lt _ h1).1
         · exact zBo HB.out h2 fun _ e=> by cases e
      case measure=> simp [intOf];omega
    · have q1:(x.kind==8)=true:=by rw [gW];rfl
      have n0:(x.kind==1)=false:=beq_eq_false_iff_ne.2 h1;have HRX:=hid (show ReK x from ⟨by omega,by omega⟩);clear gW h1;have aC:=HO.out;have hsz:=HB.out.size;go_wp2_with (refine zBq rfl rfl _ rfl _ _ _ rfl rfl w.heap.size 95 8 104 iu (.agg #[.int .u8 0,.string ⟨#[]⟩,.string ⟨#[]⟩,.string ⟨#[]⟩,.string ⟨#[]⟩,.string ⟨#[]⟩,.int .u64 0,.int .i64 0]) Tryz.underlying22 dU kD lS oY rfl (by decide) (by decide) _ L.length _ aC hsz (.agg #[.int .u8 x.kind,.string x.name,.string x.a,.string x.b,.string x.c,.string x.d,.int .u64 x.val,.int .i64 x.ph]) rfl rfl (ez_one x) rfl rfl (by have:=gU.out;simp [maxLen];omega) (by have:=gU.out;omega) ?_;intro g1 cap1 w4 aS fM bU);go_roundw
      case rel=>
       refine ⟨k+1,L++ [x],by omega,by omega,by go_num,by have:=gU.out;simp;omega,?_,?_,?_⟩
       · rw [flat_snoc,List.length_append];exact aS
       · intro e he;rcases List.mem_append.1 he with h | h
         · exact HL.out e h
         · obtain rfl:=List.mem_singleton.1 h;exact ⟨HXX.out,HRX.out⟩
       · rcases bU with ⟨h1,h2⟩ | ⟨_,h2⟩
         · exact zBo HB.out h2 fun _ e=> by cases e;exact (aC.lt _ h1).1
         · exact zBo HB.out h2 fun _ e=> by cases e
      case measure=> simp [intOf];omega
    · have q1:(x.kind==4)=true:=by rw [gW];rfl
      have n0:(x.kind==1)=false:=beq_eq_false_iff_ne.2 h1;have n1:(x.kind==8)=false:=beq_eq_false_iff_ne.2 h2;have HRX:=hid (show ReK x from ⟨by omega,by omega⟩);clear gW h1 h2;have aC:=HO.out;have hsz:=HB.out.size;go_wp2_with (refine zBq rfl rfl _ rfl _ _ _ rfl rfl w.heap.size 95 8 104 iu (.agg #[.int .u8 0,.string ⟨#[]⟩,.string ⟨#[]⟩,.string ⟨#[]⟩,.string ⟨#[]⟩,.string ⟨#[]⟩,.int .u64 0,.int .i64 0]) Tryz.underlying22 dU kD lS oY rfl (by decide) (by decide) _ L.length _ aC hsz (.agg #[.int .u8 x.kind,.string x.name,.string x.a,.string x.b,.string x.c,.string x.d,.int .u64 x.val,.int .i64 x.ph]) rfl rfl (ez_one x) rfl rfl (by have:=gU.out;simp [maxLen];omega) (by have:=gU.out;omega) ?_;intro g1 cap1 w4 aS fM bU);go_roundw
      case rel=>
       refine ⟨k+1,L++ [x],by omega,by omega,by go_num,by have:=gU.out;simp;omega,?_,?_,?_⟩
       · rw [flat_snoc,List.length_append];exact aS
       · intro e he;rcases List.mem_append.1 he with h | h
         · exact HL.out e h
         · obtain rfl:=List.mem_singleton.1 h;exact ⟨HXX.out,HRX.out⟩
       · rcases bU with ⟨h1,h2⟩ | ⟨_,h2⟩
         · exact zBo HB.out h2 fun _ e=> by cases e;exact (aC.lt _ h1).1
         · exact zBo HB.out h2 fun _ e=> by cases e
      case measure=> simp [intOf];omega
    · have q1:(x.kind==5)=true:=by rw [gW];rfl
      have n0:(x.kind==1)=false:=beq_eq_false_iff_ne.2 h1;have n1:(x.kind==8)=false:=beq_eq_false_iff_ne.2 h2;have n2:(x.kind==4)=false:=beq_eq_false_iff_ne.2 h3;have HRX:=hid (show ReK x from ⟨by omega,by omega⟩);clear gW h1 h2 h3;have aC:=HO.out;have hsz:=HB.out.size;go_wp2_with (refine zBq rfl rfl _ rfl _ _ _ rfl rfl w.heap.size 95 8 104 iu (.agg #[.int .u8 0,.string ⟨#[]⟩,.string ⟨#[]⟩,.string ⟨#[]⟩,.string ⟨#[]⟩,.string ⟨#[]⟩,.int .u64 0,.int .i64 0]) Tryz.underlying22 dU kD lS oY rfl (by decide) (by decide) _ L.length _ aC hsz (.agg #[.int .u8 x.kind,.string x.name,.string x.a,.string x.b,.string x.c,.string x.d,.int .u64 x.val,.int .i64 x.ph]) rfl rfl (ez_one x) rfl rfl (by have:=gU.out;simp [maxLen];omega) (by have:=gU.out;omega) ?_;intro g1 cap1 w4 aS fM bU);go_roundw
      case rel=>
       refine ⟨k+1,L++ [x],by omega,by omega,by go_num,by have:=gU.out;simp;omega,?_,?_,?_⟩
       · rw [flat_snoc,List.length_append];exact aS
       · intro e he;rcases List.mem_append.1 he with h | h
         · exact HL.out e h
         · obtain rfl:=List.mem_singleton.1 h;exact ⟨HXX.out,HRX.out⟩
       · rcases bU with ⟨h1,h2⟩ | ⟨_,h2⟩
         · exact zBo HB.out h2 fun _ e=> by cases e;exact (aC.lt _ h1).1
         · exact zBo HB.out h2 fun _ e=> by cases e
      case measure=> simp [intOf];omega
    · have n0:(x.kind==1)=false:=beq_eq_false_iff_ne.2 h1;have n1:(x.kind==8)=false:=beq_eq_false_iff_ne.2 h2;have n2:(x.kind==4)=false:=beq_eq_false_iff_ne.2 h3;have n3:(x.kind==5)=false:=beq_eq_false_iff_ne.2 h4;clear h1 h2 h3 h4;go_wp2;go_roundw
      case rel=> exact ⟨k+1,L,by omega,by omega,by go_num,by have:=gU.out;omega,HO.out,HL.out,HB.out⟩
      case measure=> simp [intOf];omega
  · rcases (show (¬(k:Int) < (l.length:Int))∨((k:Int) < (l.length:Int)∧¬(k:Int) < 40) by omega) with wJ | ⟨wJ,mV⟩
    all_goals
     have HK40:=hid hk40;clear aM hk hk40;go_wp2
     (try simp only [Exit.inBlock,Exit.then])
     (try rw [Exit.noGoto_ret])
     refine bodyPost_ret (v:=u3) ?_ rfl ⟨u3,L,rfl,Nat.le_trans gU.out HK40.out,HO.out,HL.out,HB.out⟩;rw [results_tmp rfl];rfl
theorem real_walk (v:Value) (l:List El) (s1 s2:ByteArray) (om:Nat) (w:World) (hlv:∀w':World,Below w.heap.size w w'→Calls Tryz.prog 8 #[] w' fun e w''=> e=.returned (.bool true)∧Below w'.heap.size w' w'')
 (hv:InSl w 8 v l.length (l.flatMap ez)) (aY:∀e∈l,e.Ok) (h1:s1.size≤maxLen) (h2:s2.size≤maxLen):
 Calls Tryz.prog 4 #[v,.string s1,.string s2,.int .u64 om] w fun e w'=> e=.returned (.bool true)∧Below w.heap.size w w':=by
 have b2:=zDt;obtain ⟨iC,hiC,hC0,hC1,hC2⟩:=info_parts zFh;have HV:=hid hv;have bC:=hid (Below.refl w.heap.size w);have HLV:=hid hlv;have cH:=hid aY;have gC:=hid h1;have mJ:=hid h2;clear hv aY hlv h1 h2;go_enter Tryz.func4,Tryz.ntmps4;go_upto_region 2 with (first | (go_at_call 14;refine (resistive_any v l _ HV.out cH.out).mono ?_;rintro e w1 ⟨sv,L,rfl,hL40,aC,hL,hb⟩;have aL:=hid (zAd bC.out hb);have mM:=hid (IsSl.of_own aC);have HL:=hid hL;have vI:=hid hL40;clear aC hL hL40;clear hb) | (go_at_call 6;refine (read23_any _ L _ (InSl.of mM.out) (fun e he=> (HL.out e he).1)).mono ?_;rintro e w2 ⟨p,q,b,rfl,hb,wN⟩;have aG:=hid (zAd aL.out hb);have HGD:=hid wN;clear wN;clear hb));clear bC aL mM;cases b
 · skip;go_upto_region 3 with fail;go_wp2_with (go_at_call 8;refine (HLV.out _ aG.out).mono ?_;rintro e w3 ⟨rfl,hb⟩;have aT:=hid (zAd aG.out hb);clear hb)
   (try simp only [Exit.inBlock,Exit.then])
   (try rw [Exit.noGoto_ret])
   go_ret;exact ⟨rfl,aT.out⟩
 obtain ⟨rK,eB,hsz,hn,hr,hpn,pX⟩:=HGD.out rfl;have HN:=hid hn;have HPN:=hid hpn;have fN:=hid eB;clear rK eB hsz hn hr hpn pX HGD;go_upto_region 4 with (go_at_call 8;refine (HLV.out _ aG.out).mono ?_;rintro e w3 ⟨rfl,hb⟩;have pK:=hid (HN.out.below' hb);have aT:=hid (zAd aG.out hb);clear hb);clear HN aG;obtain ⟨S1,f1,f2,hS⟩:∃S1 f1 f2,twS false (L.map (chg fun _=> 0)) s1 s2 om=(S1,(f1,f2)):=⟨_,_,_,rfl⟩;have HS:=hid hS;clear hS;obtain ⟨r,tB⟩:∃r,rT (S1,(f1,f2))=r:=⟨_,rfl⟩;have HRR:=hid tB;clear tB;go_upto_region 5 with (go_at_call 11;refine (tof_any p L s1 s2 om _ pK.out HPN.out fN.out (fun e he=> (HL.out e he).1) gC.out mJ.out).mono ?_;rintro e w4 ⟨vz,xs,rfl,eF,aC,hb⟩;have bI:=hid (zAd aT.out hb);rw [HS.out] at eF⊢;rw [HRR.out];dsimp only at eF⊢;have kR:=hid eF;obtain ⟨av,cp,rfl⟩:=(IsSl.of_own aC).form;have mM:=hid (IsSl.of_own aC);clear aC eF;clear hb);clear aT pK;have HOW5:=hid (mM.out.below ((Below.refl w4.heap.size w4).alloc (Nat.le_refl _) (.cells #[.int .i64 r,.int .i64 r,.slice av xs.length cp] 43)) (Nat.le_refl _));have cL:=hid (zAd bI.out ((Below.refl w4.heap.size w4).alloc (Nat.le_refl _) (.cells #[.int .i64 r,.int .i64 r,.slice av xs.length cp] 43)));have H5:=hid (heap_alloc_new w4 (.cells #[.int .i64 r,.int .i64 r,.slice av xs.length cp] 43));have HS5:=hid (show (w4.alloc (.cells #[.int .i64 r,.int .i64 r,.slice av xs.length cp] 43)).heap.size=w4.heap.size+1 by simp);clear mM bI;generalize w4.alloc (.cells #[.int .i64 r,.int .i64 r,.slice av xs.length cp] 43)=w5 at *;have HOW6:=hid (HOW5.out.below ((Below.refl w5.heap.size w5).alloc (Nat.le_refl _) (.cells #[.int .i64 f1,.int .i64 f2] 38)) (Nat.le_refl _));have H56:=hid (zAa ((Below.refl w5.heap.size w5).alloc (Nat.le_refl _) (.cells #[.int .i64 f1,.int .i64 f2] 38)) H5.out)
 have cJ:=hid (zAd cL.out ((Below.refl w5.heap.size w5).alloc (Nat.le_refl _) (.cells #[.int .i64 f1,.int .i64 f2] 38)));have H6:=hid (heap_alloc_new w5 (.cells #[.int .i64 f1,.int .i64 f2] 38));rw [HS5.out] at H6;clear HOW5 H5 cL;generalize w5.alloc (.cells #[.int .i64 f1,.int .i64 f2] 38)=w6 at *;clear HS5;generalize w4.heap.size=ga at *;generalize ga+1=gb at *;have aE:=zAc H6.out;have fa0:=aE.1 0 _ rfl;have fa1:=aE.1 1 _ rfl;clear aE;have aE:=zAc H56.out;have sa0:=aE.1 0 _ rfl;have sa1:=aE.1 1 _ rfl;have sa2:=aE.1 2 _ rfl;clear aE;rcases zDk (f1,f2) with hz | ⟨_,hw⟩
 rotate_left
 · rcases hw with q1 | ⟨q1,q0,q2⟩
   all_goals
    dsimp only at q1
    (try dsimp only at q0 q2)
    (try subst q0)
    go_wp2
    (try simp only [Exit.inBlock,Exit.then])
    (try rw [Exit.noGoto_ret])
    go_ret;exact ⟨rfl,cJ.out⟩
 obtain ⟨rfl,rfl⟩:=Prod.mk.inj hz;clear hz;obtain rfl:r=2:=HRR.out.symm.trans (rT_ok rfl);obtain ⟨y1,y2,y3,y4,hy,tK,pB,hf3,hf4⟩:=tw_four (show (twS false (L.map (chg fun _=> 0)) s1 s2 om).2=(0,0) by rw [HS.out]);have hre:=tw_real (b:=false) (p:=s1) (q:=s2) (om:=om) (chg_re (f:=fun _=> 0) fun x hx=> (HL.out x hx).2);rw [hy] at hre;have yP:xs.map ck= [y1,y2,y3,y4]:=by rw [kR.out,←hy,HS.out]
 clear hy;obtain ⟨z1,z2,z3,z4,rfl⟩:∃z1 z2 z3 z4,xs= [z1,z2,z3,z4]:=by
  have hlen:=congrArg List.length yP
  match xs,hlen with
  | [a,b,c,d],_=> exact ⟨a,b,c,d,rfl⟩
 simp only [List.map_cons,List.map_nil] at yP;obtain ⟨e1,hx5⟩:=List.cons.inj yP;obtain ⟨e2,hx6⟩:=List.cons.inj hx5;obtain ⟨e3,hx7⟩:=List.cons.inj hx6;obtain ⟨e4,_⟩:=List.cons.inj hx7;clear yP hx5 hx6 hx7;subst e1 e2 e3 e4;have HRE:=hid hre;have HTK:=hid (show takS 2 2 [z1,z2,z3,z4]=0 by unfold takS;rw [if_neg (by simp),if_pos (by simp [tK,pB,hf3,hf4])]);clear hre tK pB hf3 hf4;have HDZ:=hid (show fz (csub (ck z2) (ck z3)).2=true from csub_z (HRE.out _ (by simp)) (HRE.out _ (by simp)));obtain ⟨dz,ek,lT⟩:∃d k,recS 2 2 [z1,z2,z3,z4]=(d,k):=⟨_,_,rfl⟩;have HRC:=hid lT;have HEK:=hid (show ek=6∨(ek=0∧fz dz.2=true) by
  rw [rec_good HTK.out rfl] at lT
  by_cases hc:cfin (csub (ck z2) (ck z3))=true
  · rw [if_pos hc] at lT;obtain ⟨rfl,rfl⟩:=Prod.mk.inj lT;exact .inr ⟨rfl,HDZ.out⟩
  · rw [if_neg hc] at lT;obtain ⟨rfl,rfl⟩:=Prod.mk.inj lT;exact .inl rfl)
 clear lT HDZ HTK;go_upto_region 8 with (go_at_call 15;refine (recip_any 2 2 _ [z1,z2,z3,z4] _ HOW6.out).mono ?_;rintro e w7 ⟨r1,i1,rfl,hz,hb⟩;have HOW7:=hid (HOW6.out.below hb (Nat.le_refl _));have H57:=hid (zAa hb H56.out);have H67:=hid (zAa hb H6.out);have cT:=hid (zAd cJ.out hb);rw [HRC.out] at hz⊢;dsimp only at hz⊢;have HZ:=hid hz;clear hz;clear hb);clear fa0 fa1 sa0 sa1 sa2 HOW6 H56 H6 cJ;have aE:=zAc H57.out;have sa0:=aE.1 0 _ rfl;have sa1:=aE.1 1 _ rfl;have sa2:=aE.1 2 _ rfl;clear aE;have HRW:=HOW7;go_wp2
 go_loopw [16] (fun i wr=> ∃k:Nat,k≤4∧i=.int .i64 k∧wr=w7) (fun i _=> 4 - (intOf i).toNat)
 case atStart=> exact ⟨0,by omega,rfl,rfl⟩
 case round=>
  obtain ⟨k,hk,rfl,rfl⟩:=hrel
  by_cases aM:k < 4
  · have hl4:(k:Int) < 4:=by omega
    obtain ⟨g1,o1,x1,oH,fM,hcell1,hx1⟩:=IsSl.at1 Tryz.underlying41 hiC hC1 HRW.out aM;rw [show ([z1,z2,z3,z4]:List Cx).length=4 from rfl] at oH;obtain ⟨z,cG,rfl⟩:=map_getElem? hx1;have aP:=im_ne (HRE.out (ck z) (show ck z∈List.map ck [z1,z2,z3,z4] from List.mem_map.2 ⟨z,List.mem_of_getElem? cG,rfl⟩));clear hx1 cG;go_wp2;go_roundw
    case rel=> exact ⟨k+1,by omega,by go_num,by trivial⟩
    case measure=> simp [intOf];omega
  · have hl4:¬(k:Int) < 4:=by omega
    rcases HEK.out with rfl | ⟨rfl,hdz⟩
    · skip;go_wp2
      (try simp only [Exit.inBlock,Exit.then])
      (try rw [Exit.noGoto_ret])
      go_ret;exact ⟨rfl,cT.out⟩
    · have hzi:=im_eq HZ.out hdz;clear hdz;go_wp2
      (try simp only [Exit.inBlock,Exit.then])
      (try rw [Exit.noGoto_ret])
      go_ret;exact ⟨rfl,cT.out⟩
end Go.Proofs.YtdepiggjneoopaaGreatDoor
