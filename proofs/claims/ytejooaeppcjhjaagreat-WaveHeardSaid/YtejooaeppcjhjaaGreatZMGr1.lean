/- a part of the proof of the last text -/
import Derived.Test.YtejooaeppcjhjaaGreatZMAdm
import Derived.Test.YtejooaeppcjhjaaGreatZReg
import Derived.Test.YtejooaeppcjhjaaGreatZMOfN
namespace Go.Proofs.YtejooaeppcjhjaaGreat
set_option linter.all false
set_option maxHeartbeats 4000000
set_option maxRecDepth 100000
section
open Go.RowKit
theorem cfin_left (x:Nat):cfin (x,fc 0)=ffin x:=by unfold cfin;simp only;rw [fin_zero,Bool.and_true]
theorem zGy (x:Nat):cfin (fc 0,x)=ffin x:=by unfold cfin;simp only;rw [fin_zero,Bool.true_and]
theorem told_fin (x:Nat):toldS false x true=fin6 (x,fc 0):=by unfold toldS fin6;rw [cfin_left];rfl
theorem told_im {x:Nat} {b:Bool}:toldS true x b=if b=true then fin6 (fc 0,x) else ((fc 0,fc 0),6):=by
 unfold toldS fin6;rw [zGy];cases b <;> simp
theorem told_w (x:Nat):toldS true x (ffin x)=fin6 (fc 0,x):=by
 rw [told_im];cases h:ffin x
 · rw [fin6_no (by rw [zGy];exact h)];rfl
 · rfl
theorem admB_1 {e:El} {o:Nat} (h:(e.kind==1 || e.kind==8)=true):admB e o=fin6 (fdiv fone (fc e.val),fc 0):=by unfold admB;rw [if_pos h]
theorem admB_2 {e:El} {o:Nat} (h:(e.kind==1 || e.kind==8)=false) (h2:(e.kind==2)=true):admB e o=if ffin (fmul (fc o) (fc e.val))=true then fin6 (fc 0,fneg (fdiv fone (fmul (fc o) (fc e.val)))) else ((fc 0,fc 0),6):=by unfold admB;rw [if_neg (by rw [h];decide),if_pos h2]
theorem admB_3 {e:El} {o:Nat} (h:(e.kind==1 || e.kind==8)=false) (h2:(e.kind==2)=false):admB e o=fin6 (fc 0,fmul (fc o) (fc e.val)):=by unfold admB;rw [if_neg (by rw [h];decide),if_neg (by rw [h2];decide)]
theorem both_any (x:El) (o:Nat) (w:World) (hx:isAd x=true):
 Calls Tryz.prog 178 #[.agg #[.int .u8 x.kind,.string x.name,.string x.a,.string x.b,.string x.c,.string x.d,.float .f64 x.val,.int .i64 x.ph],.float .f64 o,.bool true] w (RetB (IsCE (admB x o)) w):=by
 have hbx:=heap_alloc_new w (.cells #[.int .u8 x.kind,.string x.name,.string x.a,.string x.b,.string x.c,.string x.d,.float .f64 x.val,.int .i64 x.ph] 48);have hbw:=(Below.refl w.heap.size w).alloc (Nat.le_refl _) (.cells #[.int .u8 x.kind,.string x.name,.string x.a,.string x.b,.string x.c,.string x.d,.float .f64 x.val,.int .i64 x.ph] 48);obtain ⟨hbc,fb⟩:=zAb hbx;have b0:=hbc 0 _ rfl;have b1:=hbc 1 _ rfl;have b2:=hbc 2 _ rfl;have b3:=hbc 3 _ rfl;have b4:=hbc 4 _ rfl;have b5:=hbc 5 _ rfl;have b6:=hbc 6 _ rfl;have b7:=hbc 7 _ rfl;have HBX:=hid hbx;have HBW:=hid hbw;clear hbc fb hbx hbw;have hn:=fun (x:Nat) (w:World)=> run_negf (P:=Tryz.prog) x w
 go_enter Tryz.func178,Tryz.ntmps178;go_upto_region 1 with fail;generalize w.alloc (.cells #[.int .u8 x.kind,.string x.name,.string x.a,.string x.b,.string x.c,.string x.d,.float .f64 x.val,.int .i64 x.ph] 48)=w1 at *;rcases ad_ways x with ⟨h1,h1'⟩ | ⟨h1,h1',h8,h8'⟩ | ⟨h1,h1',h8,h8',h2,h2',h3,h3'⟩ | ⟨h1,h1',h8,h8',h2,h2',h3,h3'⟩ | ⟨h1,h1',h8,h8',h2,h2',h3,h3'⟩
 · go_upto_region 2 with (refine zAp rfl _ _ _ _ _ rfl rfl _ _ rfl rfl ?_;intro r1 n1 hr1;have HR1:=hid hr1;clear hr1);go_upto_region 4 with fail;go_wp2_with (first | (refine zAp rfl _ _ _ _ _ rfl rfl _ _ rfl rfl ?_;intro r2 n2 hr2;have HR2:=hid hr2;clear hr2) | (go_at_call 193;refine (told_none _ _ _).mono ?_;rintro e w' ⟨v,n,rfl,rfl,p,q,k,rfl,hz⟩));rw [told_fin,HR2.out] at hz
   refine bodyPost_ret (v:=.tuple #[.complex .f64 p q,.int .i64 k]) ?_ rfl ⟨_,rfl,(by first | exact zAg HBW.out _ | exact zAg (zAg HBW.out _) _ | exact zAg (zAg (zAg HBW.out _) _) _ | exact zAg (zAg (zAg (zAg HBW.out _) _) _) _ | exact zAg ((zAg HBW.out _).alloc (by simpa using HBW.out.size) _) _ | exact zAg (zAg ((zAg HBW.out _).alloc (by simpa using HBW.out.size) _) _) _ | exact zAg ((zAg (zAg HBW.out _) _).alloc (by simpa using HBW.out.size) _) _),_,_,_,rfl,by rw [admB_1 (by rw [h1];rfl)];exact hz⟩;rw [results_tmp2 rfl];rfl
 · go_upto_region 2 with (refine zAp rfl _ _ _ _ _ rfl rfl _ _ rfl rfl ?_;intro r1 n1 hr1;have HR1:=hid hr1;clear hr1);go_upto_region 4 with fail;go_wp2_with (first | (refine zAp rfl _ _ _ _ _ rfl rfl _ _ rfl rfl ?_;intro r2 n2 hr2;have HR2:=hid hr2;clear hr2) | (go_at_call 193;refine (told_none _ _ _).mono ?_;rintro e w' ⟨v,n,rfl,rfl,p,q,k,rfl,hz⟩));rw [told_fin,HR2.out] at hz
   refine bodyPost_ret (v:=.tuple #[.complex .f64 p q,.int .i64 k]) ?_ rfl ⟨_,rfl,(by first | exact zAg HBW.out _ | exact zAg (zAg HBW.out _) _ | exact zAg (zAg (zAg HBW.out _) _) _ | exact zAg (zAg (zAg (zAg HBW.out _) _) _) _ | exact zAg ((zAg HBW.out _).alloc (by simpa using HBW.out.size) _) _ | exact zAg (zAg ((zAg HBW.out _).alloc (by simpa using HBW.out.size) _) _) _ | exact zAg ((zAg (zAg HBW.out _) _).alloc (by simpa using HBW.out.size) _) _),_,_,_,rfl,by rw [admB_1 (by rw [h1,h8];rfl)];exact hz⟩;rw [results_tmp2 rfl];rfl
 · go_upto_region 2 with (refine zAp rfl _ _ _ _ _ rfl rfl _ _ rfl rfl ?_;intro r1 n1 hr1;have HR1:=hid hr1;clear hr1);go_upto_region 8 with fail;go_wp2_with (first | (refine zAp rfl _ _ _ _ _ rfl rfl _ _ rfl rfl ?_;intro r2 n2 hr2;have HR2:=hid hr2;clear hr2) | (go_at_call 193;refine (told_one _ r1 _ _ (cell_at_new (by simp) rfl)).mono ?_;rintro e w' ⟨v,n,rfl,rfl,p,q,k,rfl,hz⟩));rw [fc_neg,told_im,HR2.out,HR1.out] at hz
   refine bodyPost_ret (v:=.tuple #[.complex .f64 p q,.int .i64 k]) ?_ rfl ⟨_,rfl,(by first | exact zAg HBW.out _ | exact zAg (zAg HBW.out _) _ | exact zAg (zAg (zAg HBW.out _) _) _ | exact zAg (zAg (zAg (zAg HBW.out _) _) _) _ | exact zAg ((zAg HBW.out _).alloc (by simpa using HBW.out.size) _) _ | exact zAg (zAg ((zAg HBW.out _).alloc (by simpa using HBW.out.size) _) _) _ | exact zAg ((zAg (zAg HBW.out _) _).alloc (by simpa using HBW.out.size) _) _),_,_,_,rfl,by rw [admB_2 (by rw [h1,h8];rfl) h2];exact hz⟩;rw [results_tmp2 rfl];rfl
 · go_upto_region 2 with (refine zAp rfl _ _ _ _ _ rfl rfl _ _ rfl rfl ?_;intro r1 n1 hr1;have HR1:=hid hr1;clear hr1);go_upto_region 7 with fail;go_wp2_with (go_at_call 193;refine (told_one _ r1 _ _ (cell_at_new (by simp) rfl)).mono ?_;rintro e w' ⟨v,n,rfl,rfl,p,q,k,rfl,hz⟩);rw [told_w,HR1.out] at hz
   refine bodyPost_ret (v:=.tuple #[.complex .f64 p q,.int .i64 k]) ?_ rfl ⟨_,rfl,(by first | exact zAg HBW.out _ | exact zAg (zAg HBW.out _) _ | exact zAg (zAg (zAg HBW.out _) _) _ | exact zAg (zAg (zAg (zAg HBW.out _) _) _) _ | exact zAg ((zAg HBW.out _).alloc (by simpa using HBW.out.size) _) _ | exact zAg (zAg ((zAg HBW.out _).alloc (by simpa using HBW.out.size) _) _) _ | exact zAg ((zAg (zAg HBW.out _) _).alloc (by simpa using HBW.out.size) _) _),_,_,_,rfl,by rw [admB_3 (by rw [h1,h8];rfl) h2];exact hz⟩;rw [results_tmp2 rfl];rfl
 · exact absurd hx (by unfold isAd;rw [h1,h8,h2,h3];decide)
theorem rmay_any (x:El) (o:Nat) (w:World) (hx:x.Ok):
 Calls Tryz.prog 177 #[.agg #[.int .u8 x.kind,.string x.name,.string x.a,.string x.b,.string x.c,.string x.d,.float .f64 x.val,.int .i64 x.ph],.float .f64 o] w (RetB (fun v=> v=.int .i64 (mayE x o)) w):=by
 have HX:=hid hx;have hbx:=heap_alloc_new w (.cells #[.int .u8 x.kind,.string x.name,.string x.a,.string x.b,.string x.c,.string x.d,.float .f64 x.val,.int .i64 x.ph] 48);have hbw:=(Below.refl w.heap.size w).alloc (Nat.le_refl _) (.cells #[.int .u8 x.kind,.string x.name,.string x.a,.string x.b,.string x.c,.string x.d,.float .f64 x.val,.int .i64 x.ph] 48);obtain ⟨hbc,fb⟩:=zAb hbx;have b0:=hbc 0 _ rfl;have b1:=hbc 1 _ rfl;have b2:=hbc 2 _ rfl;have b3:=hbc 3 _ rfl;have b4:=hbc 4 _ rfl;have b5:=hbc 5 _ rfl;have b6:=hbc 6 _ rfl;have b7:=hbc 7 _ rfl;have HBX:=hid hbx;have HBW:=hid hbw;clear hbc fb hbx hbw hx;go_enter Tryz.func177,Tryz.ntmps177;go_upto_region 1 with fail;generalize w.alloc (.cells #[.int .u8 x.kind,.string x.name,.string x.a,.string x.b,.string x.c,.string x.d,.float .f64 x.val,.int .i64 x.ph] 48)=w1 at *
 by_cases ha:angE o=0
 · have HA:=hid ha;go_upto_region 4 with (go_at_call 30;refine (zHd _ _).mono ?_;rintro e w' ⟨v,n,rfl,rfl,rfl⟩;rw [HA.out])
   by_cases hc:zBc x=0
   · have HC:=hid hc;go_upto_region 5 with (go_at_call 21;refine (zFq x _ HX.out).mono ?_;rintro en w2 ⟨rfl,hb2⟩;rw [HC.out];have HB2:=hid (zAd (zAg HBW.out _) hb2);have HBX2:=hid (zAc hb2 (show (w1.drewN n).heap[w.heap.size]? =_ from HBX.out));clear hb2);clear b0 b1 b2 b3 b4 b5 b6 b7;obtain ⟨hbc,fb⟩:=zAb HBX2.out;have b0:=hbc 0 _ rfl;have b1:=hbc 1 _ rfl;have b2:=hbc 2 _ rfl;have b3:=hbc 3 _ rfl;have b4:=hbc 4 _ rfl;have b5:=hbc 5 _ rfl;have b6:=hbc 6 _ rfl;have b7:=hbc 7 _ rfl;clear hbc fb;rcases ad_ways x with ⟨h1,h1'⟩ | ⟨h1,h1',h8,h8'⟩ | ⟨h1,h1',h8,h8',h2,h2',h3,h3'⟩ | ⟨h1,h1',h8,h8',h2,h2',h3,h3'⟩ | ⟨h1,h1',h8,h8',h2,h2',h3,h3'⟩
     · go_wp2_with fail
       (try rw [Exit.noGoto_ret])
       go_ret;exact ⟨_,rfl,HB2.out,by rw [zEx HA.out HC.out (by unfold isAd;rw [h1];rfl)];rfl⟩
     · go_wp2_with fail
       (try rw [Exit.noGoto_ret])
       go_ret;exact ⟨_,rfl,HB2.out,by rw [zEx HA.out HC.out (by unfold isAd;rw [h1,h8];rfl)];rfl⟩
     · go_wp2_with fail
       (try rw [Exit.noGoto_ret])
       go_ret;exact ⟨_,rfl,HB2.out,by rw [zEx HA.out HC.out (by unfold isAd;rw [h1,h8,h2];rfl)];rfl⟩
     · go_wp2_with fail
       (try rw [Exit.noGoto_ret])
       go_ret;exact ⟨_,rfl,HB2.out,by rw [zEx HA.out HC.out (by unfold isAd;rw [h1,h8,h2,h3];rfl)];rfl⟩
     · go_wp2_with fail
       (try rw [Exit.noGoto_ret])
       go_ret;exact ⟨_,rfl,HB2.out,by rw [may_no HA.out HC.out (by unfold isAd;rw [h1,h8,h2,h3];rfl)];rfl⟩
   · have HC:=hid hc;have hcq:(zBc x==0)=false:=by simpa using hc
     have hcn:(zBc x !=0)=true:=by simpa using hc
     go_wp2_with (go_at_call 21;refine (zFq x _ HX.out).mono ?_;rintro en w2 ⟨rfl,hb2⟩;have HB2:=hid (zAd (zAg HBW.out _) hb2);have HBX2:=hid (zAc hb2 (show (w1.drewN n).heap[w.heap.size]? =_ from HBX.out));clear hb2)
     (try rw [Exit.noGoto_ret])
     go_ret;exact ⟨_,rfl,HB2.out,by rw [may_chk HA.out HC.out];rfl⟩
 · have HA:=hid ha;have haq:(angE o==0)=false:=by simpa using ha
   have han:(angE o !=0)=true:=by simpa using ha
   go_wp2_with (go_at_call 30;refine (zHd _ _).mono ?_;rintro e w' ⟨v,n,rfl,rfl,rfl⟩)
   (try rw [Exit.noGoto_ret])
   go_ret;exact ⟨_,rfl,zAg HBW.out _,by rw [may_ang HA.out];rfl⟩
theorem zGg (x:El) (o:Nat) (w:World) (hx:x.Ok):
 Calls Tryz.prog 144 #[.agg #[.int .u8 x.kind,.string x.name,.string x.a,.string x.b,.string x.c,.string x.d,.float .f64 x.val,.int .i64 x.ph],.float .f64 o] w (RetB (IsCE (admS x o)) w):=by
 have HX:=hid hx;have hbx:=heap_alloc_new w (.cells #[.int .u8 x.kind,.string x.name,.string x.a,.string x.b,.string x.c,.string x.d,.float .f64 x.val,.int .i64 x.ph] 48);have hbw:=(Below.refl w.heap.size w).alloc (Nat.le_refl _) (.cells #[.int .u8 x.kind,.string x.name,.string x.a,.string x.b,.string x.c,.string x.d,.float .f64 x.val,.int .i64 x.ph] 48);obtain ⟨hbc,fb⟩:=zAb hbx;have b0:=hbc 0 _ rfl;have b1:=hbc 1 _ rfl;have b2:=hbc 2 _ rfl;have b3:=hbc 3 _ rfl;have b4:=hbc 4 _ rfl;have b5:=hbc 5 _ rfl;have b6:=hbc 6 _ rfl;have b7:=hbc 7 _ rfl;have HBX:=hid hbx;have HBW:=hid hbw;clear hbc fb hbx hbw hx;go_enter Tryz.func144,Tryz.ntmps144;go_upto_region 1 with fail;generalize w.alloc (.cells #[.int .u8 x.kind,.string x.name,.string x.a,.string x.b,.string x.c,.string x.d,.float .f64 x.val,.int .i64 x.ph] 48)=w1 at *
 by_cases hm:mayE x o=0
 · have HM:=hid hm;have hia:isAd x=true:=by
    unfold mayE at hm
    split at hm
    · split at hm
      · split at hm
        · assumption
        · cases hm
      · contradiction
    · contradiction
   have HIA:=hid hia;clear hm hia;go_upto_region 2 with (go_at_call 177;refine (rmay_any x o _ HX.out).mono ?_;rintro en w2 ⟨v,rfl,hb2,rfl⟩;rw [HM.out];have HB2:=hid (zAd HBW.out hb2);have HBX2:=hid (zAc hb2 HBX.out);clear hb2);clear b0 b1 b2 b3 b4 b5 b6 b7;obtain ⟨hbc,fb⟩:=zAb HBX2.out;have b0:=hbc 0 _ rfl;have b1:=hbc 1 _ rfl;have b2:=hbc 2 _ rfl;have b3:=hbc 3 _ rfl;have b4:=hbc 4 _ rfl;have b5:=hbc 5 _ rfl;have b6:=hbc 6 _ rfl;have b7:=hbc 7 _ rfl;clear hbc fb;go_wp2_with (go_at_call 178;refine (both_any x o _ HIA.out).mono ?_;rintro en w3 ⟨v3,rfl,hb3,p,q,k,rfl,hz⟩);refine bodyPost_ret (v:=.tuple #[.complex .f64 p q,.int .i64 k]) ?_ rfl ⟨_,rfl,zAd HB2.out hb3,_,_,_,rfl,by rw [zFc HM.out];exact hz⟩;rw [results_tmp2 rfl];rfl
 · have HM:=hid hm;have hcq:(mayE x o==0)=false:=by simpa using hm
   have hcn:(mayE x o !=0)=true:=by simpa using hm
   go_wp2_with (go_at_call 177;refine (rmay_any x o _ HX.out).mono ?_;rintro en w2 ⟨v,rfl,hb2,rfl⟩;have HB2:=hid (zAd HBW.out hb2);clear hb2)
   (try rw [Exit.noGoto_ret])
   refine bodyPost_ret (v:=.tuple #[.complex .f64 0 0,.int .i64 (mayE x o)]) ?_ rfl ⟨_,rfl,HB2.out,_,_,_,rfl,by rw [adm_bad rfl HM.out]⟩;rw [results_tmp2 rfl];rfl
theorem reckon_any (x:El) (o:Nat) (w:World) (hx:x.Ok):
 Calls Tryz.prog 158 #[.agg #[.int .u8 x.kind,.string x.name,.string x.a,.string x.b,.string x.c,.string x.d,.float .f64 x.val,.int .i64 x.ph],.float .f64 o,.bool true] w (RetB (IsCE (admS x o)) w):=by
 have HX:=hid hx;have hbx:=heap_alloc_new w (.cells #[.int .u8 x.kind,.string x.name,.string x.a,.string x.b,.string x.c,.string x.d,.float .f64 x.val,.int .i64 x.ph] 48);have hbw:=(Below.refl w.heap.size w).alloc (Nat.le_refl _) (.cells #[.int .u8 x.kind,.string x.name,.string x.a,.string x.b,.string x.c,.string x.d,.float .f64 x.val,.int .i64 x.ph] 48);obtain ⟨hbc,fb⟩:=zAb hbx;have b0:=hbc 0 _ rfl;have b1:=hbc 1 _ rfl;have b2:=hbc 2 _ rfl;have b3:=hbc 3 _ rfl;have b4:=hbc 4 _ rfl;have b5:=hbc 5 _ rfl;have b6:=hbc 6 _ rfl;have b7:=hbc 7 _ rfl;have HBX:=hid hbx;have HBW:=hid hbw;clear hbc fb hbx hbw hx;have hn:=fun (x:Nat) (w:World)=> run_negf (P:=Tryz.prog) x w
 go_enter Tryz.func158,Tryz.ntmps158;go_upto_region 1 with fail;generalize w.alloc (.cells #[.int .u8 x.kind,.string x.name,.string x.a,.string x.b,.string x.c,.string x.d,.float .f64 x.val,.int .i64 x.ph] 48)=w1 at *
 by_cases ha:angE o=0
 · have HA:=hid ha;go_upto_region 4 with (go_at_call 182;refine (tang_any _ _).mono ?_;rintro e w' ⟨v,n,rfl,rfl,rfl⟩;rw [HA.out])
   by_cases hc:zBc x=0
   · have HC:=hid hc;go_upto_region 5 with (go_at_call 18;refine (zFp x _ HX.out).mono ?_;rintro en w2 ⟨rfl,hb2⟩;rw [HC.out];have HB2:=hid (zAd (zAg HBW.out _) hb2);have HBX2:=hid (zAc hb2 (show (w1.drewN n).heap[w.heap.size]? =_ from HBX.out));clear hb2);clear b0 b1 b2 b3 b4 b5 b6 b7;obtain ⟨hbc,fb⟩:=zAb HBX2.out;have b0:=hbc 0 _ rfl;have b1:=hbc 1 _ rfl;have b2:=hbc 2 _ rfl;have b3:=hbc 3 _ rfl;have b4:=hbc 4 _ rfl;have b5:=hbc 5 _ rfl;have b6:=hbc 6 _ rfl;have b7:=hbc 7 _ rfl;clear hbc fb;go_upto_region 9 with (refine zAp rfl _ _ _ _ _ rfl rfl _ _ rfl rfl ?_;intro r1 n1 hr1;have HR1:=hid hr1;clear hr1);rcases ad_ways x with ⟨h1,h1'⟩ | ⟨h1,h1',h8,h8'⟩ | ⟨h1,h1',h8,h8',h2,h2',h3,h3'⟩ | ⟨h1,h1',h8,h8',h2,h2',h3,h3'⟩ | ⟨h1,h1',h8,h8',h2,h2',h3,h3'⟩
     · go_upto_region 22 with (refine zAp rfl _ _ _ _ _ rfl rfl _ _ rfl rfl ?_;intro r2 n2 hr2;have HR2:=hid hr2;clear hr2);cases hz:cfin ((fop .quo (fc 4607182418800017408) (fc x.val)),fc 0)
       · have HZ:=hid hz;clear hz;go_wp2_with (first | (refine zAp rfl _ _ _ _ _ rfl rfl _ _ rfl rfl ?_;intro r3 n3 hr3;have hq:=zEb hr3 (fin_zero);simp only [Bool.not_true] at hq;clear hr3) | (go_at_call 38;refine (zCj _ _ _).mono ?_;rintro e w' ⟨v,n,rfl,rfl,rfl⟩;rw [HR2.out,HZ.out]))
         (try rw [Exit.noGoto_ret])
         refine bodyPost_ret (v:=.tuple #[.complex .f64 0 0,.int .i64 6]) ?_ rfl ⟨_,rfl,(by first | exact zAg HB2.out _ | exact zAg (zAg HB2.out _) _ | exact zAg (zAg (zAg HB2.out _) _) _ | exact zAg (zAg (zAg (zAg HB2.out _) _) _) _),_,_,_,rfl,by rw [zFc (zEx HA.out HC.out (by unfold isAd;rw [h1];rfl)),admB_1 (by rw [h1];rfl)];exact (fin6_no HZ.out).symm⟩;rw [results_tmp2 rfl];rfl
       · have HZ:=hid hz;clear hz;go_wp2_with (first | (refine zAp rfl _ _ _ _ _ rfl rfl _ _ rfl rfl ?_;intro r3 n3 hr3;have hq:=zEb hr3 (fin_zero);simp only [Bool.not_true] at hq;clear hr3) | (go_at_call 38;refine (zCj _ _ _).mono ?_;rintro e w' ⟨v,n,rfl,rfl,rfl⟩;rw [HR2.out,HZ.out]))
         (try rw [Exit.noGoto_ret])
         refine bodyPost_ret (v:=.tuple #[.complex .f64 r2 0,.int .i64 0]) ?_ rfl ⟨_,rfl,(by first | exact zAg HB2.out _ | exact zAg (zAg HB2.out _) _ | exact zAg (zAg (zAg HB2.out _) _) _ | exact zAg (zAg (zAg (zAg HB2.out _) _) _) _),_,_,_,rfl,by rw [zFc (zEx HA.out HC.out (by unfold isAd;rw [h1];rfl)),admB_1 (by rw [h1];rfl),HR2.out];exact (fin6_yes HZ.out).symm⟩;rw [results_tmp2 rfl];rfl
     · go_upto_region 22 with (refine zAp rfl _ _ _ _ _ rfl rfl _ _ rfl rfl ?_;intro r2 n2 hr2;have HR2:=hid hr2;clear hr2);cases hz:cfin ((fop .quo (fc 4607182418800017408) (fc x.val)),fc 0)
       · have HZ:=hid hz;clear hz;go_wp2_with (first | (refine zAp rfl _ _ _ _ _ rfl rfl _ _ rfl rfl ?_;intro r3 n3 hr3;have hq:=zEb hr3 (fin_zero);simp only [Bool.not_true] at hq;clear hr3) | (go_at_call 38;refine (zCj _ _ _).mono ?_;rintro e w' ⟨v,n,rfl,rfl,rfl⟩;rw [HR2.out,HZ.out]))
         (try rw [Exit.noGoto_ret])
         refine bodyPost_ret (v:=.tuple #[.complex .f64 0 0,.int .i64 6]) ?_ rfl ⟨_,rfl,(by first | exact zAg HB2.out _ | exact zAg (zAg HB2.out _) _ | exact zAg (zAg (zAg HB2.out _) _) _ | exact zAg (zAg (zAg (zAg HB2.out _) _) _) _),_,_,_,rfl,by rw [zFc (zEx HA.out HC.out (by unfold isAd;rw [h1,h8];rfl)),admB_1 (by rw [h1,h8];rfl)];exact (fin6_no HZ.out).symm⟩;rw [results_tmp2 rfl];rfl
       · have HZ:=hid hz;clear hz;go_wp2_with (first | (refine zAp rfl _ _ _ _ _ rfl rfl _ _ rfl rfl ?_;intro r3 n3 hr3;have hq:=zEb hr3 (fin_zero);simp only [Bool.not_true] at hq;clear hr3) | (go_at_call 38;refine (zCj _ _ _).mono ?_;rintro e w' ⟨v,n,rfl,rfl,rfl⟩;rw [HR2.out,HZ.out]))
         (try rw [Exit.noGoto_ret])
         refine bodyPost_ret (v:=.tuple #[.complex .f64 r2 0,.int .i64 0]) ?_ rfl ⟨_,rfl,(by first | exact zAg HB2.out _ | exact zAg (zAg HB2.out _) _ | exact zAg (zAg (zAg HB2.out _) _) _ | exact zAg (zAg (zAg (zAg HB2.out _) _) _) _),_,_,_,rfl,by rw [zFc (zEx HA.out HC.out (by unfold isAd;rw [h1,h8];rfl)),admB_1 (by rw [h1,h8];rfl),HR2.out];exact (fin6_yes HZ.out).symm⟩;rw [results_tmp2 rfl];rfl
     · go_upto_region 22 with (refine zAp rfl _ _ _ _ _ rfl rfl _ _ rfl rfl ?_;intro r2 n2 hr2;have HR2:=hid hr2;clear hr2);cases hw:ffin (fop .mul (fc o) (fc x.val))
       · have HW:=hid hw;clear hw;go_wp2_with (first | (refine zAp rfl _ _ _ _ _ rfl rfl _ _ rfl rfl ?_;intro r3 n3 hr3;have hq:=zEb hr3 (show ffin (fc r1)=false by rw [HR1.out];exact HW.out);simp only [Bool.not_false] at hq;clear hr3) | fail)
         (try rw [Exit.noGoto_ret])
         refine bodyPost_ret (v:=.tuple #[.complex .f64 0 0,.int .i64 6]) ?_ rfl ⟨_,rfl,(by first | exact zAg HB2.out _ | exact zAg (zAg HB2.out _) _ | exact zAg (zAg (zAg HB2.out _) _) _ | exact zAg (zAg (zAg (zAg HB2.out _) _) _) _),_,_,_,rfl,by rw [zFc (zEx HA.out HC.out (by unfold isAd;rw [h1,h8,h2];rfl)),admB_2 (by rw [h1,h8];rfl) h2];exact (if_neg (by rw [show ffin (fmul (fc o) (fc x.val))=false from HW.out];decide)).symm⟩;rw [results_tmp2 rfl];rfl
       · have HW:=hid hw;clear hw;cases hz:cfin (fc 0,fneg (fop .quo (fc 4607182418800017408) (fop .mul (fc o) (fc x.val))))
         · have HZ:=hid hz;clear hz;go_wp2_with (first | (refine zAp rfl _ _ _ _ _ rfl rfl _ _ rfl rfl ?_;intro r3 n3 hr3;have hq:=zEb hr3 (show ffin (fc r1)=true by rw [HR1.out];exact HW.out);simp only [Bool.not_true] at hq;clear hr3) | (go_at_call 38;refine (zCj _ _ _).mono ?_;rintro e w' ⟨v,n,rfl,rfl,rfl⟩;rw [fc_neg,HR2.out,HR1.out,HZ.out]))
           (try rw [Exit.noGoto_ret])
           refine bodyPost_ret (v:=.tuple #[.complex .f64 0 0,.int .i64 6]) ?_ rfl ⟨_,rfl,(by first | exact zAg HB2.out _ | exact zAg (zAg HB2.out _) _ | exact zAg (zAg (zAg HB2.out _) _) _ | exact zAg (zAg (zAg (zAg HB2.out _) _) _) _),_,_,_,rfl,by rw [zFc (zEx HA.out HC.out (by unfold isAd;rw [h1,h8,h2];rfl)),admB_2 (by rw [h1,h8];rfl) h2,if_pos (show ffin (fmul (fc o) (fc x.val))=true from HW.out)];exact (fin6_no HZ.out).symm⟩;rw [results_tmp2 rfl];rfl
         · have HZ:=hid hz;clear hz;go_wp2_with (first | (refine zAp rfl _ _ _ _ _ rfl rfl _ _ rfl rfl ?_;intro r3 n3 hr3;have hq:=zEb hr3 (show ffin (fc r1)=true by rw [HR1.out];exact HW.out);simp only [Bool.not_true] at hq;clear hr3) | (go_at_call 38;refine (zCj _ _ _).mono ?_;rintro e w' ⟨v,n,rfl,rfl,rfl⟩;rw [fc_neg,HR2.out,HR1.out,HZ.out]))
           (try rw [Exit.noGoto_ret])
           refine bodyPost_ret (v:=.tuple #[.complex .f64 0 (Op.negFloat .f64 r2),.int .i64 0]) ?_ rfl ⟨_,rfl,(by first | exact zAg HB2.out _ | exact zAg (zAg HB2.out _) _ | exact zAg (zAg (zAg HB2.out _) _) _ | exact zAg (zAg (zAg (zAg HB2.out _) _) _) _),_,_,_,rfl,by rw [zFc (zEx HA.out HC.out (by unfold isAd;rw [h1,h8,h2];rfl)),admB_2 (by rw [h1,h8];rfl) h2,if_pos (show ffin (fmul (fc o) (fc x.val))=true from HW.out),fc_neg,HR2.out,HR1.out];exact (fin6_yes HZ.out).symm⟩;rw [results_tmp2 rfl];rfl
     · go_upto_region 22 with fail;cases hw:ffin (fop .mul (fc o) (fc x.val))
       · have HW:=hid hw;clear hw;go_wp2_with (first | (refine zAp rfl _ _ _ _ _ rfl rfl _ _ rfl rfl ?_;intro r3 n3 hr3;have hq:=zEb hr3 (show ffin (fc r1)=false by rw [HR1.out];exact HW.out);simp only [Bool.not_false] at hq;clear hr3) | fail)
         (try rw [Exit.noGoto_ret])
         refine bodyPost_ret (v:=.tuple #[.complex .f64 0 0,.int .i64 6]) ?_ rfl ⟨_,rfl,(by first | exact zAg HB2.out _ | exact zAg (zAg HB2.out _) _ | exact zAg (zAg (zAg HB2.out _) _) _ | exact zAg (zAg (zAg (zAg HB2.out _) _) _) _),_,_,_,rfl,by rw [zFc (zEx HA.out HC.out (by unfold isAd;rw [h1,h8,h2,h3];rfl)),admB_3 (by rw [h1,h8];rfl) h2];exact (fin6_no ((zGy _).trans HW.out)).symm⟩;rw [results_tmp2 rfl];rfl
       · have HW:=hid hw;clear hw;go_wp2_with (first | (refine zAp rfl _ _ _ _ _ rfl rfl _ _ rfl rfl ?_;intro r3 n3 hr3;have hq:=zEb hr3 (show ffin (fc r1)=true by rw [HR1.out];exact HW.out);simp only [Bool.not_true] at hq;clear hr3) | (go_at_call 38;refine (zCj _ _ _).mono ?_;rintro e w' ⟨v,n,rfl,rfl,rfl⟩;rw [HR1.out,zGy,HW.out]))
         (try rw [Exit.noGoto_ret])
         refine bodyPost_ret (v:=.tuple #[.complex .f64 0 r1,.int .i64 0]) ?_ rfl ⟨_,rfl,(by first | exact zAg HB2.out _ | exact zAg (zAg HB2.out _) _ | exact zAg (zAg (zAg HB2.out _) _) _ | exact zAg (zAg (zAg (zAg HB2.out _) _) _) _),_,_,_,rfl,by rw [zFc (zEx HA.out HC.out (by unfold isAd;rw [h1,h8,h2,h3];rfl)),admB_3 (by rw [h1,h8];rfl) h2,HR1.out];exact (fin6_yes ((zGy _).trans HW.out)).symm⟩;rw [results_tmp2 rfl];rfl
     · go_wp2_with fail
       (try rw [Exit.noGoto_ret])
       refine bodyPost_ret (v:=.tuple #[.complex .f64 0 0,.int .i64 2]) ?_ rfl ⟨_,rfl,(by first | exact zAg HB2.out _ | exact zAg (zAg HB2.out _) _ | exact zAg (zAg (zAg HB2.out _) _) _ | exact zAg (zAg (zAg (zAg HB2.out _) _) _) _),_,_,_,rfl,by rw [adm_bad (may_no HA.out HC.out (by unfold isAd;rw [h1,h8,h2,h3];rfl)) (by decide)]⟩;rw [results_tmp2 rfl];rfl
   · have HC:=hid hc;have hcq:(zBc x==0)=false:=by simpa using hc
     have hcn:(zBc x !=0)=true:=by simpa using hc
     go_wp2_with (go_at_call 18;refine (zFp x _ HX.out).mono ?_;rintro en w2 ⟨rfl,hb2⟩;have HB2:=hid (zAd (zAg HBW.out _) hb2);have HBX2:=hid (zAc hb2 (show (w1.drewN n).heap[w.heap.size]? =_ from HBX.out));clear hb2)
     (try rw [Exit.noGoto_ret])
     refine bodyPost_ret (v:=.tuple #[.complex .f64 0 0,.int .i64 (zBc x)]) ?_ rfl ⟨_,rfl,HB2.out,_,_,_,rfl,by rw [adm_bad (may_chk HA.out HC.out) HC.out]⟩;rw [results_tmp2 rfl];rfl
 · have HA:=hid ha;have haq:(angE o==0)=false:=by simpa using ha
   have han:(angE o !=0)=true:=by simpa using ha
   go_wp2_with (go_at_call 182;refine (tang_any _ _).mono ?_;rintro e w' ⟨v,n,rfl,rfl,rfl⟩)
   (try rw [Exit.noGoto_ret])
   refine bodyPost_ret (v:=.tuple #[.complex .f64 0 0,.int .i64 (angE o)]) ?_ rfl ⟨_,rfl,zAg HBW.out _,_,_,_,rfl,by rw [adm_bad (may_ang HA.out) HA.out]⟩;rw [results_tmp2 rfl];rfl
theorem zGb (x:El) (o:Nat) (w:World) (hx:x.Ok):
 Calls Tryz.prog 122 #[.agg #[.int .u8 x.kind,.string x.name,.string x.a,.string x.b,.string x.c,.string x.d,.float .f64 x.val,.int .i64 x.ph],.float .f64 o] w (RetB (IsCE (admS x o)) w):=by
 have HX:=hid hx;have hbx:=heap_alloc_new w (.cells #[.int .u8 x.kind,.string x.name,.string x.a,.string x.b,.string x.c,.string x.d,.float .f64 x.val,.int .i64 x.ph] 48);have hbw:=(Below.refl w.heap.size w).alloc (Nat.le_refl _) (.cells #[.int .u8 x.kind,.string x.name,.string x.a,.string x.b,.string x.c,.string x.d,.float .f64 x.val,.int .i64 x.ph] 48);obtain ⟨hbc,fb⟩:=zAb hbx;have b0:=hbc 0 _ rfl;have b1:=hbc 1 _ rfl;have b2:=hbc 2 _ rfl;have b3:=hbc 3 _ rfl;have b4:=hbc 4 _ rfl;have b5:=hbc 5 _ rfl;have b6:=hbc 6 _ rfl;have b7:=hbc 7 _ rfl;have HBX:=hid hbx;have HBW:=hid hbw;clear hbc fb hbx hbw hx;go_enter Tryz.func122,Tryz.ntmps122;go_upto_region 1 with fail;generalize w.alloc (.cells #[.int .u8 x.kind,.string x.name,.string x.a,.string x.b,.string x.c,.string x.d,.float .f64 x.val,.int .i64 x.ph] 48)=w1 at *;go_wp2_with (go_at_call 158;refine (reckon_any x o _ HX.out).mono ?_;rintro en w2 ⟨v,rfl,hb2,p,q,k,rfl,hz⟩);refine bodyPost_ret (v:=.tuple #[.complex .f64 p q,.int .i64 k]) ?_ rfl ⟨_,rfl,zAd HBW.out hb2,_,_,_,rfl,hz⟩;rw [results_tmp2 rfl];rfl
end
section
open Go.RowKit
structure St where
 sub:Bool
 i:Int
 j:Int
 y:Cx
abbrev StS:=(Nat→Cx) × Bool
def stZ (n:Nat) (m:Nat→Cx) (t:St):Cx:=if t.sub then csub (m (t.i * n+t.j).toNat) t.y else cadd (m (t.i * n+t.j).toNat) t.y
def st1 (n:Nat) (s:StS) (t:St):StS:=if t.i < 0∨t.j < 0 then s else (upd s.1 (t.i * n+t.j).toNat (stZ n s.1 t),s.2 || !cfin (stZ n s.1 t))
theorem st1_no {n:Nat} {s:StS} {t:St} (h:t.i < 0∨t.j < 0):st1 n s t=s:=by unfold st1;rw [if_pos h]
theorem st1_yes {n:Nat} {s:StS} {t:St} (h:¬(t.i < 0∨t.j < 0)):st1 n s t=(upd s.1 (t.i * n+t.j).toNat (stZ n s.1 t),s.2 || !cfin (stZ n s.1 t)):=by unfold st1;rw [if_neg h]
theorem zAa {w:World} {g t:Nat} {cs:Array Value} (h:w.heap[g]? =some (.cells cs t (0,0))):(∀ (o:Nat) (x:Value),cs[o]? =some x→w.cell? ⟨g,o,none⟩=some x)∧∀o,w.frozen? ⟨g,o,none⟩=false:=
 ⟨fun o x hx=> (cell_of_row _ _ _ _ _ _ h).trans hx,fun o=> by simp [World.frozen?,h]⟩
theorem zAo {w w':World} {g:Nat} {o:Obj} (hb:Below w.heap.size w w') (h:w.heap[g]? =some o):w'.heap[g]? =some o:=(hb.block g (Array.getElem?_eq_some_iff.1 h).1).trans h
theorem blk_setS {w:World} {g o:Nat} {cs:Array Value} {t:TypeId} {f:Nat × Nat} (h:w.heap[g]? =some (.cells cs t f)) (v:Value):(w.setCell ⟨g,o,none⟩ v).heap[g]? =some (.cells (cs.setIfInBounds o v) t f):=by
 unfold World.setCell
 simp [Array.getElem?_modify,h]
theorem zCh (w:World) (g o:Nat) (v:Value):w.grownBy (w.setCell ⟨g,o,none⟩ v) (some g):=
 ⟨rfl,rfl,rfl,by simp,fun k _ hk=> Below.heap_setCell w ⟨g,o,none⟩ v k (fun e=> hk (by rw [e]))⟩
end
section
open Go.RowKit
def rowI (l:List El) (s:ByteArray):Int:=if has (nds l) s=true then plI (nds l) s else -1
def brI (l:List El) (s:ByteArray):Int:=(nds l).length+plI (brs l) s
def szL (l:List El):Nat:=(nds l).length+(brs l).length
def cOne:Cx:=(fone,fc 0)
def zCd (i j:Int) (y:Cx):List St:= [⟨false,i,i,y⟩,⟨false,j,j,y⟩,⟨true,i,j,y⟩,⟨true,j,i,y⟩]
def zGz (i j k q:Int) (g:Cx):List St:= [⟨false,i,k,g⟩,⟨true,i,q,g⟩,⟨true,j,k,g⟩,⟨false,j,q,g⟩]
def stBr (i j m:Int):List St:= [⟨false,i,m,cOne⟩,⟨false,m,i,cOne⟩,⟨true,j,m,cOne⟩,⟨true,m,j,cOne⟩]
def stAmp (m k q:Int) (g:Cx):List St:= [⟨true,m,k,g⟩,⟨false,m,q,g⟩]
def stOf (l:List El) (x:El) (y:Cx):List St:=
 if isAd x=true then zCd (rowI l x.a) (rowI l x.b) y
 else if x.kind=6 then zGz (rowI l x.a) (rowI l x.b) (rowI l x.c) (rowI l x.d) (fc x.val,fc 0)
 else if x.kind=5 then stBr (rowI l x.a) (rowI l x.b) (brI l x.name)
 else if x.kind=7 then stBr (rowI l x.a) (rowI l x.b) (brI l x.name)++stAmp (brI l x.name) (rowI l x.c) (rowI l x.d) (fc x.val,fc 0)
 else []
def zBd (l:List El) (om:Nat) (m:Nat→Cx) (x:El):(Nat→Cx) × Int:=
 if isAd x=true∧(admS x om).2≠0 then (m,(admS x om).2)
 else (((stOf l x (admS x om).1).foldl (st1 (szL l)) (m,false)).1,if ((stOf l x (admS x om).1).foldl (st1 (szL l)) (m,false)).2=true then 6 else 0)
def matR (l:List El) (om:Nat):Nat→List El→(Nat→Cx)→(Nat→Cx) × Int × Int
 | _, [],m=> (m,0,0)
 | k,x::r,m=> if (zBd l om m x).2=0 then matR l om (k+1) r (zBd l om m x).1 else (m,(zBd l om m x).2,k)
def cZero:Cx:=(fc 0,fc 0)
def matS (b:Bool) (l:List El) (om:Nat):(Nat × List Cx) × (Int × Int):=
 if b=true then ((0, []),(1,-1)) else if angE om≠0 then ((0, []),(angE om,-1))
 else if (matR l om 0 l fun _=> cZero).2.1=0 then ((szL l,(List.range (szL l * szL l)).map (matR l om 0 l fun _=> cZero).1),(0,0))
 else ((0, []),(matR l om 0 l fun _=> cZero).2)
theorem mat_none {l:List El} {om:Nat}:matS true l om=((0, []),(1,-1)):=by unfold matS;rw [if_pos rfl]
theorem mat_ang {l:List El} {om:Nat} (h:angE om≠0):matS false l om=((0, []),(angE om,-1)):=by unfold matS;rw [if_neg (by simp),if_pos h]
def matK (l:List El) (om:Nat):Nat→(Nat→Cx)
 | 0=> fun _=> cZero
 | k+1=> match l[k]? with | some x=> (zBd l om (matK l om k) x).1 | none=> matK l om k
theorem zDw {l:List El} {om k:Nat} {x:El} (h:l[k]? =some x):matK l om (k+1)=(zBd l om (matK l om k) x).1:=by simp only [matK,h]
theorem matR_at {l:List El} {om:Nat}:∀ (j k:Nat),k+j=l.length→(∀ (i:Nat) (x:El),i < k→l[i]? =some x→(zBd l om (matK l om i) x).2=0)→matR l om 0 l (fun _=> cZero)=matR l om k (l.drop k) (matK l om k):=by
 intro j;have key:∀k,k≤l.length→(∀ (i:Nat) (x:El),i < k→l[i]? =some x→(zBd l om (matK l om i) x).2=0)→matR l om 0 l (fun _=> cZero)=matR l om k (l.drop k) (matK l om k):=by
  intro k
  induction k with
  | zero=> intro _ _;rfl
  | succ k ih=>
   intro hk h;have hx:l[k]? =some l[k]:=List.getElem?_eq_getElem (by omega);rw [ih (by omega) (fun i x hi hx=> h i x (by omega) hx),List.drop_eq_getElem_cons (by omega)]
   conv=> lhs;unfold matR
   rw [if_pos (h k _ (by omega) hx),zDw hx]
 intro k hk h;exact key k (by omega) h
theorem zDa {l:List El} {om k:Nat} {x:El} (ha:angE om=0) (hx:l[k]? =some x) (h:∀ (i:Nat) (x:El),i < k→l[i]? =some x→(zBd l om (matK l om i) x).2=0) (hb:(zBd l om (matK l om k) x).2≠0):
 matS false l om=((0, []),((zBd l om (matK l om k) x).2,(k:Int))):=by
 have hk:=(List.getElem?_eq_some_iff.1 hx).1;have e:=(List.getElem?_eq_some_iff.1 hx).2;have h1:=matR_at (l:=l) (om:=om) (l.length - k) k (by omega) h;rw [List.drop_eq_getElem_cons hk,e] at h1;have h2:matR l om k (x::l.drop (k+1)) (matK l om k)=(matK l om k,(zBd l om (matK l om k) x).2,(k:Int)):=by
  conv=> lhs;unfold matR
  rw [if_neg hb]
 rw [h2] at h1;unfold matS;rw [if_neg (by simp),if_neg (by simpa using ha),h1,if_neg hb]
theorem mat_done {l:List El} {om:Nat} (ha:angE om=0) (h:∀ (i:Nat) (x:El),l[i]? =some x→(zBd l om (matK l om i) x).2=0):
 matS false l om=((szL l,(List.range (szL l * szL l)).map (matK l om l.length)),(0,0)):=by
 have h1:=matR_at (l:=l) (om:=om) 0 l.length (by omega) (fun i x _ hx=> h i x hx);rw [List.drop_length] at h1;unfold matS;rw [if_neg (by simp),if_neg (by simpa using ha),h1];unfold matR;rw [if_pos rfl]
theorem rowI_lt (l:List El) (s:ByteArray):rowI l s < (nds l).length:=by
 unfold rowI
 split
 · rename_i h;unfold plI;rw [if_pos h];have:(nds l).findIdx (fun t=> t.toList==s.toList) < (nds l).length:=by
    rw [List.findIdx_lt_length];unfold has at h
    simpa using h
   omega
 · omega
end
section
open Go.RowKit
theorem check_isK {x:El} (h:zBc x=0):isK x.kind=true:=by
 unfold zBc at h
 split at h
 · assumption
 · cases h
theorem zHh {l:List El}:∀ {r:List El} {k:Nat},zDy l k r=none→∀ (j:Nat) (e:El),r[j]? =some e→bad1 l (k+j) e=0
 | [],_,_,j,e,h=> by simp at h
 | x::r,k,hf,j,e,h=> by
  unfold zDy at hf
  split at hf
  · rename_i h0;cases j with
    | zero=> simp at h;subst h;exact h0
    | succ j=>
     have:=zHh hf j e (by simpa using h);rw [show k+(j+1)=k+1+j by omega];exact this
  · cases hf
theorem ofL_true {l:List El} (h:(ofL l).1=true):l.length≤256∧∀x∈l,zBc x=0:=by
 unfold ofL at h
 split at h
 · cases h
 · rename_i hl;refine ⟨by omega,fun x hx=> ?_⟩
   split at h
   · cases h
   · rename_i hf;obtain ⟨j,hj⟩:=List.getElem?_of_mem hx;have:=zHh hf j x hj;unfold bad1 at this
     split at this
     · assumption
     · exact this
theorem no_empty {l:List El} (h:∀x∈l,zBc x=0):has (l.map El.name) ⟨#[]⟩=false:=by
 cases hh:has (l.map El.name) ⟨#[]⟩ with
 | false=> rfl
 | true=>
  exfalso
  unfold has at hh;simp only [List.any_eq_true,List.mem_map] at hh;obtain ⟨s,⟨x,hx,rfl⟩,he⟩:=hh;have h0:=h x hx;have he2:x.name.toList= []:=by simpa using he
  have hn:zEs x.name=0:=by
   rw [(zEh x.name ⟨#[]⟩).1 (by rw [he2,zEa];rfl)];rfl
  unfold zBc at h0;unfold zCu at h0;rw [hn] at h0
  simp at h0
  split at h0 <;> simp at h0
theorem ofL_size {l:List El} (h:(ofL l).1=true):(nds l).length≤32∧(nds l).length+(brs l).length≤64:=by
 unfold ofL at h
 split at h
 · cases h
 · split at h
   · cases h
   · split at h
     · cases h
     · rename_i hh
       omega
theorem nn_form {w:World} {p:Value} {l:List El} (h:NN w p l):∃pa:Option Addr,p=.pointer pa∧zAw p=pa.isNone:=by
 rcases h with ⟨rfl,_⟩ | ⟨_,g,_,_,_,_,_,_,rfl,_⟩
 · exact ⟨none,rfl,rfl⟩
 · exact ⟨some ⟨g,0,none⟩,rfl,rfl⟩
end
section
open Go.RowKit
def gnds (l:List El):List ByteArray:=⟨#[48]⟩::nds l
theorem zBz (l:List El):(gnds l).length=(nds l).length+1:=by simp [gnds]
theorem gnds_take {l:List El} {k:Nat} {t:ByteArray} (h:(nds l)[k]? =some t):(gnds l).take (k+2)=(gnds l).take (k+1)++ [t]:=by
 unfold gnds;rw [List.take_succ_cons,List.take_succ_cons,List.take_add_one,h];rfl
theorem nd1_gnd {acc:List ByteArray} {s t:ByteArray} (hs:gnd s=true) (h:has acc s=false):has (nd1 acc t) s=false:=by
 unfold nd1
 split
 · exact h
 · rename_i h2;rw [has_app,h,Bool.false_or];cases e:(t.toList==s.toList)
   · rfl
   · exfalso
     rw [(zEh t s).1 e,hs] at h2
     simp at h2
theorem fold_gnd {s:ByteArray} (hs:gnd s=true):∀ (r acc:List ByteArray),has acc s=false→has (r.foldl nd1 acc) s=false
 | [],_,h=> h
 | t::r,_,h=> fold_gnd hs r _ (nd1_gnd hs h)
theorem nds_gnd {s:ByteArray} (hs:gnd s=true):∀ (l:List El) (acc:List ByteArray),has acc s=false→has (l.foldl nd4 acc) s=false
 | [],_,h=> h
 | x::l,_,h=> nds_gnd hs l _ (fold_gnd hs (fr x) _ h)
theorem has_nd1 {acc:List ByteArray} {s t:ByteArray} (h:has acc s=true):has (nd1 acc t) s=true:=by
 unfold nd1
 split
 · exact h
 · rw [has_app,h,Bool.true_or]
theorem has_fold {s:ByteArray}:∀ (r acc:List ByteArray),has acc s=true→has (r.foldl nd1 acc) s=true
 | [],_,h=> h
 | _::r,_,h=> has_fold r _ (has_nd1 h)
theorem has_nds {s:ByteArray}:∀ (l:List El) (acc:List ByteArray),has acc s=true→has (l.foldl nd4 acc) s=true
 | [],_,h=> h
 | x::l,_,h=> has_nds l _ (has_fold (fr x) _ h)
theorem nd1_has {acc:List ByteArray} {s:ByteArray} (h:gnd s=false):has (nd1 acc s) s=true:=by
 unfold nd1
 split
 · rename_i h2;rw [h,Bool.false_or] at h2;exact h2
 · rw [has_app];simp
theorem fold_has {s:ByteArray} (hs:gnd s=false):∀ (r acc:List ByteArray),s∈r→has (r.foldl nd1 acc) s=true
 | t::r,acc,h=> by
  rcases List.mem_cons.1 h with rfl | h
  · exact has_fold r _ (nd1_has hs)
  · exact fold_has hs r _ h
theorem node_in {s:ByteArray} (hs:gnd s=false) {x:El} (hx:s∈fr x):∀ (l:List El) (acc:List ByteArray),x∈l→has (l.foldl nd4 acc) s=true
 | y::l,acc,h=> by
  rcases List.mem_cons.1 h with rfl | h
  · exact has_nds l _ (fold_has hs (fr x) _ hx)
  · exact node_in hs hx l _ h
theorem gIx_at {l:List El} {s:ByteArray} (h:s=⟨#[48]⟩∨has (nds l) s=true):has (gnds l) s=true∧plI (gnds l) s=gIx l s:=by
 by_cases e:s=⟨#[48]⟩
 · subst e;have h0:has (nds l) ⟨#[48]⟩=false:=nds_gnd (by unfold gnd;rw [zEa];rfl) l [] rfl;have hg:has (gnds l) ⟨#[48]⟩=true:=by unfold gnds has;rw [List.any_cons];simp
   refine ⟨hg,?_⟩;unfold plI gIx;rw [if_pos hg,h0];unfold gnds;rw [List.findIdx_cons]
   simp
 · have hn:has (nds l) s=true:=h.resolve_left e;have hne:((⟨#[48]⟩:ByteArray).toList==s.toList)=false:=by
    cases e2:((⟨#[48]⟩:ByteArray).toList==s.toList)
    · rfl
    · exact absurd ((zEh _ _).1 e2).symm e
   have hg:has (gnds l) s=true:=by
    have h1:=hn;unfold has at h1;unfold gnds has;rw [List.any_cons,h1,Bool.or_true]
   refine ⟨hg,?_⟩;unfold plI gIx;rw [if_pos hg,if_pos hn];unfold plI;rw [if_pos hn];unfold gnds;rw [List.findIdx_cons,hne]
   simp
theorem gIx_none {l:List El} {s:ByteArray} (h:has (nds l) s=false):plI (gnds l) s=gIx l s:=by
 by_cases e:s=⟨#[48]⟩
 · exact (gIx_at (.inl e)).2
 · have hne:((⟨#[48]⟩:ByteArray).toList==s.toList)=false:=by
    cases e2:((⟨#[48]⟩:ByteArray).toList==s.toList)
    · rfl
    · exact absurd ((zEh _ _).1 e2).symm e
   have hg:has (gnds l) s=false:=by
    have h1:=h;unfold has at h1;unfold gnds has;rw [List.any_cons,h1,Bool.or_false,hne]
   unfold plI gIx;rw [if_neg (by rw [hg];simp),if_neg (by rw [h];simp)];rfl
theorem gIx_all (l:List El) (s:ByteArray):plI (gnds l) s=gIx l s:=by
 cases h:has (nds l) s with
 | true=> exact (gIx_at (.inr h)).2
 | false=> exact gIx_none h
theorem joined {l:List El} {x:El} (hx:x∈l) (h:zBc x=0):has (gnds l) x.a=true∧has (gnds l) x.b=true:=by
 have hk:=check_isK h;unfold zBc at h;rw [if_pos hk] at h;have hn:zCu x=false:=by
  cases e:zCu x with
  | false=> rfl
  | true=> rw [e] at h;simp at h
 unfold zCu at hn;simp only [Bool.or_eq_false_iff,Bool.not_eq_false'] at hn;have ha:=hn.1.1.2;have hb:=hn.1.2;have key:∀s,s∈fr x→zDv s=true→has (gnds l) s=true:=fun s hs hnb=> by
  by_cases hg:gnd s=true
  · refine (gIx_at (.inl ?_)).1;unfold gnd at hg;rw [Bool.or_eq_true] at hg;rcases hg with hg | hg
    · exfalso
      have:s=⟨#[]⟩:=(zEh s ⟨#[]⟩).1 (by rw [beq_iff_eq] at hg⊢;rw [hg,zEa]);rw [this] at hnb
      revert hnb
      decide
    · exact (zEh s ⟨#[48]⟩).1 (by rw [beq_iff_eq] at hg⊢;rw [hg,zEa])
  · exact (gIx_at (.inr (node_in (by simpa using hg) hs l [] hx))).1
 exact ⟨key _ (by simp [fr]) ha,key _ (by simp [fr]) hb⟩
end
end Go.Proofs.YtejooaeppcjhjaaGreat
