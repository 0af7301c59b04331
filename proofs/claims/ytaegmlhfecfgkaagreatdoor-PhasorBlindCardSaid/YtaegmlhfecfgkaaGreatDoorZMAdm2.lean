/- a part of the proof of the last text -/
import Derived.Test.YtaegmlhfecfgkaaGreatDoorZMWth
namespace Go.Proofs.YtaegmlhfecfgkaaGreatDoor
set_option linter.all false
set_option maxHeartbeats 4000000
set_option maxRecDepth 100000
section
open Go.RowKit
theorem bad1_nz {l:List El} {k:Nat} {q:Nat × Int}:∀ {r:List El},firstBad l k r=some q→q.2≠0:=by
 intro r
 induction r generalizing k with
 | nil=> intro h;cases h
 | cons x r ih=>
  intro h;unfold firstBad at h
  split at h
  · exact ih h
  · rename_i h0;obtain rfl:=Option.some.inj h;exact h0
theorem ofL_err {l:List El} (h:(ofL l).1=false):(ofL l).2.1≠0:=by
 unfold ofL at *
 split at h
 · rename_i h1;rw [if_pos h1];decide
 · rename_i h1;rw [if_neg h1];cases hf:firstBad l 0 l with
   | some q=> exact bad1_nz hf
   | none=>
    rw [hf] at h;dsimp only at h⊢
    split at h
    · rename_i h2;rw [if_pos h2];decide
    · cases h
theorem ofL_zero {l:List El} (h:(ofL l).1=true):(ofL l).2=(0,0):=by
 unfold ofL at *
 split at h
 · cases h
 · rename_i h1;rw [if_neg h1];cases hf:firstBad l 0 l with
   | some q=> rw [hf] at h;cases h
   | none=>
    rw [hf] at h;dsimp only at h⊢
    split at h
    · cases h
    · rename_i h2;rw [if_neg h2]
theorem retof_bad {R:World→Value→List El→Prop} {l:List El} {w w':World} {e:Ending} (h:RetOf R l w e w') (h0:(ofL l).1=false):∃x y:Int,e=.returned (.tuple #[.pointer none,.agg #[.int .i64 x,.int .i64 y]])∧x≠0∧Below w.heap.size w w':=by
 obtain ⟨p,rfl,h,hb⟩:=h;rcases h with ⟨_,rfl⟩ | ⟨h1,_⟩
 · exact ⟨_,_,rfl,ofL_err h0,hb⟩
 · rw [h0] at h1;cases h1
theorem retof_good {l:List El} {w w':World} {e:Ending} (h:RetOf NN l w e w') (h0:(ofL l).1=true):∃g:Nat,e=.returned (.tuple #[.pointer (some ⟨g,0,none⟩),.agg #[.int .i64 0,.int .i64 0]])∧NN w' (.pointer (some ⟨g,0,none⟩)) l∧Below w.heap.size w w':=by
 obtain ⟨p,rfl,h,hb⟩:=h;rcases h with ⟨h1,_⟩ | ⟨_,h2,h3⟩
 · rw [h0] at h1;cases h1
 · rw [ofL_zero h0];rcases h3 with ⟨h4,_⟩ | ⟨B,g,vl,vn,vb,bn,bp,bb,rfl,h4⟩
   · exact absurd h4 h2
   · exact ⟨g,rfl,.inr ⟨B,g,vl,vn,vb,bn,bp,bb,rfl,h4⟩,hb⟩
end
section
open Go.RowKit
def cst (k:Int):Nat:=
 if k=0 then 4607182418800017408 else if k=1 then 4606875505927962389 else if k=2 then 4605975682916830378 else if k=3 then 4604544271217802189
 else if k=4 then 4602678819172646912 else if k=5 then 4598334089338226320 else 0
def cosb (k:Int):Nat:=
 if 17 < k then cst (24 - k) else if 12 < k then Op.negFloat .f64 (cst (k - 12)) else if 6 < k then Op.negFloat .f64 (cst (12 - k)) else cst k
def root (k:Int):Cx:=(cosb (k % 24),cosb ((k+18) % 24))
theorem run_negf {P:Program} (x:Nat) (w:World):(Op.unary .neg (.float .f64 x)).run P w=.ok (.float .f64 (Op.negFloat .f64 x)) w:=rfl
theorem tconst_any (k:Int) (w:World):
 Calls Tryz.prog 136 #[.int .i64 k] w fun e w'=> e=.returned (.float .f64 (cst k))∧w=w':=by
 have b2:=frombits_law;have hc:k=0∨k=1∨k=2∨k=3∨k=4∨k=5∨(k≠0∧k≠1∧k≠2∧k≠3∧k≠4∧k≠5):=by omega
 rcases hc with rfl | rfl | rfl | rfl | rfl | rfl | ⟨h0,h1,h2,h3,h4,h5⟩
 all_goals (go_enter Tryz.func136,Tryz.ntmps136)
 all_goals go_wp2
 all_goals (try go_ret)
 all_goals (first | exact ⟨rfl,rfl⟩ | exact ⟨by simp [cst, *],rfl⟩)
theorem tcos_any (k:Int) (w:World) (h:0≤k) (h2:k < 24):
 Calls Tryz.prog 123 #[.int .i64 k] w fun e w'=> e=.returned (.float .f64 (cosb k))∧w=w':=by
 have hn:=fun (x:Nat) (w:World)=> run_negf (P:=Tryz.prog) x w
 have hc:17 < k∨(¬17 < k∧12 < k)∨(¬17 < k∧¬12 < k∧6 < k)∨(¬17 < k∧¬12 < k∧¬6 < k):=by omega
 rcases hc with h3 | ⟨h3,h4⟩ | ⟨h3,h4,h5⟩ | ⟨h3,h4,h5⟩
 all_goals (go_enter Tryz.func123,Tryz.ntmps123)
 all_goals (go_wp2_with (go_at_call 136;refine (tconst_any _ _).mono ?_;rintro e w' ⟨rfl,rfl⟩))
 all_goals (try rw [Exit.noGoto_ret])
 all_goals go_ret
 all_goals exact ⟨congrArg (fun x=> Ending.returned (.float .f64 x)) (by unfold cosb;repeat (first | rw [if_pos (by omega)] | rw [if_neg (by omega)])),rfl⟩
theorem mod_p (n:Int):(Int.tmod n 24+24).tmod 24=n % 24:=by
 have h:Int.tmod n 24=_:=Int.tmod_eq_emod;rw [h];have h1:=Int.emod_nonneg n (show (24:Int)≠0 by decide);have h2:=Int.emod_lt_of_pos n (show (0:Int) < 24 by decide)
 split
 · rw [Int.tmod_eq_emod_of_nonneg (by omega)];omega
 · have:(24:Int).natAbs=24:=rfl;rw [this,Int.tmod_eq_emod_of_nonneg (by omega)];omega
theorem tmod_in (n:Int):-23≤Int.tmod n 24∧Int.tmod n 24≤23:=by
 have h:Int.tmod n 24=_:=Int.tmod_eq_emod;rw [h];have h1:=Int.emod_nonneg n (show (24:Int)≠0 by decide);have h2:=Int.emod_lt_of_pos n (show (0:Int) < 24 by decide);have h3:(24:Int).natAbs=24:=rfl
 split
 · omega
 · rename_i h4;have:n % 24≠0:=fun e=> h4 (.inr (Int.dvd_of_emod_eq_zero e))
   rw [h3];omega
theorem wrap_mod (n:Int):wrap64 (Int.tmod n 24+24)=Int.tmod n 24+24:=by
 have:=tmod_in n;unfold wrap64;omega
theorem troot_any (k:Int) (w:World):
 Calls Tryz.prog 100 #[.int .i64 k] w fun e w'=> e=.returned (.complex .f64 (root k).1 (root k).2)∧w=w':=by
 have hw:=wrap_mod k;obtain ⟨m,hm⟩:∃m,k % 24=m:=⟨_,rfl⟩;have h1:=Int.emod_nonneg k (show (24:Int)≠0 by decide);have h2:=Int.emod_lt_of_pos k (show (0:Int) < 24 by decide);have hp:=mod_p k;have hr:root k=(cosb m,cosb ((m+18) % 24)):=by unfold root;rw [show (k+18) % 24=(m+18) % 24 by omega,hm]
 rw [hm] at h1 h2 hp;rw [hr];clear hm hr;go_enter Tryz.func100,Tryz.ntmps100;go_wp2_with (go_at_call 123;refine (tcos_any _ _ (by omega) (by omega)).mono ?_;rintro e w' ⟨rfl,rfl⟩);go_ret;exact ⟨rfl,rfl⟩
end
section
open Go.RowKit
def angE (o:Nat):Int:=if ffin (fc o)=true then (if (FloatKind.f64.format.order o 0==some .gt)=true then 0 else 2) else 5
theorem ang_5 {o:Nat} (h:ffin (fc o)=false):angE o=5:=by unfold angE;rw [if_neg (by rw [h];decide)]
theorem ang_2 {o:Nat} (h:ffin (fc o)=true) (h2:(FloatKind.f64.format.order o 0==some .gt)=false):angE o=2:=by unfold angE;rw [if_pos h,if_neg (by rw [h2];decide)]
theorem ang_0 {o:Nat} (h:ffin (fc o)=true) (h2:(FloatKind.f64.format.order o 0==some .gt)=true):angE o=0:=by unfold angE;rw [if_pos h,if_pos h2]
theorem neq_fin {r x:Nat} {b:Bool} (hr:fc r=fop .sub (fc x) (fc x)) (h:ffin (fc x)=b):(FloatKind.f64.format.order r 0 !=some .eq)=!b:=by unfold bne;rw [ffin_of hr,h]
theorem pscale_any (x a b:Nat) (w:World):
 Calls Tryz.prog 99 #[.float .f64 x,.complex .f64 a b] w (Ret (IsC (cscale (fc x) (fc a,fc b))) w):=by
 go_enter Tryz.func99,Tryz.ntmps99;go_wp2_with (refine wpList_float rfl _ _ _ _ _ rfl rfl _ _ rfl rfl ?_;intro _ _ _);go_ret;exact ⟨_,_,rfl,rfl,_,_,rfl,Prod.ext (by assumption) (by assumption)⟩
end
section
open Go.RowKit
def phs (x:Nat) (k:Int):Cx:=cscale (fc x) (fc (root k).1,fc (root k).2)
theorem tphasor_any (x:Nat) (k:Int) (w:World):
 Calls Tryz.prog 79 #[.float .f64 x,.int .i64 k] w (RetB (IsC (phs x k)) w):=by
 go_enter Tryz.func79,Tryz.ntmps79;go_wp2_with (first | (go_at_call 100;refine (troot_any _ _).mono ?_;rintro e w' ⟨rfl,rfl⟩) | (go_at_call 99;refine (pscale_any _ _ _ _).mono ?_;rintro e w' ⟨v,n,rfl,rfl,r,i,rfl,hz⟩));go_ret;exact ⟨_,rfl,below_n (Below.refl _ _) _,_,_,rfl,hz⟩
def srcS (e:El):Cx × Int:=
 if checkE e=0 then (if (e.kind==4 || e.kind==5)=true then (phs e.val e.ph,0) else ((fc 0,fc 0),2)) else ((fc 0,fc 0),checkE e)
theorem src_ways (e:El):((e.kind==4)=true∧(e.kind !=4)=false)∨((e.kind==4)=false∧(e.kind !=4)=true∧(e.kind==5)=true∧(e.kind !=5)=false)∨((e.kind==4)=false∧(e.kind !=4)=true∧(e.kind==5)=false∧(e.kind !=5)=true):=by
 unfold bne;cases (e.kind==4) <;> cases (e.kind==5) <;> simp
theorem src_bad {e:El} (h:¬checkE e=0):srcS e=((fc 0,fc 0),checkE e):=by unfold srcS;rw [if_neg h]
theorem src_yes {e:El} (h:checkE e=0) (h2:(e.kind==4 || e.kind==5)=true):srcS e=(phs e.val e.ph,0):=by unfold srcS;rw [if_pos h,if_pos h2]
theorem src_no {e:El} (h:checkE e=0) (h2:(e.kind==4 || e.kind==5)=false):srcS e=((fc 0,fc 0),2):=by unfold srcS;rw [if_pos h,if_neg (by rw [h2];decide)]
theorem sphasor_any (x:El) (w:World) (hx:x.Ok):
 Calls Tryz.prog 45 #[.agg #[.int .u8 x.kind,.string x.name,.string x.a,.string x.b,.string x.c,.string x.d,.float .f64 x.val,.int .i64 x.ph]] w (RetB (IsCE (srcS x)) w):=by
 have HX:=hid hx;have hbx:=heap_alloc_new w (.cells #[.int .u8 x.kind,.string x.name,.string x.a,.string x.b,.string x.c,.string x.d,.float .f64 x.val,.int .i64 x.ph] 47);have hbw:=(Below.refl w.heap.size w).alloc (Nat.le_refl _) (.cells #[.int .u8 x.kind,.string x.name,.string x.a,.string x.b,.string x.c,.string x.d,.float .f64 x.val,.int .i64 x.ph] 47);obtain ⟨hbc,fb⟩:=block_cells hbx;have b0:=hbc 0 _ rfl;have b1:=hbc 1 _ rfl;have b2:=hbc 2 _ rfl;have b3:=hbc 3 _ rfl;have b4:=hbc 4 _ rfl;have b5:=hbc 5 _ rfl;have b6:=hbc 6 _ rfl;have b7:=hbc 7 _ rfl;have HBX:=hid hbx;have HBW:=hid hbw;clear hbc fb hbx hbw hx;go_enter Tryz.func45,Tryz.ntmps45;go_upto_region 1 with fail;generalize w.alloc (.cells #[.int .u8 x.kind,.string x.name,.string x.a,.string x.b,.string x.c,.string x.d,.float .f64 x.val,.int .i64 x.ph] 47)=w1 at *
 by_cases hc:checkE x=0
 · have HC:=hid hc;go_upto_region 2 with (go_at_call 25;refine (vcheck_any x _ HX.out).mono ?_;rintro en w2 ⟨rfl,hb2⟩;rw [HC.out];have HBX2:=hid (heap_later2 hb2 HBX.out);have HB2:=hid (below_next HBW.out hb2);clear hb2);obtain ⟨hbc,fb⟩:=block_cells HBX2.out;clear b0 b1 b2 b3 b4 b5 b6 b7;have b0:=hbc 0 _ rfl;have b6:=hbc 6 _ rfl;have b7:=hbc 7 _ rfl;clear hbc fb;rcases src_ways x with ⟨h4,h4'⟩ | ⟨h4,h4',h5,h5'⟩ | ⟨h4,h4',h5,h5'⟩
   · go_wp2_with (go_at_call 79;refine (tphasor_any _ _ _).mono ?_;rintro en w3 ⟨v3,rfl,hb3,r,i,rfl,hz⟩);refine bodyPost_ret (v:=.tuple #[.complex .f64 r i,.int .i64 0]) ?_ rfl ⟨_,rfl,below_next HB2.out hb3,_,_,_,rfl,by rw [src_yes HC.out (by rw [h4];rfl),hz]⟩
     rw [results_tmp2 rfl];rfl
   · go_wp2_with (go_at_call 79;refine (tphasor_any _ _ _).mono ?_;rintro en w3 ⟨v3,rfl,hb3,r,i,rfl,hz⟩);refine bodyPost_ret (v:=.tuple #[.complex .f64 r i,.int .i64 0]) ?_ rfl ⟨_,rfl,below_next HB2.out hb3,_,_,_,rfl,by rw [src_yes HC.out (by rw [h4,h5];rfl),hz]⟩
     rw [results_tmp2 rfl];rfl
   · go_wp2_with fail
     (try rw [Exit.noGoto_ret])
     refine bodyPost_ret (v:=.tuple #[.complex .f64 0 0,.int .i64 2]) ?_ rfl ⟨_,rfl,HB2.out,_,_,_,rfl,by rw [src_no HC.out (by rw [h4,h5];rfl)]⟩;rw [results_tmp2 rfl];rfl
 · have HC:=hid hc;have hcq:(checkE x==0)=false:=by simpa using hc
   have hcn:(checkE x !=0)=true:=by simpa using hc
   go_wp2_with (go_at_call 25;refine (vcheck_any x _ HX.out).mono ?_;rintro en w2 ⟨rfl,hb2⟩;have HB2:=hid (below_next HBW.out hb2);clear hb2)
   (try rw [Exit.noGoto_ret])
   refine bodyPost_ret (v:=.tuple #[.complex .f64 0 0,.int .i64 (checkE x)]) ?_ rfl ⟨_,rfl,HB2.out,_,_,_,rfl,by rw [src_bad HC.out]⟩;rw [results_tmp2 rfl];rfl
end
section
open Go.RowKit
def fneg (x:Nat):Nat:=fc (Op.negFloat .f64 x)
theorem xor_mod (x:Nat):(x ^^^ 9223372036854775808) % 9223372036854775808=x % 9223372036854775808:=by
 rw [show (9223372036854775808:Nat)=2 ^ 63 from by decide]
 apply Nat.eq_of_testBit_eq
 intro i;rw [Nat.testBit_mod_two_pow,Nat.testBit_mod_two_pow,Nat.testBit_xor,Nat.testBit_two_pow]
 by_cases h:i < 63
 · have:¬63=i:=by omega
   simp [h,this]
 · simp [h]
theorem fnan_neg (x:Nat):fnan (Op.negFloat .f64 x)=fnan x:=by
 rw [←fnan_fsize,←fnan_fsize x];exact congrArg fnan (xor_mod x)
theorem fc_neg (x:Nat):fc (Op.negFloat .f64 x)=fneg (fc x):=by
 unfold fneg;cases h:fnan x
 · rw [fc_of_not h]
 · rw [fc_of_nan h,fc_of_nan ((fnan_neg x).trans h),fc_of_nan ((fnan_neg qnan).trans fnan_qnan)]
def fin6 (z:Cx):Cx × Int:=if cfin z=true then (z,0) else ((fc 0,fc 0),6)
def fone:Nat:=fc 4607182418800017408
def admB (e:El) (o:Nat):Cx × Int:=
 if (e.kind==1 || e.kind==8)=true then fin6 (fdiv fone (fc e.val),fc 0) else
 if (e.kind==2)=true then (if ffin (fmul (fc o) (fc e.val))=true then fin6 (fc 0,fneg (fdiv fone (fmul (fc o) (fc e.val)))) else ((fc 0,fc 0),6)) else
 fin6 (fc 0,fmul (fc o) (fc e.val))
def isAd (e:El):Bool:=e.kind==1 || e.kind==8 || e.kind==2 || e.kind==3
def mayE (e:El) (o:Nat):Int:=if angE o=0 then (if checkE e=0 then (if isAd e=true then 0 else 2) else checkE e) else angE o
def admS (e:El) (o:Nat):Cx × Int:=if mayE e o=0 then admB e o else ((fc 0,fc 0),mayE e o)
theorem tang_any (o:Nat) (w:World):
 Calls Tryz.prog 98 #[.float .f64 o] w (Ret (fun v=> v=.int .i64 (angE o)) w):=by
 cases hf:ffin (fc o)
 · have HF:=hid hf;go_enter Tryz.func98,Tryz.ntmps98;go_wp2_with (refine wpList_float rfl _ _ _ _ _ rfl rfl _ _ rfl rfl ?_;intro r n hr;have hq:=neq_fin hr HF.out;simp only [Bool.not_false] at hq;clear hr)
   (try rw [Exit.noGoto_ret])
   go_ret;exact ⟨_,_,rfl,rfl,by rw [ang_5 HF.out];rfl⟩
 · have HF:=hid hf;cases hg:(FloatKind.f64.format.order o 0==some .gt)
   · have HG:=hid hg;go_enter Tryz.func98,Tryz.ntmps98;go_wp2_with (refine wpList_float rfl _ _ _ _ _ rfl rfl _ _ rfl rfl ?_;intro r n hr;have hq:=neq_fin hr HF.out;simp only [Bool.not_true] at hq;clear hr)
     (try rw [Exit.noGoto_ret])
     go_ret;exact ⟨_,_,rfl,rfl,by rw [ang_2 HF.out HG.out];rfl⟩
   · have HG:=hid hg;go_enter Tryz.func98,Tryz.ntmps98;go_wp2_with (refine wpList_float rfl _ _ _ _ _ rfl rfl _ _ rfl rfl ?_;intro r n hr;have hq:=neq_fin hr HF.out;simp only [Bool.not_true] at hq;clear hr)
     (try rw [Exit.noGoto_ret])
     go_ret;exact ⟨_,_,rfl,rfl,by rw [ang_0 HF.out HG.out];rfl⟩
theorem ad_ways (e:El):((e.kind==1)=true∧(e.kind !=1)=false)∨
 ((e.kind==1)=false∧(e.kind !=1)=true∧(e.kind==8)=true∧(e.kind !=8)=false)∨
 ((e.kind==1)=false∧(e.kind !=1)=true∧(e.kind==8)=false∧(e.kind !=8)=true∧(e.kind==2)=true∧(e.kind !=2)=false∧(e.kind==3)=false∧(e.kind !=3)=true)∨
 ((e.kind==1)=false∧(e.kind !=1)=true∧(e.kind==8)=false∧(e.kind !=8)=true∧(e.kind==2)=false∧(e.kind !=2)=true∧(e.kind==3)=true∧(e.kind !=3)=false)∨
 ((e.kind==1)=false∧(e.kind !=1)=true∧(e.kind==8)=false∧(e.kind !=8)=true∧(e.kind==2)=false∧(e.kind !=2)=true∧(e.kind==3)=false∧(e.kind !=3)=true):=by
 unfold bne
 by_cases h2:e.kind=2
 · rw [h2];decide
 · have:(e.kind==2)=false:=by simpa using h2
   rw [this];cases (e.kind==1) <;> cases (e.kind==8) <;> cases (e.kind==3) <;> simp
theorem may_ang {e:El} {o:Nat} (h:¬angE o=0):mayE e o=angE o:=by unfold mayE;rw [if_neg h]
theorem may_chk {e:El} {o:Nat} (h:angE o=0) (h2:¬checkE e=0):mayE e o=checkE e:=by unfold mayE;rw [if_pos h,if_neg h2]
theorem may_no {e:El} {o:Nat} (h:angE o=0) (h2:checkE e=0) (h3:isAd e=false):mayE e o=2:=by unfold mayE;rw [if_pos h,if_pos h2,if_neg (by rw [h3];decide)]
theorem may_yes {e:El} {o:Nat} (h:angE o=0) (h2:checkE e=0) (h3:isAd e=true):mayE e o=0:=by unfold mayE;rw [if_pos h,if_pos h2,if_pos h3]
theorem adm_bad {e:El} {o:Nat} {k:Int} (h:mayE e o=k) (hk:¬k=0):admS e o=((fc 0,fc 0),k):=by unfold admS;rw [if_neg (by rw [h];exact hk),h]
theorem adm_good {e:El} {o:Nat} (h:mayE e o=0):admS e o=admB e o:=by unfold admS;rw [if_pos h]
theorem fin6_yes {z:Cx} (h:cfin z=true):fin6 z=(z,0):=by unfold fin6;rw [if_pos h]
theorem fin6_no {z:Cx} (h:cfin z=false):fin6 z=((fc 0,fc 0),6):=by unfold fin6;rw [if_neg (by rw [h];decide)]
theorem fin_zero:ffin (fc 0)=true:=by decide+kernel
end
section
open Go.RowKit
theorem cfin_right (x:Nat):cfin (fc 0,x)=ffin x:=by unfold cfin;simp only;rw [fin_zero,Bool.true_and]
theorem admB_1 {e:El} {o:Nat} (h:(e.kind==1 || e.kind==8)=true):admB e o=fin6 (fdiv fone (fc e.val),fc 0):=by unfold admB;rw [if_pos h]
theorem admB_2 {e:El} {o:Nat} (h:(e.kind==1 || e.kind==8)=false) (h2:(e.kind==2)=true):admB e o=if ffin (fmul (fc o) (fc e.val))=true then fin6 (fc 0,fneg (fdiv fone (fmul (fc o) (fc e.val)))) else ((fc 0,fc 0),6):=by unfold admB;rw [if_neg (by rw [h];decide),if_pos h2]
theorem admB_3 {e:El} {o:Nat} (h:(e.kind==1 || e.kind==8)=false) (h2:(e.kind==2)=false):admB e o=fin6 (fc 0,fmul (fc o) (fc e.val)):=by unfold admB;rw [if_neg (by rw [h];decide),if_neg (by rw [h2];decide)]
theorem reckon_any (x:El) (o:Nat) (w:World) (hx:x.Ok):
 Calls Tryz.prog 78 #[.agg #[.int .u8 x.kind,.string x.name,.string x.a,.string x.b,.string x.c,.string x.d,.float .f64 x.val,.int .i64 x.ph],.float .f64 o,.bool true] w (RetB (IsCE (admS x o)) w):=by
 have HX:=hid hx;have hbx:=heap_alloc_new w (.cells #[.int .u8 x.kind,.string x.name,.string x.a,.string x.b,.string x.c,.string x.d,.float .f64 x.val,.int .i64 x.ph] 47);have hbw:=(Below.refl w.heap.size w).alloc (Nat.le_refl _) (.cells #[.int .u8 x.kind,.string x.name,.string x.a,.string x.b,.string x.c,.string x.d,.float .f64 x.val,.int .i64 x.ph] 47);obtain ⟨hbc,fb⟩:=block_cells hbx;have b0:=hbc 0 _ rfl;have b1:=hbc 1 _ rfl;have b2:=hbc 2 _ rfl;have b3:=hbc 3 _ rfl;have b4:=hbc 4 _ rfl;have b5:=hbc 5 _ rfl;have b6:=hbc 6 _ rfl;have b7:=hbc 7 _ rfl;have HBX:=hid hbx;have HBW:=hid hbw;clear hbc fb hbx hbw hx;have hn:=fun (x:Nat) (w:World)=> run_negf (P:=Tryz.prog) x w
 go_enter Tryz.func78,Tryz.ntmps78;go_upto_region 1 with fail;generalize w.alloc (.cells #[.int .u8 x.kind,.string x.name,.string x.a,.string x.b,.string x.c,.string x.d,.float .f64 x.val,.int .i64 x.ph] 47)=w1 at *
 by_cases ha:angE o=0
 · have HA:=hid ha;go_upto_region 4 with (go_at_call 98;refine (tang_any _ _).mono ?_;rintro e w' ⟨v,n,rfl,rfl,rfl⟩;rw [HA.out])
   by_cases hc:checkE x=0
   · have HC:=hid hc;go_upto_region 5 with (go_at_call 25;refine (vcheck_any x _ HX.out).mono ?_;rintro en w2 ⟨rfl,hb2⟩;rw [HC.out];have HB2:=hid (below_next (below_n HBW.out _) hb2);have HBX2:=hid (heap_later2 hb2 (show (w1.drewN n).heap[w.heap.size]? =_ from HBX.out));clear hb2);clear b0 b1 b2 b3 b4 b5 b6 b7;obtain ⟨hbc,fb⟩:=block_cells HBX2.out;have b0:=hbc 0 _ rfl;have b1:=hbc 1 _ rfl;have b2:=hbc 2 _ rfl;have b3:=hbc 3 _ rfl;have b4:=hbc 4 _ rfl;have b5:=hbc 5 _ rfl;have b6:=hbc 6 _ rfl;have b7:=hbc 7 _ rfl;clear hbc fb;go_upto_region 9 with (refine wpList_float rfl _ _ _ _ _ rfl rfl _ _ rfl rfl ?_;intro r1 n1 hr1;have HR1:=hid hr1;clear hr1);rcases ad_ways x with ⟨h1,h1'⟩ | ⟨h1,h1',h8,h8'⟩ | ⟨h1,h1',h8,h8',h2,h2',h3,h3'⟩ | ⟨h1,h1',h8,h8',h2,h2',h3,h3'⟩ | ⟨h1,h1',h8,h8',h2,h2',h3,h3'⟩
     · go_upto_region 22 with (refine wpList_float rfl _ _ _ _ _ rfl rfl _ _ rfl rfl ?_;intro r2 n2 hr2;have HR2:=hid hr2;clear hr2);cases hz:cfin ((fop .quo (fc 4607182418800017408) (fc x.val)),fc 0)
       · have HZ:=hid hz;clear hz;go_wp2_with (first | (refine wpList_float rfl _ _ _ _ _ rfl rfl _ _ rfl rfl ?_;intro r3 n3 hr3;have hq:=neq_fin hr3 (fin_zero);simp only [Bool.not_true] at hq;clear hr3) | (go_at_call 47;refine (pfin_any _ _ _).mono ?_;rintro e w' ⟨v,n,rfl,rfl,rfl⟩;rw [HR2.out,HZ.out]))
         (try rw [Exit.noGoto_ret])
         refine bodyPost_ret (v:=.tuple #[.complex .f64 0 0,.int .i64 6]) ?_ rfl ⟨_,rfl,(by first | exact below_n HB2.out _ | exact below_n (below_n HB2.out _) _ | exact below_n (below_n (below_n HB2.out _) _) _ | exact below_n (below_n (below_n (below_n HB2.out _) _) _) _),_,_,_,rfl,by rw [adm_good (may_yes HA.out HC.out (by unfold isAd;rw [h1];rfl)),admB_1 (by rw [h1];rfl)];exact (fin6_no HZ.out).symm⟩;rw [results_tmp2 rfl];rfl
       · have HZ:=hid hz;clear hz;go_wp2_with (first | (refine wpList_float rfl _ _ _ _ _ rfl rfl _ _ rfl rfl ?_;intro r3 n3 hr3;have hq:=neq_fin hr3 (fin_zero);simp only [Bool.not_true] at hq;clear hr3) | (go_at_call 47;refine (pfin_any _ _ _).mono ?_;rintro e w' ⟨v,n,rfl,rfl,rfl⟩;rw [HR2.out,HZ.out]))
         (try rw [Exit.noGoto_ret])
         refine bodyPost_ret (v:=.tuple #[.complex .f64 r2 0,.int .i64 0]) ?_ rfl ⟨_,rfl,(by first | exact below_n HB2.out _ | exact below_n (below_n HB2.out _) _ | exact below_n (below_n (below_n HB2.out _) _) _ | exact below_n (below_n (below_n (below_n HB2.out _) _) _) _),_,_,_,rfl,by rw [adm_good (may_yes HA.out HC.out (by unfold isAd;rw [h1];rfl)),admB_1 (by rw [h1];rfl),HR2.out];exact (fin6_yes HZ.out).symm⟩;rw [results_tmp2 rfl];rfl
     · go_upto_region 22 with (refine wpList_float rfl _ _ _ _ _ rfl rfl _ _ rfl rfl ?_;intro r2 n2 hr2;have HR2:=hid hr2;clear hr2);cases hz:cfin ((fop .quo (fc 4607182418800017408) (fc x.val)),fc 0)
       · have HZ:=hid hz;clear hz;go_wp2_with (first | (refine wpList_float rfl _ _ _ _ _ rfl rfl _ _ rfl rfl ?_;intro r3 n3 hr3;have hq:=neq_fin hr3 (fin_zero);simp only [Bool.not_true] at hq;clear hr3) | (go_at_call 47;refine (pfin_any _ _ _).mono ?_;rintro e w' ⟨v,n,rfl,rfl,rfl⟩;rw [HR2.out,HZ.out]))
         (try rw [Exit.noGoto_ret])
         refine bodyPost_ret (v:=.tuple #[.complex .f64 0 0,.int .i64 6]) ?_ rfl ⟨_,rfl,(by first | exact below_n HB2.out _ | exact below_n (below_n HB2.out _) _ | exact below_n (below_n (below_n HB2.out _) _) _ | exact below_n (below_n (below_n (below_n HB2.out _) _) _) _),_,_,_,rfl,by rw [adm_good (may_yes HA.out HC.out (by unfold isAd;rw [h1,h8];rfl)),admB_1 (by rw [h1,h8];rfl)];exact (fin6_no HZ.out).symm⟩;rw [results_tmp2 rfl];rfl
       · have HZ:=hid hz;clear hz;go_wp2_with (first | (refine wpList_float rfl _ _ _ _ _ rfl rfl _ _ rfl rfl ?_;intro r3 n3 hr3;have hq:=neq_fin hr3 (fin_zero);simp only [Bool.not_true] at hq;clear hr3) | (go_at_call 47;refine (pfin_any _ _ _).mono ?_;rintro e w' ⟨v,n,rfl,rfl,rfl⟩;rw [HR2.out,HZ.out]))
         (try rw [Exit.noGoto_ret])
         refine bodyPost_ret (v:=.tuple #[.complex .f64 r2 0,.int .i64 0]) ?_ rfl ⟨_,rfl,(by first | exact below_n HB2.out _ | exact below_n (below_n HB2.out _) _ | exact below_n (below_n (below_n HB2.out _) _) _ | exact below_n (below_n (below_n (below_n HB2.out _) _) _) _),_,_,_,rfl,by rw [adm_good (may_yes HA.out HC.out (by unfold isAd;rw [h1,h8];rfl)),admB_1 (by rw [h1,h8];rfl),HR2.out];exact (fin6_yes HZ.out).symm⟩;rw [results_tmp2 rfl];rfl
     · go_upto_region 22 with (refine wpList_float rfl _ _ _ _ _ rfl rfl _ _ rfl rfl ?_;intro r2 n2 hr2;have HR2:=hid hr2;clear hr2);cases hw:ffin (fop .mul (fc o) (fc x.val))
       · have HW:=hid hw;clear hw;go_wp2_with (first | (refine wpList_float rfl _ _ _ _ _ rfl rfl _ _ rfl rfl ?_;intro r3 n3 hr3;have hq:=neq_fin hr3 (show ffin (fc r1)=false by rw [HR1.out];exact HW.out);simp only [Bool.not_false] at hq;clear hr3) | fail)
         (try rw [Exit.noGoto_ret])
         refine bodyPost_ret (v:=.tuple #[.complex .f64 0 0,.int .i64 6]) ?_ rfl ⟨_,rfl,(by first | exact below_n HB2.out _ | exact below_n (below_n HB2.out _) _ | exact below_n (below_n (below_n HB2.out _) _) _ | exact below_n (below_n (below_n (below_n HB2.out _) _) _) _),_,_,_,rfl,by rw [adm_good (may_yes HA.out HC.out (by unfold isAd;rw [h1,h8,h2];rfl)),admB_2 (by rw [h1,h8];rfl) h2];exact (if_neg (by rw [show ffin (fmul (fc o) (fc x.val))=false from HW.out];decide)).symm⟩;rw [results_tmp2 rfl];rfl
       · have HW:=hid hw;clear hw;cases hz:cfin (fc 0,fneg (fop .quo (fc 4607182418800017408) (fop .mul (fc o) (fc x.val))))
         · have HZ:=hid hz;clear hz;go_wp2_with (first | (refine wpList_float rfl _ _ _ _ _ rfl rfl _ _ rfl rfl ?_;intro r3 n3 hr3;have hq:=neq_fin hr3 (show ffin (fc r1)=true by rw [HR1.out];exact HW.out);simp only [Bool.not_true] at hq;clear hr3) | (go_at_call 47;refine (pfin_any _ _ _).mono ?_;rintro e w' ⟨v,n,rfl,rfl,rfl⟩;rw [fc_neg,HR2.out,HR1.out,HZ.out]))
           (try rw [Exit.noGoto_ret])
           refine bodyPost_ret (v:=.tuple #[.complex .f64 0 0,.int .i64 6]) ?_ rfl ⟨_,rfl,(by first | exact below_n HB2.out _ | exact below_n (below_n HB2.out _) _ | exact below_n (below_n (below_n HB2.out _) _) _ | exact below_n (below_n (below_n (below_n HB2.out _) _) _) _),_,_,_,rfl,by rw [adm_good (may_yes HA.out HC.out (by unfold isAd;rw [h1,h8,h2];rfl)),admB_2 (by rw [h1,h8];rfl) h2,if_pos (show ffin (fmul (fc o) (fc x.val))=true from HW.out)];exact (fin6_no HZ.out).symm⟩;rw [results_tmp2 rfl];rfl
         · have HZ:=hid hz;clear hz;go_wp2_with (first | (refine wpList_float rfl _ _ _ _ _ rfl rfl _ _ rfl rfl ?_;intro r3 n3 hr3;have hq:=neq_fin hr3 (show ffin (fc r1)=true by rw [HR1.out];exact HW.out);simp only [Bool.not_true] at hq;clear hr3) | (go_at_call 47;refine (pfin_any _ _ _).mono ?_;rintro e w' ⟨v,n,rfl,rfl,rfl⟩;rw [fc_neg,HR2.out,HR1.out,HZ.out]))
           (try rw [Exit.noGoto_ret])
           refine bodyPost_ret (v:=.tuple #[.complex .f64 0 (Op.negFloat .f64 r2),.int .i64 0]) ?_ rfl ⟨_,rfl,(by first | exact below_n HB2.out _ | exact below_n (below_n HB2.out _) _ | exact below_n (below_n (below_n HB2.out _) _) _ | exact below_n (below_n (below_n (below_n HB2.out _) _) _) _),_,_,_,rfl,by rw [adm_good (may_yes HA.out HC.out (by unfold isAd;rw [h1,h8,h2];rfl)),admB_2 (by rw [h1,h8];rfl) h2,if_pos (show ffin (fmul (fc o) (fc x.val))=true from HW.out),fc_neg,HR2.out,HR1.out];exact (fin6_yes HZ.out).symm⟩;rw [results_tmp2 rfl];rfl
     · go_upto_region 22 with fail;cases hw:ffin (fop .mul (fc o) (fc x.val))
       · have HW:=hid hw;clear hw;go_wp2_with (first | (refine wpList_float rfl _ _ _ _ _ rfl rfl _ _ rfl rfl ?_;intro r3 n3 hr3;have hq:=neq_fin hr3 (show ffin (fc r1)=false by rw [HR1.out];exact HW.out);simp only [Bool.not_false] at hq;clear hr3) | fail)
         (try rw [Exit.noGoto_ret])
         refine bodyPost_ret (v:=.tuple #[.complex .f64 0 0,.int .i64 6]) ?_ rfl ⟨_,rfl,(by first | exact below_n HB2.out _ | exact below_n (below_n HB2.out _) _ | exact below_n (below_n (below_n HB2.out _) _) _ | exact below_n (below_n (below_n (below_n HB2.out _) _) _) _),_,_,_,rfl,by rw [adm_good (may_yes HA.out HC.out (by unfold isAd;rw [h1,h8,h2,h3];rfl)),admB_3 (by rw [h1,h8];rfl) h2];exact (fin6_no ((cfin_right _).trans HW.out)).symm⟩;rw [results_tmp2 rfl];rfl
       · have HW:=hid hw;clear hw;go_wp2_with (first | (refine wpList_float rfl _ _ _ _ _ rfl rfl _ _ rfl rfl ?_;intro r3 n3 hr3;have hq:=neq_fin hr3 (show ffin (fc r1)=true by rw [HR1.out];exact HW.out);simp only [Bool.not_true] at hq;clear hr3) | (go_at_call 47;refine (pfin_any _ _ _).mono ?_;rintro e w' ⟨v,n,rfl,rfl,rfl⟩;rw [HR1.out,cfin_right,HW.out]))
         (try rw [Exit.noGoto_ret])
         refine bodyPost_ret (v:=.tuple #[.complex .f64 0 r1,.int .i64 0]) ?_ rfl ⟨_,rfl,(by first | exact below_n HB2.out _ | exact below_n (below_n HB2.out _) _ | exact below_n (below_n (below_n HB2.out _) _) _ | exact below_n (below_n (below_n (below_n HB2.out _) _) _) _),_,_,_,rfl,by rw [adm_good (may_yes HA.out HC.out (by unfold isAd;rw [h1,h8,h2,h3];rfl)),admB_3 (by rw [h1,h8];rfl) h2,HR1.out];exact (fin6_yes ((cfin_right _).trans HW.out)).symm⟩;rw [results_tmp2 rfl];rfl
     · go_wp2_with fail
       (try rw [Exit.noGoto_ret])
       refine bodyPost_ret (v:=.tuple #[.complex .f64 0 0,.int .i64 2]) ?_ rfl ⟨_,rfl,(by first | exact below_n HB2.out _ | exact below_n (below_n HB2.out _) _ | exact below_n (below_n (below_n HB2.out _) _) _ | exact below_n (below_n (below_n (below_n HB2.out _) _) _) _),_,_,_,rfl,by rw [adm_bad (may_no HA.out HC.out (by unfold isAd;rw [h1,h8,h2,h3];rfl)) (by decide)]⟩;rw [results_tmp2 rfl];rfl
   · have HC:=hid hc;have hcq:(checkE x==0)=false:=by simpa using hc
     have hcn:(checkE x !=0)=true:=by simpa using hc
     go_wp2_with (go_at_call 25;refine (vcheck_any x _ HX.out).mono ?_;rintro en w2 ⟨rfl,hb2⟩;have HB2:=hid (below_next (below_n HBW.out _) hb2);have HBX2:=hid (heap_later2 hb2 (show (w1.drewN n).heap[w.heap.size]? =_ from HBX.out));clear hb2)
     (try rw [Exit.noGoto_ret])
     refine bodyPost_ret (v:=.tuple #[.complex .f64 0 0,.int .i64 (checkE x)]) ?_ rfl ⟨_,rfl,HB2.out,_,_,_,rfl,by rw [adm_bad (may_chk HA.out HC.out) HC.out]⟩;rw [results_tmp2 rfl];rfl
 · have HA:=hid ha;have haq:(angE o==0)=false:=by simpa using ha
   have han:(angE o !=0)=true:=by simpa using ha
   go_wp2_with (go_at_call 98;refine (tang_any _ _).mono ?_;rintro e w' ⟨v,n,rfl,rfl,rfl⟩)
   (try rw [Exit.noGoto_ret])
   refine bodyPost_ret (v:=.tuple #[.complex .f64 0 0,.int .i64 (angE o)]) ?_ rfl ⟨_,rfl,below_n HBW.out _,_,_,_,rfl,by rw [adm_bad (may_ang HA.out) HA.out]⟩;rw [results_tmp2 rfl];rfl
theorem tadm_any (x:El) (o:Nat) (w:World) (hx:x.Ok):
 Calls Tryz.prog 43 #[.agg #[.int .u8 x.kind,.string x.name,.string x.a,.string x.b,.string x.c,.string x.d,.float .f64 x.val,.int .i64 x.ph],.float .f64 o] w (RetB (IsCE (admS x o)) w):=by
 have HX:=hid hx;have hbx:=heap_alloc_new w (.cells #[.int .u8 x.kind,.string x.name,.string x.a,.string x.b,.string x.c,.string x.d,.float .f64 x.val,.int .i64 x.ph] 47);have hbw:=(Below.refl w.heap.size w).alloc (Nat.le_refl _) (.cells #[.int .u8 x.kind,.string x.name,.string x.a,.string x.b,.string x.c,.string x.d,.float .f64 x.val,.int .i64 x.ph] 47);obtain ⟨hbc,fb⟩:=block_cells hbx;have b0:=hbc 0 _ rfl;have b1:=hbc 1 _ rfl;have b2:=hbc 2 _ rfl;have b3:=hbc 3 _ rfl;have b4:=hbc 4 _ rfl;have b5:=hbc 5 _ rfl;have b6:=hbc 6 _ rfl;have b7:=hbc 7 _ rfl;have HBX:=hid hbx;have HBW:=hid hbw;clear hbc fb hbx hbw hx;go_enter Tryz.func43,Tryz.ntmps43;go_upto_region 1 with fail;generalize w.alloc (.cells #[.int .u8 x.kind,.string x.name,.string x.a,.string x.b,.string x.c,.string x.d,.float .f64 x.val,.int .i64 x.ph] 47)=w1 at *;go_wp2_with (go_at_call 78;refine (reckon_any x o _ HX.out).mono ?_;rintro en w2 ⟨v,rfl,hb2,p,q,k,rfl,hz⟩);refine bodyPost_ret (v:=.tuple #[.complex .f64 p q,.int .i64 k]) ?_ rfl ⟨_,rfl,below_next HBW.out hb2,_,_,_,rfl,hz⟩;rw [results_tmp2 rfl];rfl
end
end Go.Proofs.YtaegmlhfecfgkaaGreatDoor
