/- a part of the proof of the last text -/
import Derived.Test.YtejooaeppcjhjaaGreatZMFindE15
namespace Go.Proofs.YtejooaeppcjhjaaGreat
set_option linter.all false
set_option maxHeartbeats 4000000
set_option maxRecDepth 100000
section
open Go.RowKit
def cst (k:Int):Nat:=
 if k=0 then 4607182418800017408 else if k=1 then 4606875505927962389 else if k=2 then 4605975682916830378 else if k=3 then 4604544271217802189
 else if k=4 then 4602678819172646912 else if k=5 then 4598334089338226320 else 0
def cosb (k:Int):Nat:=
 if 17 < k then cst (24 - k) else if 12 < k then Op.negFloat .f64 (cst (k - 12)) else if 6 < k then Op.negFloat .f64 (cst (12 - k)) else cst k
def root (k:Int):Cx:=(cosb (k % 24),cosb ((k+18) % 24))
theorem cosb_fin (k:Int) (h:0≤k) (h2:k < 24):fc (cosb k)=cosb k:=by
 obtain ⟨m,rfl⟩:=Int.eq_ofNat_of_zero_le h;have:∀m:Fin 24,fc (cosb (m.val:Int))=cosb (m.val:Int):=by decide+kernel
 exact this ⟨m,by omega⟩
theorem run_negf {P:Program} (x:Nat) (w:World):(Op.unary .neg (.float .f64 x)).run P w=.ok (.float .f64 (Op.negFloat .f64 x)) w:=rfl
theorem tconst_any (k:Int) (w:World):
 Calls Tryz.prog 160 #[.int .i64 k] w fun e w'=> e=.returned (.float .f64 (cst k))∧w=w':=by
 have b2:=zDi;have hc:k=0∨k=1∨k=2∨k=3∨k=4∨k=5∨(k≠0∧k≠1∧k≠2∧k≠3∧k≠4∧k≠5):=by omega
 rcases hc with rfl | rfl | rfl | rfl | rfl | rfl | ⟨h0,h1,h2,h3,h4,h5⟩
 all_goals (go_enter Tryz.func160,Tryz.ntmps160)
 all_goals go_wp2
 all_goals (try go_ret)
 all_goals (first | exact ⟨rfl,rfl⟩ | exact ⟨by simp [cst, *],rfl⟩)
theorem tcos_any (k:Int) (w:World) (h:0≤k) (h2:k < 24):
 Calls Tryz.prog 129 #[.int .i64 k] w fun e w'=> e=.returned (.float .f64 (cosb k))∧w=w':=by
 have hn:=fun (x:Nat) (w:World)=> run_negf (P:=Tryz.prog) x w
 have hc:17 < k∨(¬17 < k∧12 < k)∨(¬17 < k∧¬12 < k∧6 < k)∨(¬17 < k∧¬12 < k∧¬6 < k):=by omega
 rcases hc with h3 | ⟨h3,h4⟩ | ⟨h3,h4,h5⟩ | ⟨h3,h4,h5⟩
 all_goals (go_enter Tryz.func129,Tryz.ntmps129)
 all_goals (go_wp2_with (go_at_call 160;refine (tconst_any _ _).mono ?_;rintro e w' ⟨rfl,rfl⟩))
 all_goals (try rw [Exit.noGoto_ret])
 all_goals go_ret
 all_goals exact ⟨congrArg (fun x=> Ending.returned (.float .f64 x)) (by unfold cosb;repeat (first | rw [if_pos (by omega)] | rw [if_neg (by omega)])),rfl⟩
theorem mod_p (n:Int):(Int.tmod n 24+24).tmod 24=n % 24:=by
 have h:Int.tmod n 24=_:=Int.tmod_eq_emod;rw [h];have h1:=Int.emod_nonneg n (show (24:Int)≠0 by decide);have h2:=Int.emod_lt_of_pos n (show (0:Int) < 24 by decide)
 split
 · rw [Int.tmod_eq_emod_of_nonneg (by omega)];omega
 · have:(24:Int).natAbs=24:=rfl;rw [this,Int.tmod_eq_emod_of_nonneg (by omega)];omega
theorem tmod_in (n:Int):-23≤Int.tmod n 24∧Int.tmod n 24≤23:=by
 have h:Int.tmod n 24=_:=Int.tmod_eq_emod;rw [h];have h1:=Int.emod_nonneg n (show (24:Int)≠0 by decide);have h2:=Int.emod_lt_of_pos n (show (0:Int) < 24 by decide);have h3:(24:Int).natAbs=24:=rfl
 split
 · omega
 · rename_i h4;have:n % 24≠0:=fun e=> h4 (.inr (Int.dvd_of_emod_eq_zero e))
   rw [h3];omega
theorem wrap_mod (n:Int):wrap64 (Int.tmod n 24+24)=Int.tmod n 24+24:=by
 have:=tmod_in n;unfold wrap64;omega
theorem troot_any (k:Int) (w:World):
 Calls Tryz.prog 78 #[.int .i64 k] w fun e w'=> e=.returned (.complex .f64 (root k).1 (root k).2)∧w=w':=by
 have hw:=wrap_mod k;obtain ⟨m,hm⟩:∃m,k % 24=m:=⟨_,rfl⟩;have h1:=Int.emod_nonneg k (show (24:Int)≠0 by decide);have h2:=Int.emod_lt_of_pos k (show (0:Int) < 24 by decide);have hp:=mod_p k;have hr:root k=(cosb m,cosb ((m+18) % 24)):=by unfold root;rw [show (k+18) % 24=(m+18) % 24 by omega,hm]
 rw [hm] at h1 h2 hp;rw [hr];clear hm hr;go_enter Tryz.func78,Tryz.ntmps78;go_wp2_with (go_at_call 129;refine (tcos_any _ _ (by omega) (by omega)).mono ?_;rintro e w' ⟨rfl,rfl⟩);go_ret;exact ⟨rfl,rfl⟩
theorem wround_any (k:Int) (w:World):
 Calls Tryz.prog 79 #[.int .i64 k] w fun e w'=> e=.returned (.int .i64 (k % 24))∧w=w':=by
 have hw:=wrap_mod k;have hp:=mod_p k;go_enter Tryz.func79,Tryz.ntmps79;go_wp2;go_ret;exact ⟨rfl,rfl⟩
theorem mul_24 {a b:Int} (h0:0≤a) (h1:a < 24) (h2:0≤b) (h3:b < 24):0≤a * b∧a * b≤529:=by
 refine ⟨Int.mul_nonneg h0 h2,?_⟩;have:a * b≤23 * 23:=Int.mul_le_mul (by omega) (by omega) h2 (by omega)
 omega
theorem emod24 (k:Int):0≤k % 24∧k % 24 < 24:=⟨Int.emod_nonneg _ (by decide),Int.emod_lt_of_pos _ (by decide)⟩
theorem wtimes_any (a b:Int) (w:World):
 Calls Tryz.prog 29 #[.int .i64 a,.int .i64 b] w fun e w'=> e=.returned (.int .i64 ((a % 24) * (b % 24) % 24))∧w=w':=by
 obtain ⟨h0,h1⟩:=mul_24 (emod24 a).1 (emod24 a).2 (emod24 b).1 (emod24 b).2;have hw:wrap64 (a % 24 * (b % 24))=a % 24 * (b % 24):=by
  generalize a % 24 * (b % 24)=x at *;unfold wrap64;omega
 clear h0 h1;go_enter Tryz.func29,Tryz.ntmps29;go_wp2_with (go_at_call 79;refine (wround_any _ _).mono ?_;rintro e w' ⟨rfl,rfl⟩);go_ret;exact ⟨rfl,rfl⟩
def angl (ph h at_:Int):Int:=((h % 24) * (at_ % 24)+ph % 24) % 24
theorem rmod_any (k:Int) (w:World):
 Calls Tryz.prog 86 #[.int .i64 k] w fun e w'=> e=.returned (.int .i64 (k % 24))∧w=w':=by
 have hw:=wrap_mod k;have hp:=mod_p k;go_enter Tryz.func86,Tryz.ntmps86;go_wp2;go_ret;exact ⟨rfl,rfl⟩
theorem rangle_any (p h a:Int) (w:World):
 Calls Tryz.prog 34 #[.int .i64 p,.int .i64 h,.int .i64 a] w fun e w'=> e=.returned (.int .i64 (angl p h a))∧w=w':=by
 obtain ⟨h0,h1⟩:=mul_24 (emod24 h).1 (emod24 h).2 (emod24 a).1 (emod24 a).2;obtain ⟨h2,h3⟩:=emod24 p;have hw:wrap64 (h % 24 * (a % 24))=h % 24 * (a % 24):=by
  generalize h % 24 * (a % 24)=x at *;unfold wrap64;omega
 have hw2:wrap64 (h % 24 * (a % 24)+p % 24)=h % 24 * (a % 24)+p % 24:=by
  generalize h % 24 * (a % 24)=x at *;unfold wrap64;omega
 clear h0 h1 h2 h3;go_enter Tryz.func34,Tryz.ntmps34;go_wp2_with (go_at_call 86;refine (rmod_any _ _).mono ?_;rintro e w' ⟨rfl,rfl⟩);go_ret;exact ⟨congrArg (fun x=> Ending.returned (.int .i64 x)) (by unfold angl;omega),rfl⟩
theorem rconst_any (k:Nat) (w:World) (hk:k < 7):
 Calls Tryz.prog 168 #[.int .i64 k] w fun e w'=> e=.returned (.float .f64 (cst k))∧Below w.heap.size w w':=by
 have b2:=zDi;have hc:k=0∨k=1∨k=2∨k=3∨k=4∨k=5∨k=6:=by omega
 rcases hc with rfl | rfl | rfl | rfl | rfl | rfl | rfl
 all_goals (go_enter Tryz.func168,Tryz.ntmps168)
 all_goals go_wp2
 all_goals go_ret
 all_goals exact ⟨rfl,(Below.refl _ _).alloc (Nat.le_refl _) _⟩
theorem rconst_at (k:Int) (w:World) (h0:0≤k) (h1:k < 7):
 Calls Tryz.prog 168 #[.int .i64 k] w fun e w'=> e=.returned (.float .f64 (cst k))∧Below w.heap.size w w':=by
 obtain ⟨m,rfl⟩:=Int.eq_ofNat_of_zero_le h0;exact rconst_any m w (by omega)
theorem rcos_cases (k:Int) (_:-29≤k) (_:k < 24):∃m,0≤m∧m < 24∧k % 24=m∧((Int.tmod k 24=m∧¬m < 0)∨(Int.tmod k 24=m - 24∧m - 24 < 0)):=by
 have h3:=emod24 k;refine ⟨k % 24,h3.1,h3.2,rfl,?_⟩;have h:Int.tmod k 24=_:=Int.tmod_eq_emod;have h4:(24:Int).natAbs=24:=rfl
 split at h
 · exact .inl ⟨by omega,by omega⟩
 · rw [h4] at h;exact .inr ⟨by omega,by omega⟩
theorem cos_parts (m:Int) (h0:0≤m) (h1:m < 24):((m=6∨m=18)∧cosb m=0)∨(¬m=6∧¬m=18∧m < 6∧cosb m=cst m)∨
 (¬m=6∧¬m=18∧¬m < 6∧m≤12∧cosb m=Op.negFloat .f64 (cst (12 - m)))∨(¬m=6∧¬m=18∧¬m < 6∧¬m≤12∧m < 18∧cosb m=Op.negFloat .f64 (cst (m - 12)))∨
 (¬m=6∧¬m=18∧¬m < 6∧¬m≤12∧¬m < 18∧cosb m=cst (24 - m)):=by
 obtain ⟨n,rfl⟩:=Int.eq_ofNat_of_zero_le h0;have:∀n:Fin 24,(((n.val:Int)=6∨(n.val:Int)=18)∧cosb n.val=0)∨(¬(n.val:Int)=6∧¬(n.val:Int)=18∧(n.val:Int) < 6∧cosb n.val=cst n.val)∨
  (¬(n.val:Int)=6∧¬(n.val:Int)=18∧¬(n.val:Int) < 6∧(n.val:Int)≤12∧cosb n.val=Op.negFloat .f64 (cst (12 - n.val)))∨(¬(n.val:Int)=6∧¬(n.val:Int)=18∧¬(n.val:Int) < 6∧¬(n.val:Int)≤12∧(n.val:Int) < 18∧cosb n.val=Op.negFloat .f64 (cst (n.val - 12)))∨
  (¬(n.val:Int)=6∧¬(n.val:Int)=18∧¬(n.val:Int) < 6∧¬(n.val:Int)≤12∧¬(n.val:Int) < 18∧cosb n.val=cst (24 - n.val)):=by decide+kernel
 exact this ⟨n,by omega⟩
theorem rcos_any (k:Int) (w:World) (h:-29≤k) (h2:k < 24):
 Calls Tryz.prog 136 #[.int .i64 k] w fun e w'=> e=.returned (.float .f64 (cosb (k % 24)))∧Below w.heap.size w w':=by
 have hn:=fun (x:Nat) (w:World)=> run_negf (P:=Tryz.prog) x w
 obtain ⟨m,h0,h1,hk,hc⟩:=rcos_cases k h h2;rw [hk];clear h h2 hk;rcases hc with ⟨ht,hl⟩ | ⟨ht,hl⟩ <;> rcases cos_parts m h0 h1 with ⟨h3,hv⟩ | ⟨h3,h4,h5,hv⟩ | ⟨h3,h4,h5,h6,hv⟩ | ⟨h3,h4,h5,h6,h7,hv⟩ | ⟨h3,h4,h5,h6,h7,hv⟩
 all_goals (rw [hv];clear hv)
 all_goals (try (rcases h3 with rfl | rfl))
 all_goals (try (have g1:(m==6)=false:=by simpa using h3))
 all_goals (try (have g2:(m==18)=false:=by simpa using h4))
 all_goals (go_enter Tryz.func136,Tryz.ntmps136)
 all_goals (go_wp2_with (go_at_call 168;refine (rconst_at _ _ (by omega) (by omega)).mono ?_;rintro e w' ⟨rfl,hb⟩))
 all_goals (try rw [Exit.noGoto_ret])
 all_goals go_ret
 all_goals exact ⟨by simp,by first | exact Below.refl _ _ | exact hb⟩
theorem rroot_any (k:Int) (w:World):
 Calls Tryz.prog 85 #[.int .i64 k] w fun e w'=> e=.returned (.complex .f64 (root k).1 (root k).2)∧Below w.heap.size w w':=by
 obtain ⟨h1,h2⟩:=tmod_in k;obtain ⟨m,hm⟩:∃m,Int.tmod k 24=m:=⟨_,rfl⟩;have hr:root k=(cosb (m % 24),cosb ((m - 6) % 24)):=by
  have h:Int.tmod k 24=_:=Int.tmod_eq_emod;have h4:(24:Int).natAbs=24:=rfl;rw [h4] at h;unfold root;have e1:k % 24=m % 24:=by split at h <;> omega
  have e2:(k+18) % 24=(m - 6) % 24:=by omega
  rw [e1,e2]
 rw [hr];rw [hm] at h1 h2;clear hr;go_enter Tryz.func85,Tryz.ntmps85;go_wp2_with (go_at_call 136;refine (rcos_any _ _ (by omega) (by omega)).mono ?_;rintro e w' ⟨rfl,hb⟩);go_ret;exact ⟨rfl,zBb (by assumption) hb⟩
end
section
open Go.RowKit
theorem pscale_any (x a b:Nat) (w:World):
 Calls Tryz.prog 183 #[.float .f64 x,.complex .f64 a b] w (Ret (IsC (cscale (fc x) (fc a,fc b))) w):=by
 go_enter Tryz.func183,Tryz.ntmps183;go_wp2_with (refine zAp rfl _ _ _ _ _ rfl rfl _ _ rfl rfl ?_;intro _ _ _);go_ret;exact ⟨_,_,rfl,rfl,_,_,rfl,Prod.ext (by assumption) (by assumption)⟩
def phs (x:Nat) (k:Int):Cx:=cscale (fc x) (fc (root k).1,fc (root k).2)
theorem tphasor_any (x:Nat) (k:Int) (w:World):
 Calls Tryz.prog 159 #[.float .f64 x,.int .i64 k] w (RetB (IsC (phs x k)) w):=by
 go_enter Tryz.func159,Tryz.ntmps159;go_wp2_with (first | (go_at_call 78;refine (troot_any _ _).mono ?_;rintro e w' ⟨rfl,rfl⟩) | (go_at_call 183;refine (pscale_any _ _ _ _).mono ?_;rintro e w' ⟨v,n,rfl,rfl,r,i,rfl,hz⟩));go_ret;exact ⟨_,rfl,zAg (Below.refl _ _) _,_,_,rfl,hz⟩
theorem rphasor04_any (x:Nat) (k:Int) (w:World):
 Calls Tryz.prog 187 #[.float .f64 x,.int .i64 k] w (RetB (IsC (phs x k)) w):=by
 go_enter Tryz.func187,Tryz.ntmps187;go_wp2_with (first | (go_at_call 85;refine (rroot_any _ _).mono ?_;rintro e w' ⟨rfl,hb⟩;have HB:=hid hb;clear hb) | (refine zAp rfl _ _ _ _ _ rfl rfl _ _ rfl rfl ?_;intro _ _ _));go_ret;exact ⟨_,rfl,zAg HB.out _,_,_,rfl,Prod.ext (by assumption) (by assumption)⟩
def srcS (e:El):Cx × Int:=
 if zBc e=0 then (if (e.kind==4 || e.kind==5)=true then (phs e.val e.ph,0) else ((fc 0,fc 0),2)) else ((fc 0,fc 0),zBc e)
theorem src_ways (e:El):((e.kind==4)=true∧(e.kind !=4)=false)∨((e.kind==4)=false∧(e.kind !=4)=true∧(e.kind==5)=true∧(e.kind !=5)=false)∨((e.kind==4)=false∧(e.kind !=4)=true∧(e.kind==5)=false∧(e.kind !=5)=true):=by
 unfold bne;cases (e.kind==4) <;> cases (e.kind==5) <;> simp
theorem src_bad {e:El} (h:¬zBc e=0):srcS e=((fc 0,fc 0),zBc e):=by unfold srcS;rw [if_neg h]
theorem src_yes {e:El} (h:zBc e=0) (h2:(e.kind==4 || e.kind==5)=true):srcS e=(phs e.val e.ph,0):=by unfold srcS;rw [if_pos h,if_pos h2]
theorem src_no {e:El} (h:zBc e=0) (h2:(e.kind==4 || e.kind==5)=false):srcS e=((fc 0,fc 0),2):=by unfold srcS;rw [if_pos h,if_neg (by rw [h2];decide)]
theorem sphasor_any (x:El) (w:World) (hx:x.Ok):
 Calls Tryz.prog 124 #[.agg #[.int .u8 x.kind,.string x.name,.string x.a,.string x.b,.string x.c,.string x.d,.float .f64 x.val,.int .i64 x.ph]] w (RetB (IsCE (srcS x)) w):=by
 have HX:=hid hx;have hbx:=heap_alloc_new w (.cells #[.int .u8 x.kind,.string x.name,.string x.a,.string x.b,.string x.c,.string x.d,.float .f64 x.val,.int .i64 x.ph] 48);have hbw:=(Below.refl w.heap.size w).alloc (Nat.le_refl _) (.cells #[.int .u8 x.kind,.string x.name,.string x.a,.string x.b,.string x.c,.string x.d,.float .f64 x.val,.int .i64 x.ph] 48);obtain ⟨hbc,fb⟩:=zAb hbx;have b0:=hbc 0 _ rfl;have b1:=hbc 1 _ rfl;have b2:=hbc 2 _ rfl;have b3:=hbc 3 _ rfl;have b4:=hbc 4 _ rfl;have b5:=hbc 5 _ rfl;have b6:=hbc 6 _ rfl;have b7:=hbc 7 _ rfl;have HBX:=hid hbx;have HBW:=hid hbw;clear hbc fb hbx hbw hx;go_enter Tryz.func124,Tryz.ntmps124;go_upto_region 1 with fail;generalize w.alloc (.cells #[.int .u8 x.kind,.string x.name,.string x.a,.string x.b,.string x.c,.string x.d,.float .f64 x.val,.int .i64 x.ph] 48)=w1 at *
 by_cases hc:zBc x=0
 · have HC:=hid hc;go_upto_region 2 with (go_at_call 18;refine (zFp x _ HX.out).mono ?_;rintro en w2 ⟨rfl,hb2⟩;rw [HC.out];have HBX2:=hid (zAc hb2 HBX.out);have HB2:=hid (zAd HBW.out hb2);clear hb2);obtain ⟨hbc,fb⟩:=zAb HBX2.out;clear b0 b1 b2 b3 b4 b5 b6 b7;have b0:=hbc 0 _ rfl;have b6:=hbc 6 _ rfl;have b7:=hbc 7 _ rfl;clear hbc fb;rcases src_ways x with ⟨h4,h4'⟩ | ⟨h4,h4',h5,h5'⟩ | ⟨h4,h4',h5,h5'⟩
   · go_wp2_with (go_at_call 159;refine (tphasor_any _ _ _).mono ?_;rintro en w3 ⟨v3,rfl,hb3,r,i,rfl,hz⟩);refine bodyPost_ret (v:=.tuple #[.complex .f64 r i,.int .i64 0]) ?_ rfl ⟨_,rfl,zAd HB2.out hb3,_,_,_,rfl,by rw [src_yes HC.out (by rw [h4];rfl),hz]⟩
     rw [results_tmp2 rfl];rfl
   · go_wp2_with (go_at_call 159;refine (tphasor_any _ _ _).mono ?_;rintro en w3 ⟨v3,rfl,hb3,r,i,rfl,hz⟩);refine bodyPost_ret (v:=.tuple #[.complex .f64 r i,.int .i64 0]) ?_ rfl ⟨_,rfl,zAd HB2.out hb3,_,_,_,rfl,by rw [src_yes HC.out (by rw [h4,h5];rfl),hz]⟩
     rw [results_tmp2 rfl];rfl
   · go_wp2_with fail
     (try rw [Exit.noGoto_ret])
     refine bodyPost_ret (v:=.tuple #[.complex .f64 0 0,.int .i64 2]) ?_ rfl ⟨_,rfl,HB2.out,_,_,_,rfl,by rw [src_no HC.out (by rw [h4,h5];rfl)]⟩;rw [results_tmp2 rfl];rfl
 · have HC:=hid hc;have hcq:(zBc x==0)=false:=by simpa using hc
   have hcn:(zBc x !=0)=true:=by simpa using hc
   go_wp2_with (go_at_call 18;refine (zFp x _ HX.out).mono ?_;rintro en w2 ⟨rfl,hb2⟩;have HB2:=hid (zAd HBW.out hb2);clear hb2)
   (try rw [Exit.noGoto_ret])
   refine bodyPost_ret (v:=.tuple #[.complex .f64 0 0,.int .i64 (zBc x)]) ?_ rfl ⟨_,rfl,HB2.out,_,_,_,rfl,by rw [src_bad HC.out]⟩;rw [results_tmp2 rfl];rfl
theorem rphasor19_any (x:El) (w:World) (hx:x.Ok):
 Calls Tryz.prog 166 #[.agg #[.int .u8 x.kind,.string x.name,.string x.a,.string x.b,.string x.c,.string x.d,.float .f64 x.val,.int .i64 x.ph]] w (RetB (IsCE (srcS x)) w):=by
 have HX:=hid hx;have hbx:=heap_alloc_new w (.cells #[.int .u8 x.kind,.string x.name,.string x.a,.string x.b,.string x.c,.string x.d,.float .f64 x.val,.int .i64 x.ph] 48);have hbw:=(Below.refl w.heap.size w).alloc (Nat.le_refl _) (.cells #[.int .u8 x.kind,.string x.name,.string x.a,.string x.b,.string x.c,.string x.d,.float .f64 x.val,.int .i64 x.ph] 48);obtain ⟨hbc,fb⟩:=zAb hbx;have b0:=hbc 0 _ rfl;have b1:=hbc 1 _ rfl;have b2:=hbc 2 _ rfl;have b3:=hbc 3 _ rfl;have b4:=hbc 4 _ rfl;have b5:=hbc 5 _ rfl;have b6:=hbc 6 _ rfl;have b7:=hbc 7 _ rfl;have HBX:=hid hbx;have HBW:=hid hbw;clear hbc fb hbx hbw hx;go_enter Tryz.func166,Tryz.ntmps166;go_upto_region 1 with fail;generalize w.alloc (.cells #[.int .u8 x.kind,.string x.name,.string x.a,.string x.b,.string x.c,.string x.d,.float .f64 x.val,.int .i64 x.ph] 48)=w1 at *
 by_cases hc:zBc x=0
 · have HC:=hid hc;go_upto_region 2 with (go_at_call 21;refine (zFq x _ HX.out).mono ?_;rintro en w2 ⟨rfl,hb2⟩;rw [HC.out];have HBX2:=hid (zAc hb2 HBX.out);have HB2:=hid (zAd HBW.out hb2);clear hb2);obtain ⟨hbc,fb⟩:=zAb HBX2.out;clear b0 b1 b2 b3 b4 b5 b6 b7;have b0:=hbc 0 _ rfl;have b6:=hbc 6 _ rfl;have b7:=hbc 7 _ rfl;clear hbc fb;rcases src_ways x with ⟨h4,h4'⟩ | ⟨h4,h4',h5,h5'⟩ | ⟨h4,h4',h5,h5'⟩
   · go_wp2_with (go_at_call 187;refine (rphasor04_any _ _ _).mono ?_;rintro en w3 ⟨v3,rfl,hb3,r,i,rfl,hz⟩);refine bodyPost_ret (v:=.tuple #[.complex .f64 r i,.int .i64 0]) ?_ rfl ⟨_,rfl,zAd HB2.out hb3,_,_,_,rfl,by rw [src_yes HC.out (by rw [h4];rfl),hz]⟩
     rw [results_tmp2 rfl];rfl
   · go_wp2_with (go_at_call 187;refine (rphasor04_any _ _ _).mono ?_;rintro en w3 ⟨v3,rfl,hb3,r,i,rfl,hz⟩);refine bodyPost_ret (v:=.tuple #[.complex .f64 r i,.int .i64 0]) ?_ rfl ⟨_,rfl,zAd HB2.out hb3,_,_,_,rfl,by rw [src_yes HC.out (by rw [h4,h5];rfl),hz]⟩
     rw [results_tmp2 rfl];rfl
   · go_wp2_with fail
     (try rw [Exit.noGoto_ret])
     refine bodyPost_ret (v:=.tuple #[.complex .f64 0 0,.int .i64 2]) ?_ rfl ⟨_,rfl,HB2.out,_,_,_,rfl,by rw [src_no HC.out (by rw [h4,h5];rfl)]⟩;rw [results_tmp2 rfl];rfl
 · have HC:=hid hc;have hcq:(zBc x==0)=false:=by simpa using hc
   have hcn:(zBc x !=0)=true:=by simpa using hc
   go_wp2_with (go_at_call 21;refine (zFq x _ HX.out).mono ?_;rintro en w2 ⟨rfl,hb2⟩;have HB2:=hid (zAd HBW.out hb2);clear hb2)
   (try rw [Exit.noGoto_ret])
   refine bodyPost_ret (v:=.tuple #[.complex .f64 0 0,.int .i64 (zBc x)]) ?_ rfl ⟨_,rfl,HB2.out,_,_,_,rfl,by rw [src_bad HC.out]⟩;rw [results_tmp2 rfl];rfl
end
section
open Go.RowKit
def angE (o:Nat):Int:=if ffin (fc o)=true then (if (FloatKind.f64.format.order o 0==some .gt)=true then 0 else 2) else 5
def fneg (x:Nat):Nat:=fc (Op.negFloat .f64 x)
theorem xor_mod (x:Nat):(x ^^^ 9223372036854775808) % 9223372036854775808=x % 9223372036854775808:=by
 rw [show (9223372036854775808:Nat)=2 ^ 63 from by decide]
 apply Nat.eq_of_testBit_eq
 intro i;rw [Nat.testBit_mod_two_pow,Nat.testBit_mod_two_pow,Nat.testBit_xor,Nat.testBit_two_pow]
 by_cases h:i < 63
 · have:¬63=i:=by omega
   simp [h,this]
 · simp [h]
theorem fnan_neg (x:Nat):fnan (Op.negFloat .f64 x)=fnan x:=by
 rw [←fnan_fsize,←fnan_fsize x];exact congrArg fnan (xor_mod x)
theorem fc_neg (x:Nat):fc (Op.negFloat .f64 x)=fneg (fc x):=by
 unfold fneg;cases h:fnan x
 · rw [zCw h]
 · rw [zCx h,zCx ((fnan_neg x).trans h),zCx ((fnan_neg qnan).trans fnan_qnan)]
def fin6 (z:Cx):Cx × Int:=if cfin z=true then (z,0) else ((fc 0,fc 0),6)
def fone:Nat:=fc 4607182418800017408
def admB (e:El) (o:Nat):Cx × Int:=
 if (e.kind==1 || e.kind==8)=true then fin6 (fdiv fone (fc e.val),fc 0) else
 if (e.kind==2)=true then (if ffin (fmul (fc o) (fc e.val))=true then fin6 (fc 0,fneg (fdiv fone (fmul (fc o) (fc e.val)))) else ((fc 0,fc 0),6)) else
 fin6 (fc 0,fmul (fc o) (fc e.val))
def isAd (e:El):Bool:=e.kind==1 || e.kind==8 || e.kind==2 || e.kind==3
def mayE (e:El) (o:Nat):Int:=if angE o=0 then (if zBc e=0 then (if isAd e=true then 0 else 2) else zBc e) else angE o
def admS (e:El) (o:Nat):Cx × Int:=if mayE e o=0 then admB e o else ((fc 0,fc 0),mayE e o)
theorem ang_5 {o:Nat} (h:ffin (fc o)=false):angE o=5:=by unfold angE;rw [if_neg (by rw [h];decide)]
theorem ang_2 {o:Nat} (h:ffin (fc o)=true) (h2:(FloatKind.f64.format.order o 0==some .gt)=false):angE o=2:=by unfold angE;rw [if_pos h,if_neg (by rw [h2];decide)]
theorem ang_0 {o:Nat} (h:ffin (fc o)=true) (h2:(FloatKind.f64.format.order o 0==some .gt)=true):angE o=0:=by unfold angE;rw [if_pos h,if_pos h2]
theorem zEb {r x:Nat} {b:Bool} (hr:fc r=fop .sub (fc x) (fc x)) (h:ffin (fc x)=b):(FloatKind.f64.format.order r 0 !=some .eq)=!b:=by unfold bne;rw [ffin_of hr,h]
theorem tang_any (o:Nat) (w:World):
 Calls Tryz.prog 182 #[.float .f64 o] w (Ret (fun v=> v=.int .i64 (angE o)) w):=by
 cases hf:ffin (fc o)
 · have HF:=hid hf;go_enter Tryz.func182,Tryz.ntmps182;go_wp2_with (refine zAp rfl _ _ _ _ _ rfl rfl _ _ rfl rfl ?_;intro r n hr;have hq:=zEb hr HF.out;simp only [Bool.not_false] at hq;clear hr)
   (try rw [Exit.noGoto_ret])
   go_ret;exact ⟨_,_,rfl,rfl,by rw [ang_5 HF.out];rfl⟩
 · have HF:=hid hf;cases hg:(FloatKind.f64.format.order o 0==some .gt)
   · have HG:=hid hg;go_enter Tryz.func182,Tryz.ntmps182;go_wp2_with (refine zAp rfl _ _ _ _ _ rfl rfl _ _ rfl rfl ?_;intro r n hr;have hq:=zEb hr HF.out;simp only [Bool.not_true] at hq;clear hr)
     (try rw [Exit.noGoto_ret])
     go_ret;exact ⟨_,_,rfl,rfl,by rw [ang_2 HF.out HG.out];rfl⟩
   · have HG:=hid hg;go_enter Tryz.func182,Tryz.ntmps182;go_wp2_with (refine zAp rfl _ _ _ _ _ rfl rfl _ _ rfl rfl ?_;intro r n hr;have hq:=zEb hr HF.out;simp only [Bool.not_true] at hq;clear hr)
     (try rw [Exit.noGoto_ret])
     go_ret;exact ⟨_,_,rfl,rfl,by rw [ang_0 HF.out HG.out];rfl⟩
theorem zHd (o:Nat) (w:World):
 Calls Tryz.prog 30 #[.float .f64 o] w (Ret (fun v=> v=.int .i64 (angE o)) w):=by
 cases hf:ffin (fc o)
 · have HF:=hid hf;go_enter Tryz.func30,Tryz.ntmps30;go_wp2_with (go_at_call 80;refine (zCq _ _).mono ?_;rintro e w' ⟨v,n,rfl,rfl,rfl⟩;rw [HF.out])
   (try rw [Exit.noGoto_ret])
   go_ret;exact ⟨_,_,rfl,rfl,by rw [ang_5 HF.out];rfl⟩
 · have HF:=hid hf;cases hg:(FloatKind.f64.format.order o 0==some .gt)
   · have HG:=hid hg;go_enter Tryz.func30,Tryz.ntmps30;go_wp2_with (go_at_call 80;refine (zCq _ _).mono ?_;rintro e w' ⟨v,n,rfl,rfl,rfl⟩;rw [HF.out])
     (try rw [Exit.noGoto_ret])
     go_ret;exact ⟨_,_,rfl,rfl,by rw [ang_2 HF.out HG.out];rfl⟩
   · have HG:=hid hg;go_enter Tryz.func30,Tryz.ntmps30;go_wp2_with (go_at_call 80;refine (zCq _ _).mono ?_;rintro e w' ⟨v,n,rfl,rfl,rfl⟩;rw [HF.out])
     (try rw [Exit.noGoto_ret])
     go_ret;exact ⟨_,_,rfl,rfl,by rw [ang_0 HF.out HG.out];rfl⟩
theorem ad_ways (e:El):((e.kind==1)=true∧(e.kind !=1)=false)∨
 ((e.kind==1)=false∧(e.kind !=1)=true∧(e.kind==8)=true∧(e.kind !=8)=false)∨
 ((e.kind==1)=false∧(e.kind !=1)=true∧(e.kind==8)=false∧(e.kind !=8)=true∧(e.kind==2)=true∧(e.kind !=2)=false∧(e.kind==3)=false∧(e.kind !=3)=true)∨
 ((e.kind==1)=false∧(e.kind !=1)=true∧(e.kind==8)=false∧(e.kind !=8)=true∧(e.kind==2)=false∧(e.kind !=2)=true∧(e.kind==3)=true∧(e.kind !=3)=false)∨
 ((e.kind==1)=false∧(e.kind !=1)=true∧(e.kind==8)=false∧(e.kind !=8)=true∧(e.kind==2)=false∧(e.kind !=2)=true∧(e.kind==3)=false∧(e.kind !=3)=true):=by
 unfold bne
 by_cases h2:e.kind=2
 · rw [h2];decide
 · have:(e.kind==2)=false:=by simpa using h2
   rw [this];cases (e.kind==1) <;> cases (e.kind==8) <;> cases (e.kind==3) <;> simp
theorem may_ang {e:El} {o:Nat} (h:¬angE o=0):mayE e o=angE o:=by unfold mayE;rw [if_neg h]
theorem may_chk {e:El} {o:Nat} (h:angE o=0) (h2:¬zBc e=0):mayE e o=zBc e:=by unfold mayE;rw [if_pos h,if_neg h2]
theorem may_no {e:El} {o:Nat} (h:angE o=0) (h2:zBc e=0) (h3:isAd e=false):mayE e o=2:=by unfold mayE;rw [if_pos h,if_pos h2,if_neg (by rw [h3];decide)]
theorem zEx {e:El} {o:Nat} (h:angE o=0) (h2:zBc e=0) (h3:isAd e=true):mayE e o=0:=by unfold mayE;rw [if_pos h,if_pos h2,if_pos h3]
theorem adm_bad {e:El} {o:Nat} {k:Int} (h:mayE e o=k) (hk:¬k=0):admS e o=((fc 0,fc 0),k):=by unfold admS;rw [if_neg (by rw [h];exact hk),h]
theorem zFc {e:El} {o:Nat} (h:mayE e o=0):admS e o=admB e o:=by unfold admS;rw [if_pos h]
theorem fin6_yes {z:Cx} (h:cfin z=true):fin6 z=(z,0):=by unfold fin6;rw [if_pos h]
theorem fin6_no {z:Cx} (h:cfin z=false):fin6 z=((fc 0,fc 0),6):=by unfold fin6;rw [if_neg (by rw [h];decide)]
theorem fin_zero:ffin (fc 0)=true:=by decide+kernel
def toldS (b:Bool) (x:Nat) (ok:Bool):Cx × Int:=if (ok && ffin x)=true then ((if b=true then (fc 0,x) else (x,fc 0)),0) else ((fc 0,fc 0),6)
theorem told_none (b:Bool) (x:Nat) (w:World):
 Calls Tryz.prog 193 #[.bool b,.float .f64 x,.slice none 0 0] w (Ret (IsCE (toldS b (fc x) true)) w):=by
 cases hf:ffin (fc x)
 · have HF:=hid hf;go_enter Tryz.func193,Tryz.ntmps193;go_upto_region 2 with fail
   go_loopw [8] (fun i wr=> i=.int .i64 0∧wr=w) (fun _ _=> 0)
   case atStart=> exact ⟨rfl,rfl⟩
   case round=>
    obtain ⟨rfl,rfl⟩:=hrel;go_wp2_with (go_at_call 80;refine (zCq _ _).mono ?_;rintro e w' ⟨v,n,rfl,rfl,rfl⟩;rw [HF.out])
    (try rw [Exit.noGoto_ret])
    refine bodyPost_ret (v:=.tuple #[.complex .f64 0 0,.int .i64 6]) ?_ rfl ⟨_,_,rfl,rfl,_,_,_,rfl,by unfold toldS;rw [if_neg (by rw [HF.out];decide)]⟩;rw [results_tmp2 rfl];rfl
 · have HF:=hid hf;cases b
   · go_enter Tryz.func193,Tryz.ntmps193;go_upto_region 2 with fail
     go_loopw [8] (fun i wr=> i=.int .i64 0∧wr=w) (fun _ _=> 0)
     case atStart=> exact ⟨rfl,rfl⟩
     case round=>
      obtain ⟨rfl,rfl⟩:=hrel;go_wp2_with (go_at_call 80;refine (zCq _ _).mono ?_;rintro e w' ⟨v,n,rfl,rfl,rfl⟩;rw [HF.out])
      (try rw [Exit.noGoto_ret])
      refine bodyPost_ret (v:=.tuple #[.complex .f64 x 0,.int .i64 0]) ?_ rfl ⟨_,_,rfl,rfl,_,_,_,rfl,by unfold toldS;rw [if_pos (by rw [HF.out];decide)];rfl⟩;rw [results_tmp2 rfl];rfl
   · go_enter Tryz.func193,Tryz.ntmps193;go_upto_region 2 with fail
     go_loopw [8] (fun i wr=> i=.int .i64 0∧wr=w) (fun _ _=> 0)
     case atStart=> exact ⟨rfl,rfl⟩
     case round=>
      obtain ⟨rfl,rfl⟩:=hrel;go_wp2_with (go_at_call 80;refine (zCq _ _).mono ?_;rintro e w' ⟨v,n,rfl,rfl,rfl⟩;rw [HF.out])
      (try rw [Exit.noGoto_ret])
      refine bodyPost_ret (v:=.tuple #[.complex .f64 0 x,.int .i64 0]) ?_ rfl ⟨_,_,rfl,rfl,_,_,_,rfl,by unfold toldS;rw [if_pos (by rw [HF.out];decide)];rfl⟩;rw [results_tmp2 rfl];rfl
theorem told_one (x y g:Nat) (w:World) (hy:w.cell? ⟨g,0,none⟩=some (.float .f64 y)):
 Calls Tryz.prog 193 #[.bool true,.float .f64 x,.slice (some ⟨g,0,none⟩) 1 1] w (Ret (IsCE (toldS true (fc x) (ffin (fc y)))) w):=by
 cases hy2:ffin (fc y)
 · have HY:=hid hy2;go_enter Tryz.func193,Tryz.ntmps193;go_upto_region 2 with fail
   go_loopw [8] (fun i wr=> i=.int .i64 0∧wr=w) (fun _ _=> 0)
   case atStart=> exact ⟨rfl,rfl⟩
   case round=>
    obtain ⟨rfl,rfl⟩:=hrel;go_wp2_with (go_at_call 80;refine (zCq _ _).mono ?_;rintro e w' ⟨v,n,rfl,rfl,rfl⟩;rw [HY.out])
    (try rw [Exit.noGoto_ret])
    refine bodyPost_ret (v:=.tuple #[.complex .f64 0 0,.int .i64 6]) ?_ rfl ⟨_,_,rfl,rfl,_,_,_,rfl,by unfold toldS;rw [if_neg (by simp)]⟩;rw [results_tmp2 rfl];rfl
 · have HY:=hid hy2;cases hf:ffin (fc x)
   · have HF:=hid hf;go_enter Tryz.func193,Tryz.ntmps193;go_upto_region 2 with fail
     go_loopw [8] (fun i wr=> ∃ (k n:Nat),k≤1∧i=.int .i64 k∧wr=w.drewN n) (fun i _=> 1 - (intOf i).toNat)
     case atStart=> exact ⟨0,0,by omega,rfl,rfl⟩
     case round=>
      obtain ⟨k,n,hk,rfl,rfl⟩:=hrel;have hk2:k=0∨k=1:=by omega
      rcases hk2 with rfl | rfl
      · go_wp2_with (go_at_call 80;refine (zCq _ _).mono ?_;rintro e w' ⟨v,n2,rfl,rfl,rfl⟩;rw [HY.out]);go_roundw
        case rel=> exact ⟨1,n+n2,by omega,rfl,by simp⟩
        case measure=> simp [intOf]
      · go_wp2_with (go_at_call 80;refine (zCq _ _).mono ?_;rintro e w' ⟨v,n2,rfl,rfl,rfl⟩;rw [HF.out])
        (try rw [Exit.noGoto_ret])
        refine bodyPost_ret (v:=.tuple #[.complex .f64 0 0,.int .i64 6]) ?_ rfl ⟨_,_,rfl,rfl,_,_,_,rfl,by unfold toldS;rw [if_neg (by rw [HF.out];decide)]⟩;rw [results_tmp2 rfl];rfl
   · have HF:=hid hf;go_enter Tryz.func193,Tryz.ntmps193;go_upto_region 2 with fail
     go_loopw [8] (fun i wr=> ∃ (k n:Nat),k≤1∧i=.int .i64 k∧wr=w.drewN n) (fun i _=> 1 - (intOf i).toNat)
     case atStart=> exact ⟨0,0,by omega,rfl,rfl⟩
     case round=>
      obtain ⟨k,n,hk,rfl,rfl⟩:=hrel;have hk2:k=0∨k=1:=by omega
      rcases hk2 with rfl | rfl
      · go_wp2_with (go_at_call 80;refine (zCq _ _).mono ?_;rintro e w' ⟨v,n2,rfl,rfl,rfl⟩;rw [HY.out]);go_roundw
        case rel=> exact ⟨1,n+n2,by omega,rfl,by simp⟩
        case measure=> simp [intOf]
      · go_wp2_with (go_at_call 80;refine (zCq _ _).mono ?_;rintro e w' ⟨v,n2,rfl,rfl,rfl⟩;rw [HF.out])
        (try rw [Exit.noGoto_ret])
        refine bodyPost_ret (v:=.tuple #[.complex .f64 0 x,.int .i64 0]) ?_ rfl ⟨_,_,rfl,rfl,_,_,_,rfl,by unfold toldS;rw [if_pos (by rw [HF.out];decide)];rfl⟩;rw [results_tmp2 rfl];rfl
end
end Go.Proofs.YtejooaeppcjhjaaGreat
