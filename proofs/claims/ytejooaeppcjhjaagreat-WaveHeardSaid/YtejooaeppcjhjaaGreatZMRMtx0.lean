/- a part of the proof of the last text -/
import Derived.Test.YtejooaeppcjhjaaGreatZMSheet
import Derived.Laws.EntriesVeiled
import Derived.Laws.MakeOwn
namespace Go.Proofs.YtejooaeppcjhjaaGreat
set_option linter.all false
set_option maxHeartbeats 4000000
set_option maxRecDepth 100000
section
open Go.RowKit
theorem splace_any (q:Value) (l:List El) (t:ByteArray) (w:World) (hq:RN w q l) (hl:l.length≤100000):
 Calls Tryz.prog 142 #[q,.string t] w (RetI (rowI l t) w):=by
 by_cases hh:has (nds l) t=true
 · have HR:=hid (show rowI l t=plI (nds l) t by unfold rowI;rw [if_pos hh]);go_enter Tryz.func142,Tryz.ntmps142;go_wp2_with (go_at_call 32;refine (zEv _ l t _ hq hl).mono ?_;rintro e w1 ⟨rfl,hb⟩;rw [hh])
   (try rw [Exit.noGoto_ret])
   go_ret;exact ⟨by rw [HR.out];rfl,hb⟩
 · have HR:=hid (show rowI l t=-1 by unfold rowI;rw [if_neg hh]);have hf:has (nds l) t=false:=by simpa using hh
   clear hh;go_enter Tryz.func142,Tryz.ntmps142;go_wp2_with (go_at_call 32;refine (zEv _ l t _ hq hl).mono ?_;rintro e w1 ⟨rfl,hb⟩;rw [hf])
   (try rw [Exit.noGoto_ret])
   go_ret;exact ⟨by rw [HR.out];rfl,hb⟩
theorem zBq {h n c k:Nat} (hk:k < n) (w':World):(Instr.indexAt 70 (.slice (some ⟨h,0,none⟩) n c) (.int .i64 k)).run Tryz.prog w'=.ok (.pointer (some ⟨h,k,none⟩)) w':=by
 obtain ⟨i0,hi,hz0,hz1,hz2⟩:=info_parts zEm;have he:Tryz.prog.elem 70 =49 :=by have:=Tryz.underlying70;simp [Program.elem,this]
 rw [run_indexAt_slice w' 70 _ n c .i64 k (by rw [he];exact Tryz.underlying70),if_pos ⟨by omega,by omega⟩,he]
 simp [sizeOf,typeInfo,hi,hz1,Result.andThen,Addr.add]
 try (intro h;exact h.symm)
theorem zCt (g h n:Nat) (s:StS) (i j:Int) (a b:Nat) (w:World) (H:zDx w g h n s) (hn:n≤64) (hi:i < n) (hj:j < n):
 Calls Tryz.prog 145 #[.pointer (some ⟨g,0,none⟩),.int .i64 i,.int .i64 j,.complex .f64 a b] w (RetSh g h n (st1 n s ⟨false,i,j,(fc a,fc b)⟩) w):=by
 by_cases hi0:i < 0
 · have HH:=hid H;clear H;go_enter Tryz.func145,Tryz.ntmps145;go_wp2
   (try rw [Exit.noGoto_ret])
   go_end0
   exact ⟨rfl,by rw [st1_no (.inl hi0)];exact HH.out,Grown2.of_below (Below.refl _ _)⟩
 by_cases hj0:j < 0
 · have HH:=hid H;clear H;go_enter Tryz.func145,Tryz.ntmps145;go_wp2
   (try rw [Exit.noGoto_ret])
   go_end0
   exact ⟨rfl,by rw [st1_no (.inr hj0)];exact HH.out,Grown2.of_below (Below.refl _ _)⟩
 rw [st1_yes (show¬(i < 0∨j < 0) by omega)];obtain ⟨i,rfl⟩:=Int.eq_ofNat_of_zero_le (show 0≤i by omega);obtain ⟨j,rfl⟩:=Int.eq_ofNat_of_zero_le (show 0≤j by omega);have hk:i * n+j < n * n:=by
  have h2:(i+1) * n≤n * n:=Nat.mul_le_mul_right n (by omega);rw [Nat.succ_mul] at h2
  omega
 have hnn:n * n≤4096:=Nat.mul_le_mul hn hn;have hidx:(((i:Nat):Int) * (n:Int)+((j:Nat):Int)).toNat=i * n+j:=by
  rw [show (i:Int) * (n:Int)=((i * n:Nat):Int) by simp];omega
 have HIDX:=hid hidx;obtain ⟨q,hq⟩:∃q,i * n=q:=⟨_,rfl⟩;obtain ⟨k,hkk⟩:∃k,q+j=k:=⟨_,rfl⟩;rw [hq,hkk] at hk;have hw1:IntKind.i64.wrap ((i:Int) * (n:Int))=(q:Int):=by
  rw [show (i:Int) * (n:Int)=((i * n:Nat):Int) by simp,hq];rw [IntWalk.i64_in _ ⟨by omega,by omega⟩]
 have hw2:IntKind.i64.wrap ((q:Int)+(j:Int))=(k:Int):=by
  rw [IntWalk.i64_in _ ⟨by omega,by omega⟩];omega
 rw [hq,hkk] at HIDX;have hat:∀w',(Instr.indexAt 70 (.slice (some ⟨h,0,none⟩) (n * n) (n * n)) (.int .i64 k)).run Tryz.prog w'=.ok (.pointer (some ⟨h,k,none⟩)) w':=fun w'=> zBq hk w'
 clear hidx hq hkk;obtain ⟨M,hM⟩:=H;have HM:=hid hM;have HK:=hid hk;have c1:=HM.out.c0;clear hM hk hnn;go_enter Tryz.func145,Tryz.ntmps145;go_upto_region 2 with fail;clear c1;have HZE:=hid (HM.out.num k HK.out);have HZC:=hid (zBy (k:=k) (M:=M) (by rw [HM.out.len];exact HK.out));generalize M.getD k (0,0)=z at *;obtain ⟨z1,z2⟩:=z;refine wp_region_any (by kernel_rfl) ?_;change wpAny _ _ _ _ _ _ _ (World.drew _);refine zAy [⟨some 23,0, []⟩,⟨some 24,1, []⟩,⟨some 25,2, []⟩,⟨some 26,3, []⟩,⟨some 27,4, []⟩,⟨some 28,5, []⟩,⟨some 29,6, []⟩,⟨some 30,7, []⟩,⟨some 31,8, []⟩,⟨some 32,9, []⟩,⟨some 33,10, []⟩,⟨some 34,11, []⟩,⟨some 35,12, []⟩,⟨some 36,13, []⟩]
  (fun w'=> SheetM w' g h n s.1 s.2 M)
  (fun oq v _ _ _ _=> match oq with | 0=> v=.pointer (some ⟨g,0,none⟩) | 1=> v=.pointer (some ⟨g,0,none⟩) | 2=> v=.pointer (some ⟨g,1,none⟩) | 3=> v=.slice (some ⟨h,0,none⟩) (n * n) (n * n) | 4=> v=.int .i64 k | 5=> v=.pointer (some ⟨g,0,none⟩) | 6=> v=.pointer (some ⟨g,0,none⟩) | 7=> v=.pointer (some ⟨g,1,none⟩) | 8=> v=.slice (some ⟨h,0,none⟩) (n * n) (n * n) | 9=> v=.int .i64 k | 10=> v=.pointer (some ⟨h,k,none⟩) | 11=> v=.complex .f64 z1 z2 | 12=> v=.complex .f64 a b | 13=> ∃r1 r2,v=Value.complex .f64 r1 r2∧ck (r1,r2)=cadd (fc z1,fc z2) (fc a,fc b) | _=> True) (by kernel_rfl) ?hS (fun _ _ hb h=> h.below hb) (fun _ _ _ _ _ _ _ _ _ h=> h) ?hop ?hend
 case hS=> exact HM.out.below (Below.refl _ _).drew
 case hop=>
  delta Owed
  simp only [zBg,Act.put,List.setIfInBounds_toArray,lz,ls];refine Each.cons rfl ?_ (Each.cons rfl ?_ (Each.cons rfl ?_ (Each.cons rfl ?_ (Each.cons rfl ?_ (Each.cons rfl ?_ (Each.cons rfl ?_ (Each.cons rfl ?_ (Each.cons rfl ?_ (Each.cons rfl ?_ (Each.cons rfl ?_ (Each.cons rfl ?_ (Each.cons rfl ?_ (Each.cons rfl ?_ Each.nil)))))))))))))
  all_goals intro vs w2 hb2 hS2 hR2 K hK;try simp only [lz,ls] at hK⊢
  · go_simp;exact shP hK
  · have h0:vs 0=_:=exR (hR2 0 (by kernel_rfl)) (fun _ _ h=> h);simp only [h0] at hK⊢;go_simp;exact shP hK
  · have h1:vs 1=_:=exR (hR2 1 (by kernel_rfl)) (fun _ _ h=> h);simp only [h1] at hK⊢;go_simp;exact shP hK
  · have h2:vs 2=_:=exR (hR2 2 (by kernel_rfl)) (fun _ _ h=> h);have k1:=hS2.c1;have kz:=(zAa hS2.row).1 k _ HZC.out;simp only [h2] at hK⊢;go_simp;exact shP hK
  · go_simp;exact shP hK
  · go_simp;exact shP hK
  · have h5:vs 5=_:=exR (hR2 5 (by kernel_rfl)) (fun _ _ h=> h);simp only [h5] at hK⊢;go_simp;exact shP hK
  · have h6:vs 6=_:=exR (hR2 6 (by kernel_rfl)) (fun _ _ h=> h);simp only [h6] at hK⊢;go_simp;exact shP hK
  · have h7:vs 7=_:=exR (hR2 7 (by kernel_rfl)) (fun _ _ h=> h);have k1:=hS2.c1;have kz:=(zAa hS2.row).1 k _ HZC.out;simp only [h7] at hK⊢;go_simp;exact shP hK
  · go_simp;exact shP hK
  · have h8:vs 8=_:=exR (hR2 8 (by kernel_rfl)) (fun _ _ h=> h);have h9:vs 9=_:=exR (hR2 9 (by kernel_rfl)) (fun _ _ h=> h);have k1:=hS2.c1;have kz:=(zAa hS2.row).1 k _ HZC.out;simp only [h8,h9] at hK⊢;go_simp;exact shP hK
  · have h10:vs 10=_:=exR (hR2 10 (by kernel_rfl)) (fun _ _ h=> h);have k1:=hS2.c1;have kz:=(zAa hS2.row).1 k _ HZC.out;simp only [h10] at hK⊢;go_simp;exact shP hK
  · go_simp;exact shP hK
  · have h11:vs 11=_:=exR (hR2 11 (by kernel_rfl)) (fun _ _ h=> h);have h12:vs 12=_:=exR (hR2 12 (by kernel_rfl)) (fun _ _ h=> h);simp only [h11,h12] at hK⊢;rw [if_pos (by rfl)];go_wp2_with (go_at_call 167;refine (radd_any z1 z2 a b _).mono ?_;rintro e w3 ⟨v,nn,rfl,he,r1,r2,rfl,hzz⟩;subst he);exact hK.out _ _ (zAg (Below.refl _ _) nn) ⟨r1,r2,rfl,hzz⟩
 case hend=>
  intro vs wx lo hiv hbx hSx hRx hdx;have h0:vs 0=_:=(hRx 0 (by kernel_rfl)).1;have h1:vs 1=_:=(hRx 1 (by kernel_rfl)).1;have h2:vs 2=_:=(hRx 2 (by kernel_rfl)).1;have h3:vs 3=_:=(hRx 3 (by kernel_rfl)).1;have h4:vs 4=_:=(hRx 4 (by kernel_rfl)).1;have h5:vs 5=_:=(hRx 5 (by kernel_rfl)).1;have h6:vs 6=_:=(hRx 6 (by kernel_rfl)).1;have h7:vs 7=_:=(hRx 7 (by kernel_rfl)).1;have h8:vs 8=_:=(hRx 8 (by kernel_rfl)).1;have h9:vs 9=_:=(hRx 9 (by kernel_rfl)).1;have h10:vs 10=_:=(hRx 10 (by kernel_rfl)).1;have h11:vs 11=_:=(hRx 11 (by kernel_rfl)).1;have h12:vs 12=_:=(hRx 12 (by kernel_rfl)).1;have H13:=(hRx 13 (by kernel_rfl)).1;obtain ⟨r1,r2,h13,hz13⟩:=H13;simp only [zBg,Act.put,List.setIfInBounds_toArray,lz,ls,h0,h1,h2,h3,h4,h5,h6,h7,h8,h9,h10,h11,h12,h13];have HZZ:=hid hz13;have HD:=hid (HM.out.below (zAq hbx));have HB:=hid (zAq hbx);clear hz13 hbx hRx hdx hSx;refine zAt (i:=14) (by kernel_rfl) rfl (fun K hK=> ?_);go_simp;refine hK.out _ _ ?_;clear hK;have fz:=(zAa HD.out.row).2 k;have cz:=(zAa HD.out.row).1 k _ HZC.out;refine zAt (i:=15) (by kernel_rfl) rfl (fun K hK=> ?_);go_simp;refine hK.out _ _ ?_;clear hK fz cz;have HD3:Hid (SheetM (wx.setCell ⟨h,k,none⟩ (.complex .f64 r1 r2)) g h n (upd s.1 k (ck (r1,r2))) s.2 (M.set k (r1,r2))):=hid (HD.out.put HK.out (r1,r2));have HG3:=hid ((Grown2.of_below (g:=g) (h:=h) HB.out).trans (Grown2.right (g:=g) (zCh wx h k (.complex .f64 r1 r2))));clear HD HB;have HST:=hid (show stZ n s.1 ⟨false,(i:Int),(j:Int),(fc a,fc b)⟩=ck (r1,r2) by
   unfold stZ;simp only [HIDX.out,Bool.false_eq_true,if_false];rw [←HZE.out];exact HZZ.out.symm)
  generalize wx.setCell ⟨h,k,none⟩ (.complex .f64 r1 r2)=w3 at *;refine wpAny_done (by kernel_rfl) ?_ _;have c1:=HD3.out.c1;have c2:=HD3.out.c2;have f2:=(zAa HD3.out.box).2 2;have z3:w3.cell? ⟨h,k,none⟩=some (.complex .f64 r1 r2):=by
   have h1:=(zAa HD3.out.row).1 k _ (zBy (by rw [HD3.out.len];exact HK.out));rw [List.getD_eq_getElem?_getD,List.getElem?_set_self (by have:=HD3.out.len;rw [List.length_set] at this;rw [this];exact HK.out)] at h1;exact h1
  rcases hov:s.2 with _ | _
  · rw [hov] at c2;go_wp2_with (go_at_call 35;refine (zBp r1 r2 _).mono ?_;rintro e w4 ⟨v,nn4,rfl,he,rfl⟩;have hb4:Below w3.heap.size w3 w4:=(by rw [he];exact zAg (Below.refl _ _) nn4);have HD5:=hid (HD3.out.below hb4);have HG5:=hid (HG3.out.trans (Grown2.of_below hb4));have f4:=(zAa HD5.out.box).2 2;have c4:=HD5.out.c2;clear HD3 HG3 he hb4 c1 c2 f2 z3)
    (try rw [Exit.noGoto_ret])
    go_end0
    refine ⟨rfl,⟨M.set k (r1,r2),?_⟩,HG5.out.trans (Grown2.left (zCh _ _ _ _))⟩;rw [HST.out,HIDX.out]
    (try rw [hov,Bool.false_or])
    exact HD5.out.mark _
  · rw [hov] at c2;go_wp2
    (try rw [Exit.noGoto_ret])
    go_end0
    refine ⟨rfl,⟨M.set k (r1,r2),?_⟩,HG3.out.trans (Grown2.left (zCh _ _ _ _))⟩;rw [HST.out,HIDX.out]
    (try rw [hov,Bool.true_or])
    exact HD3.out.mark _
theorem zCs (g h n:Nat) (s:StS) (i j:Int) (a b:Nat) (w:World) (H:zDx w g h n s) (hn:n≤64) (hi:i < n) (hj:j < n):
 Calls Tryz.prog 146 #[.pointer (some ⟨g,0,none⟩),.int .i64 i,.int .i64 j,.complex .f64 a b] w (RetSh g h n (st1 n s ⟨true,i,j,(fc a,fc b)⟩) w):=by
 by_cases hi0:i < 0
 · have HH:=hid H;clear H;go_enter Tryz.func146,Tryz.ntmps146;go_wp2
   (try rw [Exit.noGoto_ret])
   go_end0
   exact ⟨rfl,by rw [st1_no (.inl hi0)];exact HH.out,Grown2.of_below (Below.refl _ _)⟩
 by_cases hj0:j < 0
 · have HH:=hid H;clear H;go_enter Tryz.func146,Tryz.ntmps146;go_wp2
   (try rw [Exit.noGoto_ret])
   go_end0
   exact ⟨rfl,by rw [st1_no (.inr hj0)];exact HH.out,Grown2.of_below (Below.refl _ _)⟩
 rw [st1_yes (show¬(i < 0∨j < 0) by omega)];obtain ⟨i,rfl⟩:=Int.eq_ofNat_of_zero_le (show 0≤i by omega);obtain ⟨j,rfl⟩:=Int.eq_ofNat_of_zero_le (show 0≤j by omega);have hk:i * n+j < n * n:=by
  have h2:(i+1) * n≤n * n:=Nat.mul_le_mul_right n (by omega);rw [Nat.succ_mul] at h2
  omega
 have hnn:n * n≤4096:=Nat.mul_le_mul hn hn;have hidx:(((i:Nat):Int) * (n:Int)+((j:Nat):Int)).toNat=i * n+j:=by
  rw [show (i:Int) * (n:Int)=((i * n:Nat):Int) by simp];omega
 have HIDX:=hid hidx;obtain ⟨q,hq⟩:∃q,i * n=q:=⟨_,rfl⟩;obtain ⟨k,hkk⟩:∃k,q+j=k:=⟨_,rfl⟩;rw [hq,hkk] at hk;have hw1:IntKind.i64.wrap ((i:Int) * (n:Int))=(q:Int):=by
  rw [show (i:Int) * (n:Int)=((i * n:Nat):Int) by simp,hq];rw [IntWalk.i64_in _ ⟨by omega,by omega⟩]
 have hw2:IntKind.i64.wrap ((q:Int)+(j:Int))=(k:Int):=by
  rw [IntWalk.i64_in _ ⟨by omega,by omega⟩];omega
 rw [hq,hkk] at HIDX;have hat:∀w',(Instr.indexAt 70 (.slice (some ⟨h,0,none⟩) (n * n) (n * n)) (.int .i64 k)).run Tryz.prog w'=.ok (.pointer (some ⟨h,k,none⟩)) w':=fun w'=> zBq hk w'
 clear hidx hq hkk;obtain ⟨M,hM⟩:=H;have HM:=hid hM;have HK:=hid hk;have c1:=HM.out.c0;clear hM hk hnn;go_enter Tryz.func146,Tryz.ntmps146;go_upto_region 2 with fail;clear c1;have HZE:=hid (HM.out.num k HK.out);have HZC:=hid (zBy (k:=k) (M:=M) (by rw [HM.out.len];exact HK.out));generalize M.getD k (0,0)=z at *;obtain ⟨z1,z2⟩:=z;refine wp_region_any (by kernel_rfl) ?_;change wpAny _ _ _ _ _ _ _ (World.drew _);refine zAy [⟨some 23,0, []⟩,⟨some 24,1, []⟩,⟨some 25,2, []⟩,⟨some 26,3, []⟩,⟨some 27,4, []⟩,⟨some 28,5, []⟩,⟨some 29,6, []⟩,⟨some 30,7, []⟩,⟨some 31,8, []⟩,⟨some 32,9, []⟩,⟨some 33,10, []⟩,⟨some 34,11, []⟩,⟨some 35,12, []⟩,⟨some 36,13, []⟩]
  (fun w'=> SheetM w' g h n s.1 s.2 M)
  (fun oq v _ _ _ _=> match oq with | 0=> v=.pointer (some ⟨g,0,none⟩) | 1=> v=.pointer (some ⟨g,0,none⟩) | 2=> v=.pointer (some ⟨g,1,none⟩) | 3=> v=.slice (some ⟨h,0,none⟩) (n * n) (n * n) | 4=> v=.int .i64 k | 5=> v=.pointer (some ⟨g,0,none⟩) | 6=> v=.pointer (some ⟨g,0,none⟩) | 7=> v=.pointer (some ⟨g,1,none⟩) | 8=> v=.slice (some ⟨h,0,none⟩) (n * n) (n * n) | 9=> v=.int .i64 k | 10=> v=.pointer (some ⟨h,k,none⟩) | 11=> v=.complex .f64 z1 z2 | 12=> v=.complex .f64 a b | 13=> ∃r1 r2,v=Value.complex .f64 r1 r2∧ck (r1,r2)=csub (fc z1,fc z2) (fc a,fc b) | _=> True) (by kernel_rfl) ?hS (fun _ _ hb h=> h.below hb) (fun _ _ _ _ _ _ _ _ _ h=> h) ?hop ?hend
 case hS=> exact HM.out.below (Below.refl _ _).drew
 case hop=>
  delta Owed
  simp only [zBg,Act.put,List.setIfInBounds_toArray,lz,ls];refine Each.cons rfl ?_ (Each.cons rfl ?_ (Each.cons rfl ?_ (Each.cons rfl ?_ (Each.cons rfl ?_ (Each.cons rfl ?_ (Each.cons rfl ?_ (Each.cons rfl ?_ (Each.cons rfl ?_ (Each.cons rfl ?_ (Each.cons rfl ?_ (Each.cons rfl ?_ (Each.cons rfl ?_ (Each.cons rfl ?_ Each.nil)))))))))))))
  all_goals intro vs w2 hb2 hS2 hR2 K hK;try simp only [lz,ls] at hK⊢
  · go_simp;exact shP hK
  · have h0:vs 0=_:=exR (hR2 0 (by kernel_rfl)) (fun _ _ h=> h);simp only [h0] at hK⊢;go_simp;exact shP hK
  · have h1:vs 1=_:=exR (hR2 1 (by kernel_rfl)) (fun _ _ h=> h);simp only [h1] at hK⊢;go_simp;exact shP hK
  · have h2:vs 2=_:=exR (hR2 2 (by kernel_rfl)) (fun _ _ h=> h);have k1:=hS2.c1;have kz:=(zAa hS2.row).1 k _ HZC.out;simp only [h2] at hK⊢;go_simp;exact shP hK
  · go_simp;exact shP hK
  · go_simp;exact shP hK
  · have h5:vs 5=_:=exR (hR2 5 (by kernel_rfl)) (fun _ _ h=> h);simp only [h5] at hK⊢;go_simp;exact shP hK
  · have h6:vs 6=_:=exR (hR2 6 (by kernel_rfl)) (fun _ _ h=> h);simp only [h6] at hK⊢;go_simp;exact shP hK
  · have h7:vs 7=_:=exR (hR2 7 (by kernel_rfl)) (fun _ _ h=> h);have k1:=hS2.c1;have kz:=(zAa hS2.row).1 k _ HZC.out;simp only [h7] at hK⊢;go_simp;exact shP hK
  · go_simp;exact shP hK
  · have h8:vs 8=_:=exR (hR2 8 (by kernel_rfl)) (fun _ _ h=> h);have h9:vs 9=_:=exR (hR2 9 (by kernel_rfl)) (fun _ _ h=> h);have k1:=hS2.c1;have kz:=(zAa hS2.row).1 k _ HZC.out;simp only [h8,h9] at hK⊢;go_simp;exact shP hK
  · have h10:vs 10=_:=exR (hR2 10 (by kernel_rfl)) (fun _ _ h=> h);have k1:=hS2.c1;have kz:=(zAa hS2.row).1 k _ HZC.out;simp only [h10] at hK⊢;go_simp;exact shP hK
  · go_simp;exact shP hK
  · have h11:vs 11=_:=exR (hR2 11 (by kernel_rfl)) (fun _ _ h=> h);have h12:vs 12=_:=exR (hR2 12 (by kernel_rfl)) (fun _ _ h=> h);simp only [h11,h12] at hK⊢;rw [if_pos (by rfl)];go_wp2_with (go_at_call 50;refine (rsub_any z1 z2 a b _).mono ?_;rintro e w3 ⟨v,nn,rfl,he,r1,r2,rfl,hzz⟩;subst he);exact hK.out _ _ (zAg (Below.refl _ _) nn) ⟨r1,r2,rfl,hzz⟩
 case hend=>
  intro vs wx lo hiv hbx hSx hRx hdx;have h0:vs 0=_:=(hRx 0 (by kernel_rfl)).1;have h1:vs 1=_:=(hRx 1 (by kernel_rfl)).1;have h2:vs 2=_:=(hRx 2 (by kernel_rfl)).1;have h3:vs 3=_:=(hRx 3 (by kernel_rfl)).1;have h4:vs 4=_:=(hRx 4 (by kernel_rfl)).1;have h5:vs 5=_:=(hRx 5 (by kernel_rfl)).1;have h6:vs 6=_:=(hRx 6 (by kernel_rfl)).1;have h7:vs 7=_:=(hRx 7 (by kernel_rfl)).1;have h8:vs 8=_:=(hRx 8 (by kernel_rfl)).1;have h9:vs 9=_:=(hRx 9 (by kernel_rfl)).1;have h10:vs 10=_:=(hRx 10 (by kernel_rfl)).1;have h11:vs 11=_:=(hRx 11 (by kernel_rfl)).1;have h12:vs 12=_:=(hRx 12 (by kernel_rfl)).1;have H13:=(hRx 13 (by kernel_rfl)).1;obtain ⟨r1,r2,h13,hz13⟩:=H13;simp only [zBg,Act.put,List.setIfInBounds_toArray,lz,ls,h0,h1,h2,h3,h4,h5,h6,h7,h8,h9,h10,h11,h12,h13];have HZZ:=hid hz13;have HD:=hid (HM.out.below (zAq hbx));have HB:=hid (zAq hbx);clear hz13 hbx hRx hdx hSx;refine zAt (i:=14) (by kernel_rfl) rfl (fun K hK=> ?_);go_simp;refine hK.out _ _ ?_;clear hK;have fz:=(zAa HD.out.row).2 k;have cz:=(zAa HD.out.row).1 k _ HZC.out;refine zAt (i:=15) (by kernel_rfl) rfl (fun K hK=> ?_);go_simp;refine hK.out _ _ ?_;clear hK fz cz;have HD3:Hid (SheetM (wx.setCell ⟨h,k,none⟩ (.complex .f64 r1 r2)) g h n (upd s.1 k (ck (r1,r2))) s.2 (M.set k (r1,r2))):=hid (HD.out.put HK.out (r1,r2));have HG3:=hid ((Grown2.of_below (g:=g) (h:=h) HB.out).trans (Grown2.right (g:=g) (zCh wx h k (.complex .f64 r1 r2))));clear HD HB;have HST:=hid (show stZ n s.1 ⟨true,(i:Int),(j:Int),(fc a,fc b)⟩=ck (r1,r2) by
   unfold stZ;simp only [HIDX.out,if_true];rw [←HZE.out];exact HZZ.out.symm)
  generalize wx.setCell ⟨h,k,none⟩ (.complex .f64 r1 r2)=w3 at *;refine wpAny_done (by kernel_rfl) ?_ _;have c1:=HD3.out.c1;have c2:=HD3.out.c2;have f2:=(zAa HD3.out.box).2 2;have z3:w3.cell? ⟨h,k,none⟩=some (.complex .f64 r1 r2):=by
   have h1:=(zAa HD3.out.row).1 k _ (zBy (by rw [HD3.out.len];exact HK.out));rw [List.getD_eq_getElem?_getD,List.getElem?_set_self (by have:=HD3.out.len;rw [List.length_set] at this;rw [this];exact HK.out)] at h1;exact h1
  rcases hov:s.2 with _ | _
  · rw [hov] at c2;go_wp2_with (go_at_call 35;refine (zBp r1 r2 _).mono ?_;rintro e w4 ⟨v,nn4,rfl,he,rfl⟩;have hb4:Below w3.heap.size w3 w4:=(by rw [he];exact zAg (Below.refl _ _) nn4);have HD5:=hid (HD3.out.below hb4);have HG5:=hid (HG3.out.trans (Grown2.of_below hb4));have f4:=(zAa HD5.out.box).2 2;have c4:=HD5.out.c2;clear HD3 HG3 he hb4 c1 c2 f2 z3)
    (try rw [Exit.noGoto_ret])
    go_end0
    refine ⟨rfl,⟨M.set k (r1,r2),?_⟩,HG5.out.trans (Grown2.left (zCh _ _ _ _))⟩;rw [HST.out,HIDX.out]
    (try rw [hov,Bool.false_or])
    exact HD5.out.mark _
  · rw [hov] at c2;go_wp2
    (try rw [Exit.noGoto_ret])
    go_end0
    refine ⟨rfl,⟨M.set k (r1,r2),?_⟩,HG3.out.trans (Grown2.left (zCh _ _ _ _))⟩;rw [HST.out,HIDX.out]
    (try rw [hov,Bool.true_or])
    exact HD3.out.mark _
end
section
open Go.RowKit
structure VecM (w:World) (b n:Nat) (r:Nat→Cx) (M:List Cx):Prop where
 len:M.length=n
 row:w.heap[b]? =some (.cells (M.map mkC).toArray 49 (0,0))
 num:∀k,k < n→ck (M.getD k (0,0))=r k
def VecR (w:World) (b n:Nat) (r:Nat→Cx):Prop:=∃M,VecM w b n r M
theorem VecM.below {w w':World} {b n:Nat} {r:Nat→Cx} {M:List Cx} (h:VecM w b n r M) (hb:Below w.heap.size w w'):VecM w' b n r M:=⟨h.len,zAm hb h.row,h.num⟩
theorem VecR.below {w w':World} {b n:Nat} {r:Nat→Cx} (h:VecR w b n r) (hb:Below w.heap.size w w'):VecR w' b n r:=by
 obtain ⟨M,hM⟩:=h;exact ⟨M,hM.below hb⟩
theorem VecM.put {w:World} {b n k:Nat} {r:Nat→Cx} {M:List Cx} (h:VecM w b n r M) (hk:k < n) (z:Cx):VecM (w.setCell ⟨b,k,none⟩ (mkC z)) b n (upd r k (ck z)) (M.set k z):=by
 refine ⟨by rw [List.length_set,h.len],?_,fun j hj=> ?_⟩
 · have h4:=zBi (o:=k) h.row (mkC z);rw [List.setIfInBounds_toArray,←List.map_set] at h4;exact h4
 · by_cases e:j=k
   · subst e;rw [zAr,List.getD_eq_getElem?_getD,List.getElem?_set_self (by rw [h.len];exact hk)];rfl
   · rw [zAu _ _ e,←h.num j hj,List.getD_eq_getElem?_getD,List.getD_eq_getElem?_getD,List.getElem?_set_ne (Ne.symm e)]
def RetPut (b n:Nat) (S:(Nat→Cx) × Bool) (w:World) (en:Ending) (w':World):Prop:=en=.returned (.bool S.2)∧VecR w' b n S.1∧w.grownBy w' (some b)
theorem putsub_any (p:Value) (l:List El) (b n:Nat) (r:Nat→Cx) (t:ByteArray) (s1 s2:Nat) (w:World) (hp:NN w p l) (hv:VecR w b n r) (ht:t.size≤maxLen) (hn:(nds l).length≤n) (hn2:n≤4096):
 Calls Tryz.prog 126 #[p,.slice (some ⟨b,0,none⟩) n n,.agg #[.string t,.func (.func 89) #[] #[]],.complex .f64 s1 s2] w (RetPut b n (putS l r t fun z=> csub z (fc s1,fc s2)) w):=by
 have hb1:=(Below.refl w.heap.size w).alloc (Nat.le_refl _) (.cells #[.string t,.func (.func 89) #[] #[]] 181);have HBX:=hid (heap_alloc_new w (.cells #[.string t,.func (.func 89) #[] #[]] 181));have HP:=hid (hp.below hb1 (Nat.le_refl _));have HVR:=hid (hv.below hb1);have HG:=hid (zAe hb1 (some b));have HT:=hid ht;have HN:=hid hn;clear hp hv hb1 ht hn
 by_cases hh:has (nds l) t=true
 · have hplt:plI (nds l) t < (nds l).length:=by
    unfold plI;rw [if_pos hh];have:(nds l).findIdx (fun u=> u.toList==t.toList) < (nds l).length:=by
     rw [List.findIdx_lt_length];have h1:=hh;unfold has at h1
     simpa using h1
    omega
   obtain ⟨k,hk⟩:∃k:Nat,plI (nds l) t=(k:Int):=by
    unfold plI;rw [if_pos hh];exact ⟨_,rfl⟩
   have HK:=hid (show k < n by rw [hk] at hplt;have:=HN.out;omega);have HS:=hid (show putS l r t (fun z=> csub z (fc s1,fc s2))=(upd r k (csub (r k) (fc s1,fc s2)),cfin (csub (r k) (fc s1,fc s2))) by unfold putS;rw [if_pos hh,hk];simp [zAr]);have hat:∀w',(Instr.indexAt 70 (.slice (some ⟨b,0,none⟩) n n) (.int .i64 k)).run Tryz.prog w'=.ok (.pointer (some ⟨b,k,none⟩)) w':=fun w'=> zBq HK.out w'
   have HKK:=hid hk;clear hplt hk;rw [HS.out];go_enter Tryz.func126,Tryz.ntmps126;go_upto_region 1 with fail;generalize w.alloc (.cells #[.string t,.func (.func 89) #[] #[]] 181)=w1 at *;generalize w.heap.size=eb at *;have e0:=(zAa HBX.out).1 0 _ rfl;go_upto_region 4 with (go_at_call 42;refine (zDn _ l t _ HP.out HT.out).mono ?_;rintro e wn ⟨rfl,rfl⟩;rw [hh,HKK.out]);clear e0 hh;obtain ⟨M,hM⟩:=HVR.out;have HM:=hid hM;have HZC:=hid (zBy (k:=k) (M:=M) (by rw [hM.len];exact HK.out));have HZN:=hid (hM.num k HK.out);clear hM HVR;generalize M.getD k (0,0)=z at *;obtain ⟨z1,z2⟩:=z;refine wp_region_any (by kernel_rfl) ?_;change wpAny _ _ _ _ _ _ _ (World.drew _);refine zAy [⟨some 20,0, []⟩,⟨some 21,1, []⟩,⟨some 22,2, []⟩,⟨some 23,3, []⟩,⟨some 24,4, []⟩,⟨some 25,5, []⟩,⟨some 26,6, []⟩,⟨some 27,7, []⟩,⟨some 28,8, []⟩,⟨some 29,9, []⟩]
    (fun w'=> w'.heap[eb]? =some (.cells #[.string t,.func (.func 89) #[] #[]] 181 (0,0))∧VecM w' b n r M)
    (fun oq v _ _ _ _=> match oq with | 0=> v=.slice (some ⟨b,0,none⟩) n n | 1=> v=.int .i64 k | 2=> v=.pointer (some ⟨eb,1,none⟩) | 3=> v=.func (.func 89) #[] #[] | 4=> v=.slice (some ⟨b,0,none⟩) n n | 5=> v=.int .i64 k | 6=> v=.pointer (some ⟨b,k,none⟩) | 7=> v=.complex .f64 z1 z2 | 8=> v=.complex .f64 s1 s2 | 9=> ∃r1 r2,v=Value.complex .f64 r1 r2∧ck (r1,r2)=csub (fc z1,fc z2) (fc s1,fc s2) | _=> True) (by kernel_rfl) ?hSp (fun _ _ hb h=> ⟨zAm hb h.1,h.2.below hb⟩) (fun _ _ _ _ _ _ _ _ _ h=> h) ?hopp ?hendp
   case hSp=> exact ⟨zAm (Below.refl _ _).drew HBX.out,HM.out.below (Below.refl _ _).drew⟩
   case hopp=>
    delta Owed
    simp only [zBg,Act.put,List.setIfInBounds_toArray,lz,ls];refine Each.cons rfl ?_ (Each.cons rfl ?_ (Each.cons rfl ?_ (Each.cons rfl ?_ (Each.cons rfl ?_ (Each.cons rfl ?_ (Each.cons rfl ?_ (Each.cons rfl ?_ (Each.cons rfl ?_ (Each.cons rfl ?_ Each.nil)))))))))
    all_goals intro vs w2 hb2 hS2 hR2 K hK;try simp only [lz,ls] at hK⊢
    · go_simp;exact shP hK
    · go_simp;exact shP hK
    · go_simp;exact shP hK
    · have h2:vs 2=_:=exR (hR2 2 (by kernel_rfl)) (fun _ _ h=> h);have k1:=(zAa hS2.1).1 1 _ rfl;have kz:=(zAa hS2.2.row).1 k _ HZC.out;simp only [h2] at hK⊢;go_simp;exact shP hK
    · go_simp;exact shP hK
    · go_simp;exact shP hK
    · have h4:vs 4=_:=exR (hR2 4 (by kernel_rfl)) (fun _ _ h=> h);have h5:vs 5=_:=exR (hR2 5 (by kernel_rfl)) (fun _ _ h=> h);have k1:=(zAa hS2.1).1 1 _ rfl;have kz:=(zAa hS2.2.row).1 k _ HZC.out;simp only [h4,h5] at hK⊢;go_simp;exact shP hK
    · have h6:vs 6=_:=exR (hR2 6 (by kernel_rfl)) (fun _ _ h=> h);have k1:=(zAa hS2.1).1 1 _ rfl;have kz:=(zAa hS2.2.row).1 k _ HZC.out;simp only [h6] at hK⊢;go_simp;exact shP hK
    · go_simp;exact shP hK
    · have h3:vs 3=_:=exR (hR2 3 (by kernel_rfl)) (fun _ _ h=> h);have h7:vs 7=_:=exR (hR2 7 (by kernel_rfl)) (fun _ _ h=> h);have h8:vs 8=_:=exR (hR2 8 (by kernel_rfl)) (fun _ _ h=> h);simp only [h3,h7,h8] at hK⊢;rw [if_pos (by rfl)];go_wp2_with (go_at_call 89;refine (psub_any z1 z2 s1 s2 _).mono ?_;rintro e w3 ⟨v,nn,rfl,he,r1,r2,rfl,hzz⟩;subst he);exact hK.out _ _ (zAg (Below.refl _ _) nn) ⟨r1,r2,rfl,hzz⟩
   case hendp=>
    intro vs wx lo hiv hbx hSx hRx hdx;have h0:vs 0=_:=(hRx 0 (by kernel_rfl)).1;have h1:vs 1=_:=(hRx 1 (by kernel_rfl)).1;have h2:vs 2=_:=(hRx 2 (by kernel_rfl)).1;have h3:vs 3=_:=(hRx 3 (by kernel_rfl)).1;have h4:vs 4=_:=(hRx 4 (by kernel_rfl)).1;have h5:vs 5=_:=(hRx 5 (by kernel_rfl)).1;have h6:vs 6=_:=(hRx 6 (by kernel_rfl)).1;have h7:vs 7=_:=(hRx 7 (by kernel_rfl)).1;have h8:vs 8=_:=(hRx 8 (by kernel_rfl)).1;have H9:=(hRx 9 (by kernel_rfl)).1;obtain ⟨r1,r2,h9,hz9⟩:=H9;simp only [zBg,Act.put,List.setIfInBounds_toArray,lz,ls,h0,h1,h2,h3,h4,h5,h6,h7,h8,h9];have hb:=zAq hbx;have HZZ:=hid hz9;have HD:=hid (HM.out.below hb);have HG2:=hid (zAf HG.out (zAe hb (some b)));clear hz9 hbx hRx hdx hSx hb HG HM;refine zAt (i:=10) (by kernel_rfl) rfl (fun K hK=> ?_);go_simp;refine hK.out _ _ ?_;clear hK;have fz:=(zAa HD.out.row).2 k;have cz:=(zAa HD.out.row).1 k _ HZC.out;refine zAt (i:=11) (by kernel_rfl) rfl (fun K hK=> ?_);go_simp;refine hK.out _ _ ?_;clear hK fz cz;have HD3:Hid (VecM (wx.setCell ⟨b,k,none⟩ (.complex .f64 r1 r2)) b n (upd r k (ck (r1,r2))) (M.set k (r1,r2))):=hid (HD.out.put HK.out (r1,r2));have HG3:=hid (zAf HG2.out (zAj wx b k (.complex .f64 r1 r2)));clear HD HG2;have HEQ:=hid (show ck (r1,r2)=csub (r k) (fc s1,fc s2) by rw [←HZN.out];exact HZZ.out);generalize wx.setCell ⟨b,k,none⟩ (.complex .f64 r1 r2)=w3 at *;refine wpAny_done (by kernel_rfl) ?_ _;have z3:w3.cell? ⟨b,k,none⟩=some (.complex .f64 r1 r2):=by
     have h1:=(zAa HD3.out.row).1 k _ (zBy (by rw [HD3.out.len];exact HK.out));rw [List.getD_eq_getElem?_getD,List.getElem?_set_self (by have:=HD3.out.len;rw [List.length_set] at this;rw [this];exact HK.out)] at h1;exact h1
    go_wp2_with (go_at_call 38;refine (zCj r1 r2 _).mono ?_;rintro e w4 ⟨v,nn4,rfl,he,rfl⟩;have hb4:Below w3.heap.size w3 w4:=(by rw [he];exact zAg (Below.refl _ _) nn4);have HD5:=hid (HD3.out.below hb4);have HG5:=hid (zAf HG3.out (zAe hb4 (some b)));clear HD3 HG3 he hb4 z3)
    (try rw [Exit.noGoto_ret])
    go_ret;refine ⟨by rw [←HEQ.out];rfl,⟨M.set k (r1,r2),?_⟩,HG5.out⟩;rw [←HEQ.out];exact HD5.out
 · have hf:has (nds l) t=false:=by simpa using hh
   have HS:=hid (show putS l r t (fun z=> csub z (fc s1,fc s2))=(r,true) by unfold putS;rw [if_neg hh]);clear hh;rw [HS.out];go_enter Tryz.func126,Tryz.ntmps126;go_upto_region 1 with fail;generalize w.alloc (.cells #[.string t,.func (.func 89) #[] #[]] 181)=w1 at *;generalize w.heap.size=eb at *;have e0:=(zAa HBX.out).1 0 _ rfl;go_wp2_with (go_at_call 42;refine (zDn _ l t _ HP.out HT.out).mono ?_;rintro e wn ⟨rfl,rfl⟩;rw [hf])
   (try rw [Exit.noGoto_ret])
   go_ret;exact ⟨rfl,HVR.out,HG.out⟩
theorem putadd_any (p:Value) (l:List El) (b n:Nat) (r:Nat→Cx) (t:ByteArray) (s1 s2:Nat) (w:World) (hp:NN w p l) (hv:VecR w b n r) (ht:t.size≤maxLen) (hn:(nds l).length≤n) (hn2:n≤4096):
 Calls Tryz.prog 126 #[p,.slice (some ⟨b,0,none⟩) n n,.agg #[.string t,.func (.func 127) #[] #[]],.complex .f64 s1 s2] w (RetPut b n (putS l r t fun z=> cadd z (fc s1,fc s2)) w):=by
 have hb1:=(Below.refl w.heap.size w).alloc (Nat.le_refl _) (.cells #[.string t,.func (.func 127) #[] #[]] 181);have HBX:=hid (heap_alloc_new w (.cells #[.string t,.func (.func 127) #[] #[]] 181));have HP:=hid (hp.below hb1 (Nat.le_refl _));have HVR:=hid (hv.below hb1);have HG:=hid (zAe hb1 (some b));have HT:=hid ht;have HN:=hid hn;clear hp hv hb1 ht hn
 by_cases hh:has (nds l) t=true
 · have hplt:plI (nds l) t < (nds l).length:=by
    unfold plI;rw [if_pos hh];have:(nds l).findIdx (fun u=> u.toList==t.toList) < (nds l).length:=by
     rw [List.findIdx_lt_length];have h1:=hh;unfold has at h1
     simpa using h1
    omega
   obtain ⟨k,hk⟩:∃k:Nat,plI (nds l) t=(k:Int):=by
    unfold plI;rw [if_pos hh];exact ⟨_,rfl⟩
   have HK:=hid (show k < n by rw [hk] at hplt;have:=HN.out;omega);have HS:=hid (show putS l r t (fun z=> cadd z (fc s1,fc s2))=(upd r k (cadd (r k) (fc s1,fc s2)),cfin (cadd (r k) (fc s1,fc s2))) by unfold putS;rw [if_pos hh,hk];simp [zAr]);have hat:∀w',(Instr.indexAt 70 (.slice (some ⟨b,0,none⟩) n n) (.int .i64 k)).run Tryz.prog w'=.ok (.pointer (some ⟨b,k,none⟩)) w':=fun w'=> zBq HK.out w'
   have HKK:=hid hk;clear hplt hk;rw [HS.out];go_enter Tryz.func126,Tryz.ntmps126;go_upto_region 1 with fail;generalize w.alloc (.cells #[.string t,.func (.func 127) #[] #[]] 181)=w1 at *;generalize w.heap.size=eb at *;have e0:=(zAa HBX.out).1 0 _ rfl;go_upto_region 4 with (go_at_call 42;refine (zDn _ l t _ HP.out HT.out).mono ?_;rintro e wn ⟨rfl,rfl⟩;rw [hh,HKK.out]);clear e0 hh;obtain ⟨M,hM⟩:=HVR.out;have HM:=hid hM;have HZC:=hid (zBy (k:=k) (M:=M) (by rw [hM.len];exact HK.out));have HZN:=hid (hM.num k HK.out);clear hM HVR;generalize M.getD k (0,0)=z at *;obtain ⟨z1,z2⟩:=z;refine wp_region_any (by kernel_rfl) ?_;change wpAny _ _ _ _ _ _ _ (World.drew _);refine zAy [⟨some 20,0, []⟩,⟨some 21,1, []⟩,⟨some 22,2, []⟩,⟨some 23,3, []⟩,⟨some 24,4, []⟩,⟨some 25,5, []⟩,⟨some 26,6, []⟩,⟨some 27,7, []⟩,⟨some 28,8, []⟩,⟨some 29,9, []⟩]
    (fun w'=> w'.heap[eb]? =some (.cells #[.string t,.func (.func 127) #[] #[]] 181 (0,0))∧VecM w' b n r M)
    (fun oq v _ _ _ _=> match oq with | 0=> v=.slice (some ⟨b,0,none⟩) n n | 1=> v=.int .i64 k | 2=> v=.pointer (some ⟨eb,1,none⟩) | 3=> v=.func (.func 127) #[] #[] | 4=> v=.slice (some ⟨b,0,none⟩) n n | 5=> v=.int .i64 k | 6=> v=.pointer (some ⟨b,k,none⟩) | 7=> v=.complex .f64 z1 z2 | 8=> v=.complex .f64 s1 s2 | 9=> ∃r1 r2,v=Value.complex .f64 r1 r2∧ck (r1,r2)=cadd (fc z1,fc z2) (fc s1,fc s2) | _=> True) (by kernel_rfl) ?hSp (fun _ _ hb h=> ⟨zAm hb h.1,h.2.below hb⟩) (fun _ _ _ _ _ _ _ _ _ h=> h) ?hopp ?hendp
   case hSp=> exact ⟨zAm (Below.refl _ _).drew HBX.out,HM.out.below (Below.refl _ _).drew⟩
   case hopp=>
    delta Owed
    simp only [zBg,Act.put,List.setIfInBounds_toArray,lz,ls];refine Each.cons rfl ?_ (Each.cons rfl ?_ (Each.cons rfl ?_ (Each.cons rfl ?_ (Each.cons rfl ?_ (Each.cons rfl ?_ (Each.cons rfl ?_ (Each.cons rfl ?_ (Each.cons rfl ?_ (Each.cons rfl ?_ Each.nil)))))))))
    all_goals intro vs w2 hb2 hS2 hR2 K hK;try simp only [lz,ls] at hK⊢
    · go_simp;exact shP hK
    · go_simp;exact shP hK
    · go_simp;exact shP hK
    · have h2:vs 2=_:=exR (hR2 2 (by kernel_rfl)) (fun _ _ h=> h);have k1:=(zAa hS2.1).1 1 _ rfl;have kz:=(zAa hS2.2.row).1 k _ HZC.out;simp only [h2] at hK⊢;go_simp;exact shP hK
    · go_simp;exact shP hK
    · go_simp;exact shP hK
    · have h4:vs 4=_:=exR (hR2 4 (by kernel_rfl)) (fun _ _ h=> h);have h5:vs 5=_:=exR (hR2 5 (by kernel_rfl)) (fun _ _ h=> h);have k1:=(zAa hS2.1).1 1 _ rfl;have kz:=(zAa hS2.2.row).1 k _ HZC.out;simp only [h4,h5] at hK⊢;go_simp;exact shP hK
    · have h6:vs 6=_:=exR (hR2 6 (by kernel_rfl)) (fun _ _ h=> h);have k1:=(zAa hS2.1).1 1 _ rfl;have kz:=(zAa hS2.2.row).1 k _ HZC.out;simp only [h6] at hK⊢;go_simp;exact shP hK
    · go_simp;exact shP hK
    · have h3:vs 3=_:=exR (hR2 3 (by kernel_rfl)) (fun _ _ h=> h);have h7:vs 7=_:=exR (hR2 7 (by kernel_rfl)) (fun _ _ h=> h);have h8:vs 8=_:=exR (hR2 8 (by kernel_rfl)) (fun _ _ h=> h);simp only [h3,h7,h8] at hK⊢;rw [if_pos (by rfl)];go_wp2_with (go_at_call 127;refine (padd_any z1 z2 s1 s2 _).mono ?_;rintro e w3 ⟨v,nn,rfl,he,r1,r2,rfl,hzz⟩;subst he);exact hK.out _ _ (zAg (Below.refl _ _) nn) ⟨r1,r2,rfl,hzz⟩
   case hendp=>
    intro vs wx lo hiv hbx hSx hRx hdx;have h0:vs 0=_:=(hRx 0 (by kernel_rfl)).1;have h1:vs 1=_:=(hRx 1 (by kernel_rfl)).1;have h2:vs 2=_:=(hRx 2 (by kernel_rfl)).1;have h3:vs 3=_:=(hRx 3 (by kernel_rfl)).1;have h4:vs 4=_:=(hRx 4 (by kernel_rfl)).1;have h5:vs 5=_:=(hRx 5 (by kernel_rfl)).1;have h6:vs 6=_:=(hRx 6 (by kernel_rfl)).1;have h7:vs 7=_:=(hRx 7 (by kernel_rfl)).1;have h8:vs 8=_:=(hRx 8 (by kernel_rfl)).1;have H9:=(hRx 9 (by kernel_rfl)).1;obtain ⟨r1,r2,h9,hz9⟩:=H9;simp only [zBg,Act.put,List.setIfInBounds_toArray,lz,ls,h0,h1,h2,h3,h4,h5,h6,h7,h8,h9];have hb:=zAq hbx;have HZZ:=hid hz9;have HD:=hid (HM.out.below hb);have HG2:=hid (zAf HG.out (zAe hb (some b)));clear hz9 hbx hRx hdx hSx hb HG HM;refine zAt (i:=10) (by kernel_rfl) rfl (fun K hK=> ?_);go_simp;refine hK.out _ _ ?_;clear hK;have fz:=(zAa HD.out.row).2 k;have cz:=(zAa HD.out.row).1 k _ HZC.out;refine zAt (i:=11) (by kernel_rfl) rfl (fun K hK=> ?_);go_simp;refine hK.out _ _ ?_;clear hK fz cz;have HD3:Hid (VecM (wx.setCell ⟨b,k,none⟩ (.complex .f64 r1 r2)) b n (upd r k (ck (r1,r2))) (M.set k (r1,r2))):=hid (HD.out.put HK.out (r1,r2));have HG3:=hid (zAf HG2.out (zAj wx b k (.complex .f64 r1 r2)));clear HD HG2;have HEQ:=hid (show ck (r1,r2)=cadd (r k) (fc s1,fc s2) by rw [←HZN.out];exact HZZ.out);generalize wx.setCell ⟨b,k,none⟩ (.complex .f64 r1 r2)=w3 at *;refine wpAny_done (by kernel_rfl) ?_ _;have z3:w3.cell? ⟨b,k,none⟩=some (.complex .f64 r1 r2):=by
     have h1:=(zAa HD3.out.row).1 k _ (zBy (by rw [HD3.out.len];exact HK.out));rw [List.getD_eq_getElem?_getD,List.getElem?_set_self (by have:=HD3.out.len;rw [List.length_set] at this;rw [this];exact HK.out)] at h1;exact h1
    go_wp2_with (go_at_call 38;refine (zCj r1 r2 _).mono ?_;rintro e w4 ⟨v,nn4,rfl,he,rfl⟩;have hb4:Below w3.heap.size w3 w4:=(by rw [he];exact zAg (Below.refl _ _) nn4);have HD5:=hid (HD3.out.below hb4);have HG5:=hid (zAf HG3.out (zAe hb4 (some b)));clear HD3 HG3 he hb4 z3)
    (try rw [Exit.noGoto_ret])
    go_ret;refine ⟨by rw [←HEQ.out];rfl,⟨M.set k (r1,r2),?_⟩,HG5.out⟩;rw [←HEQ.out];exact HD5.out
 · have hf:has (nds l) t=false:=by simpa using hh
   have HS:=hid (show putS l r t (fun z=> cadd z (fc s1,fc s2))=(r,true) by unfold putS;rw [if_neg hh]);clear hh;rw [HS.out];go_enter Tryz.func126,Tryz.ntmps126;go_upto_region 1 with fail;generalize w.alloc (.cells #[.string t,.func (.func 127) #[] #[]] 181)=w1 at *;generalize w.heap.size=eb at *;have e0:=(zAa HBX.out).1 0 _ rfl;go_wp2_with (go_at_call 42;refine (zDn _ l t _ HP.out HT.out).mono ?_;rintro e wn ⟨rfl,rfl⟩;rw [hf])
   (try rw [Exit.noGoto_ret])
   go_ret;exact ⟨rfl,HVR.out,HG.out⟩
end
section
open Go.RowKit
def zrow (n:Nat):Array Value:=((List.replicate n (0,0)).map mkC).toArray
theorem zrow_made (n:Nat):madeCells (Value.complex .f64 0 0).cells (n * 1)=zrow n:=by
 apply Array.ext
 · simp [madeCells,zrow]
 · intro i h1 h2
   simp [madeCells,zrow,Value.cells,mkC,Nat.mod_one]
theorem zHe (n:Nat) (w:World) (hn:n≤4096):(Instr.makeSlice 70 (.int .i64 n) (.int .i64 n)).run Tryz.prog w=.ok (.slice (some ⟨w.heap.size,0,none⟩) n n) (w.alloc (.cells (zrow n) 49)):=by
 obtain ⟨i0,hi,hz0,hz1,hz2⟩:=info_parts zEm;have h:=run_make (P:=Tryz.prog) w 70 49 i0 (.complex .f64 0 0) Tryz.underlying70 hi hz0 .i64 .i64 n n (by omega) (Int.le_refl _) (by rw [hz2];omega) (by omega);rw [h,Int.toNat_natCast,hz1,zrow_made]
end
end Go.Proofs.YtejooaeppcjhjaaGreat
