/- a part of the proof of the last text -/
import Derived.Test.YtdepiggjneoopaaGreatDoorZMRNone
namespace Go.Proofs.YtdepiggjneoopaaGreatDoor
set_option linter.all false
set_option maxHeartbeats 4000000
set_option maxRecDepth 100000
open Go.RowKit
theorem zCh (p:Value) (l:List El) (w:World) (hp:NN w p l) (hn:has (l.map El.name) ⟨#[]⟩=false):
 Calls Tryz.prog 61 #[p] w (fun e w'=> e=.returned (.bool (zBp p))∧w=w'):=by
 have HP:=hid hp;have HN:=hid hn;cases hq:zBp p
 all_goals
  have HQ:=hid hq;clear hq;go_enter Tryz.func61,Tryz.ntmps61;go_wp2_with (go_at_call 97;refine (zFn _ l _ HP.out HN.out).mono ?_;rintro e w' ⟨rfl,rfl⟩;rw [HQ.out]);go_ret;exact ⟨rfl,rfl⟩
def zFb (b:Bool) (nv na k m:Nat):Int:=if b=true then 1 else if nv≠k∨na≠m then 4 else 0
theorem i_ne {a b:Nat} (h:a≠b):((a:Int) !=(b:Int))=true:=by simp;omega
theorem fits_any2 (p:Value) (l:List El) (om nv cv na ca:Nat) (av aa:Option Addr) (w:World) (hp:NN w p l) (hg:NetG l):
 Calls Tryz.prog 72 #[p,.agg #[.float .f64 om,.slice av nv cv,.slice aa na ca]] w (fun e w'=> e=.returned (.int .i64 (zFb (zBp p) nv na (nds l).length (brs l).length))∧Below w.heap.size w w'):=by
 have aI:=(Below.refl w.heap.size w).alloc (Nat.le_refl _) (.cells #[.float .f64 om,.slice av nv cv,.slice aa na ca] 87);have eP:=hid aI;have HS:=hid (heap_alloc_new w (.cells #[.float .f64 om,.slice av nv cv,.slice aa na ca] 87));have HP:=hid (hp.below aI (Nat.le_refl _));have HG:=hid hg;obtain ⟨k,hk⟩:∃k,(nds l).length=k:=⟨_,rfl⟩;obtain ⟨m,hm⟩:∃m,(brs l).length=m:=⟨_,rfl⟩;rw [hk,hm];have HK:=hid hk;have HM:=hid hm;clear hp hg aI hk hm;cases hq:zBp p
 rotate_left
 · have HQ:=hid hq;clear hq;go_enter Tryz.func72,Tryz.ntmps72;go_upto_region 1 with fail;generalize w.alloc (.cells #[.float .f64 om,.slice av nv cv,.slice aa na ca] 87)=w1 at *;go_wp2_with (go_at_call 61;refine (zCh _ l _ HP.out HG.out.nm).mono ?_;rintro e w' ⟨rfl,rfl⟩;rw [HQ.out])
   (try simp only [Exit.inBlock,Exit.then])
   (try rw [Exit.noGoto_ret])
   go_ret;exact ⟨by unfold zFb;rw [if_pos rfl];rfl,eP.out⟩
 have HQ:=hid hq;clear hq
 by_cases h1:nv=k
 rotate_left
 · have aI:=i_ne h1;have HW:=hid (show zFb false nv na k m=4 by unfold zFb;rw [if_neg (by simp),if_pos (.inl h1)]);clear h1;go_enter Tryz.func72,Tryz.ntmps72;go_upto_region 1 with fail;generalize w.alloc (.cells #[.float .f64 om,.slice av nv cv,.slice aa na ca] 87)=w1 at *;obtain ⟨gs,eH⟩:∃gs,w.heap.size=gs:=⟨_,rfl⟩;rw [eH] at HS⊢;clear eH;go_upto_region 3 with (go_at_call 61;refine (zCh _ l _ HP.out HG.out.nm).mono ?_;rintro e w' ⟨rfl,rfl⟩;rw [HQ.out]);refine wp_region_any (by kernel_rfl) ?_;change wpAny _ _ _ _ _ _ _ (World.drew _);refine zAx [⟨some 9,0, []⟩,⟨some 10,1, []⟩,⟨some 11,2, []⟩,⟨some 12,3, []⟩,⟨some 13,4, []⟩,⟨some 14,5, []⟩,⟨some 15,6, []⟩,⟨some 16,7, []⟩,⟨some 17,8, []⟩,⟨some 18,9, []⟩,⟨some 19,10, []⟩,⟨some 20,11, []⟩,⟨some 21,12, []⟩,⟨some 22,13, []⟩,⟨some 23,14, []⟩,⟨some 24,15, []⟩]
    (fun w'=> w'.heap[gs]? =some (.cells #[.float .f64 om,.slice av nv cv,.slice aa na ca] 87 (0,0))∧NN w' p l)
    (fun oq v _ _ _ _=> match oq with | 0=> v=.pointer (some ⟨gs,1,none⟩) | 1=> v=.slice av nv cv | 2=> v=.int .i64 nv | 3=> v=p | 4=> ∃a c,v=.slice a k c | 5=> v=.int .i64 k | 6=> v=.bool true | 7=> v=.bool true | 8=> v=undef | 9=> v=undef | 10=> v=undef | 11=> v=undef | 12=> v=undef | 13=> v=undef | 14=> v=undef | 15=> v=.bool true | _=> True) (by kernel_rfl) ?hSm (fun _ _ hb h=> ⟨zAi hb h.1,h.2.below' hb⟩) (fun _ _ _ _ _ _ _ _ _ h=> h) ?kW ?gK
   case hSm=> exact ⟨zAi (Below.refl _ _).drew HS.out,HP.out.below (Below.refl _ _).drew (Nat.le_refl _)⟩
   case kW=>
    delta Owed
    simp only [zBb,Act.put,List.setIfInBounds_toArray,lz,ls];refine Each.cons rfl ?_ (Each.cons rfl ?_ (Each.cons rfl ?_ (Each.cons rfl ?_ (Each.cons rfl ?_ (Each.cons rfl ?_ (Each.cons rfl ?_ (Each.cons rfl ?_ (Each.cons rfl ?_ (Each.cons rfl ?_ (Each.cons rfl ?_ (Each.cons rfl ?_ (Each.cons rfl ?_ (Each.cons rfl ?_ (Each.cons rfl ?_ (Each.cons rfl ?_ Each.nil)))))))))))))))
    all_goals intro vs w2 aV hS2 hR2 K hK;try simp only [lz,ls] at hK⊢
    · go_simp;exact shP hK
    · have h0:vs 0=_:=exR (hR2 0 (by kernel_rfl)) (fun _ _ h=> h);have k0:=(zAb hS2.1).1 1 _ rfl;have k1:=(zAb hS2.1).1 2 _ rfl;simp only [h0] at hK⊢;go_simp;exact shP hK
    · have h1:vs 1=_:=exR (hR2 1 (by kernel_rfl)) (fun _ _ h=> h);simp only [h1] at hK⊢;go_simp;exact shP hK
    · go_simp;exact shP hK
    · have h3:vs 3=_:=exR (hR2 3 (by kernel_rfl)) (fun _ _ h=> h);simp only [h3] at hK⊢;rw [if_pos (by rfl)];go_wp2_with (go_at_call 106;refine (zDi p l _ hS2.2 (by have:=HG.out.len;omega)).mono ?_;rintro e w3 ⟨v,xs,rfl,aC,_,hb⟩;obtain ⟨ar,cr,rfl⟩:=(IsSl.of_own aC).form;clear aC;rw [HK.out]);exact hK.out _ _ hb ⟨ar,cr,rfl⟩
    · obtain ⟨_,_,_,H4⟩:=hR2 4 (by kernel_rfl);obtain ⟨a4,c4,h4⟩:=H4;simp only [h4] at hK⊢;go_simp;exact shP hK
    · have h2:vs 2=_:=exR (hR2 2 (by kernel_rfl)) (fun _ _ h=> h);have h5:vs 5=_:=exR (hR2 5 (by kernel_rfl)) (fun _ _ h=> h);simp only [h2,h5] at hK⊢;go_simp;exact shP hK
    · have h6:vs 6=_:=exR (hR2 6 (by kernel_rfl)) (fun _ _ h=> h);simp only [h6] at hK⊢;go_simp;exact shP hK
    · have h7:vs 7=_:=exR (hR2 7 (by kernel_rfl)) (fun _ _ h=> h);simp only [h7] at hK⊢;rw [if_neg (by intro hh;exact absurd (show false=true from hh) (by decide))];exact shP hK
    · have h7:vs 7=_:=exR (hR2 7 (by kernel_rfl)) (fun _ _ h=> h);have h8:vs 8=_:=exR (hR2 8 (by kernel_rfl)) (fun _ _ h=> h);have k0:=(zAb hS2.1).1 1 _ rfl;have k1:=(zAb hS2.1).1 2 _ rfl;simp only [h7,h8] at hK⊢;rw [if_neg (by intro hh;exact absurd (show false=true from hh) (by decide))];exact shP hK
    · have h7:vs 7=_:=exR (hR2 7 (by kernel_rfl)) (fun _ _ h=> h);have h9:vs 9=_:=exR (hR2 9 (by kernel_rfl)) (fun _ _ h=> h);simp only [h7,h9] at hK⊢;rw [if_neg (by intro hh;exact absurd (show false=true from hh) (by decide))];exact shP hK
    · have h7:vs 7=_:=exR (hR2 7 (by kernel_rfl)) (fun _ _ h=> h);simp only [h7] at hK⊢;rw [if_neg (by intro hh;exact absurd (show false=true from hh) (by decide))];exact shP hK
    · have h7:vs 7=_:=exR (hR2 7 (by kernel_rfl)) (fun _ _ h=> h);have bQ:vs 11=_:=exR (hR2 11 (by kernel_rfl)) (fun _ _ h=> h);simp only [h7,bQ] at hK⊢;rw [if_neg (by intro hh;exact absurd (show false=true from hh) (by decide))];exact shP hK
    · have h7:vs 7=_:=exR (hR2 7 (by kernel_rfl)) (fun _ _ h=> h);have bW:vs 12=_:=exR (hR2 12 (by kernel_rfl)) (fun _ _ h=> h);simp only [h7,bW] at hK⊢;rw [if_neg (by intro hh;exact absurd (show false=true from hh) (by decide))];exact shP hK
    · have h7:vs 7=_:=exR (hR2 7 (by kernel_rfl)) (fun _ _ h=> h);have bX:vs 10=_:=exR (hR2 10 (by kernel_rfl)) (fun _ _ h=> h);have bV:vs 13=_:=exR (hR2 13 (by kernel_rfl)) (fun _ _ h=> h);simp only [h7,bX,bV] at hK⊢;rw [if_neg (by intro hh;exact absurd (show false=true from hh) (by decide))];exact shP hK
    · have h7:vs 7=_:=exR (hR2 7 (by kernel_rfl)) (fun _ _ h=> h);have bZ:vs 14=_:=exR (hR2 14 (by kernel_rfl)) (fun _ _ h=> h);simp only [h7,bZ] at hK⊢;go_simp;exact shP hK
   case gK=>
    intro vs wx lo iB bK hSx hRx dN;have h0:vs 0=_:=(hRx 0 (by kernel_rfl)).1;have h1:vs 1=_:=(hRx 1 (by kernel_rfl)).1;have h2:vs 2=_:=(hRx 2 (by kernel_rfl)).1;have h3:vs 3=_:=(hRx 3 (by kernel_rfl)).1;have H4:=(hRx 4 (by kernel_rfl)).1;obtain ⟨a4,c4,h4⟩:=H4;have h5:vs 5=_:=(hRx 5 (by kernel_rfl)).1;have h6:vs 6=_:=(hRx 6 (by kernel_rfl)).1;have h7:vs 7=_:=(hRx 7 (by kernel_rfl)).1;have h8:vs 8=_:=(hRx 8 (by kernel_rfl)).1;have h9:vs 9=_:=(hRx 9 (by kernel_rfl)).1;have bX:vs 10=_:=(hRx 10 (by kernel_rfl)).1;have bQ:vs 11=_:=(hRx 11 (by kernel_rfl)).1;have bW:vs 12=_:=(hRx 12 (by kernel_rfl)).1;have bV:vs 13=_:=(hRx 13 (by kernel_rfl)).1;have bZ:vs 14=_:=(hRx 14 (by kernel_rfl)).1;have cM:vs 15=_:=(hRx 15 (by kernel_rfl)).1;simp only [zBb,Act.put,List.setIfInBounds_toArray,lz,ls,h0,h1,h2,h3,h4,h5,h6,h7,h8,h9,bX,bQ,bW,bV,bZ,cM];clear hRx dN;have hb:=zAt bK;have aG:=hid (zAd eP.out hb);refine zAr (i:=16) (by kernel_rfl) rfl (fun K hK=> ?_);go_simp;refine hK.out _ _ ?_;clear hK;refine wpAny_done (by kernel_rfl) ?_ _;go_wp2
    (try simp only [Exit.inBlock,Exit.then])
    (try rw [Exit.noGoto_ret])
    go_ret;exact ⟨by rw [HW.out];rfl,aG.out⟩
 subst h1
 by_cases h2:na=m
 rotate_left
 · have aI:=i_ne h2;have HW:=hid (show zFb false nv na nv m=4 by unfold zFb;rw [if_neg (by simp),if_pos (.inr h2)]);clear h2;go_enter Tryz.func72,Tryz.ntmps72;go_upto_region 1 with fail;generalize w.alloc (.cells #[.float .f64 om,.slice av nv cv,.slice aa na ca] 87)=w1 at *;obtain ⟨gs,eH⟩:∃gs,w.heap.size=gs:=⟨_,rfl⟩;rw [eH] at HS⊢;clear eH;go_upto_region 3 with (go_at_call 61;refine (zCh _ l _ HP.out HG.out.nm).mono ?_;rintro e w' ⟨rfl,rfl⟩;rw [HQ.out]);refine wp_region_any (by kernel_rfl) ?_;change wpAny _ _ _ _ _ _ _ (World.drew _);refine zAx [⟨some 9,0, []⟩,⟨some 10,1, []⟩,⟨some 11,2, []⟩,⟨some 12,3, []⟩,⟨some 13,4, []⟩,⟨some 14,5, []⟩,⟨some 15,6, []⟩,⟨some 16,7, []⟩,⟨some 17,8, []⟩,⟨some 18,9, []⟩,⟨some 19,10, []⟩,⟨some 20,11, []⟩,⟨some 21,12, []⟩,⟨some 22,13, []⟩,⟨some 23,14, []⟩,⟨some 24,15, []⟩]
    (fun w'=> w'.heap[gs]? =some (.cells #[.float .f64 om,.slice av nv cv,.slice aa na ca] 87 (0,0))∧NN w' p l)
    (fun oq v _ _ _ _=> match oq with | 0=> v=.pointer (some ⟨gs,1,none⟩) | 1=> v=.slice av nv cv | 2=> v=.int .i64 nv | 3=> v=p | 4=> ∃a c,v=.slice a nv c | 5=> v=.int .i64 nv | 6=> v=.bool false | 7=> v=.bool false | 8=> v=.pointer (some ⟨gs,2,none⟩) | 9=> v=.slice aa na ca | 10=> v=.int .i64 na | 11=> v=p | 12=> ∃a c,v=.slice a m c | 13=> v=.int .i64 m | 14=> v=.bool true | 15=> v=.bool true | _=> True) (by kernel_rfl) ?hSm (fun _ _ hb h=> ⟨zAi hb h.1,h.2.below' hb⟩) (fun _ _ _ _ _ _ _ _ _ h=> h) ?kW ?gK
   case hSm=> exact ⟨zAi (Below.refl _ _).drew HS.out,HP.out.below (Below.refl _ _).drew (Nat.le_refl _)⟩
   case kW=>
    delta Owed
    simp only [zBb,Act.put,List.setIfInBounds_toArray,lz,ls];refine Each.cons rfl ?_ (Each.cons rfl ?_ (Each.cons rfl ?_ (Each.cons rfl ?_ (Each.cons rfl ?_ (Each.cons rfl ?_ (Each.cons rfl ?_ (Each.cons rfl ?_ (Each.cons rfl ?_ (Each.cons rfl ?_ (Each.cons rfl ?_ (Each.cons rfl ?_ (Each.cons rfl ?_ (Each.cons rfl ?_ (Each.cons rfl ?_ (Each.cons rfl ?_ Each.nil)))))))))))))))
    all_goals intro vs w2 aV hS2 hR2 K hK;try simp only [lz,ls] at hK⊢
    · go_simp;exact shP hK
    · have h0:vs 0=_:=exR (hR2 0 (by kernel_rfl)) (fun _ _ h=> h);have k0:=(zAb hS2.1).1 1 _ rfl;have k1:=(zAb hS2.1).1 2 _ rfl;simp only [h0] at hK⊢;go_simp;exact shP hK
    · have h1:vs 1=_:=exR (hR2 1 (by kernel_rfl)) (fun _ _ h=> h);simp only [h1] at hK⊢;go_simp;exact shP hK
    · go_simp;exact shP hK
    · have h3:vs 3=_:=exR (hR2 3 (by kernel_rfl)) (fun _ _ h=> h);simp only [h3] at hK⊢;rw [if_pos (by rfl)];go_wp2_with (go_at_call 106;refine (zDi p l _ hS2.2 (by have:=HG.out.len;omega)).mono ?_;rintro e w3 ⟨v,xs,rfl,aC,_,hb⟩;obtain ⟨ar,cr,rfl⟩:=(IsSl.of_own aC).form;clear aC;rw [HK.out]);exact hK.out _ _ hb ⟨ar,cr,rfl⟩
    · obtain ⟨_,_,_,H4⟩:=hR2 4 (by kernel_rfl);obtain ⟨a4,c4,h4⟩:=H4;simp only [h4] at hK⊢;go_simp;exact shP hK
    · have h2:vs 2=_:=exR (hR2 2 (by kernel_rfl)) (fun _ _ h=> h);have h5:vs 5=_:=exR (hR2 5 (by kernel_rfl)) (fun _ _ h=> h);simp only [h2,h5] at hK⊢;go_simp;exact shP hK
    · have h6:vs 6=_:=exR (hR2 6 (by kernel_rfl)) (fun _ _ h=> h);simp only [h6] at hK⊢;go_simp;exact shP hK
    · have h7:vs 7=_:=exR (hR2 7 (by kernel_rfl)) (fun _ _ h=> h);simp only [h7] at hK⊢;rw [if_pos (by rfl)];go_simp;exact shP hK
    · have h7:vs 7=_:=exR (hR2 7 (by kernel_rfl)) (fun _ _ h=> h);have h8:vs 8=_:=exR (hR2 8 (by kernel_rfl)) (fun _ _ h=> h);have k0:=(zAb hS2.1).1 1 _ rfl;have k1:=(zAb hS2.1).1 2 _ rfl;simp only [h7,h8] at hK⊢;rw [if_pos (by rfl)];go_simp;exact shP hK
    · have h7:vs 7=_:=exR (hR2 7 (by kernel_rfl)) (fun _ _ h=> h);have h9:vs 9=_:=exR (hR2 9 (by kernel_rfl)) (fun _ _ h=> h);simp only [h7,h9] at hK⊢;rw [if_pos (by rfl)];go_simp;exact shP hK
    · have h7:vs 7=_:=exR (hR2 7 (by kernel_rfl)) (fun _ _ h=> h);simp only [h7] at hK⊢;rw [if_pos (by rfl)];go_simp;exact shP hK
    · have h7:vs 7=_:=exR (hR2 7 (by kernel_rfl)) (fun _ _ h=> h);have bQ:vs 11=_:=exR (hR2 11 (by kernel_rfl)) (fun _ _ h=> h);simp only [h7,bQ] at hK⊢;rw [if_pos (by rfl)];go_wp2_with (go_at_call 107;refine (nbranches_any p l _ hS2.2 (by have:=HG.out.len;omega)).mono ?_;rintro e w3 ⟨v,xs,rfl,aC,_,hb⟩;obtain ⟨ar,cr,rfl⟩:=(IsSl.of_own aC).form;clear aC;rw [HM.out]);exact hK.out _ _ hb ⟨ar,cr,rfl⟩
    · have h7:vs 7=_:=exR (hR2 7 (by kernel_rfl)) (fun _ _ h=> h);obtain ⟨_,_,_,H12⟩:=hR2 12 (by kernel_rfl);obtain ⟨a12,c12,bW⟩:=H12;simp only [h7,bW] at hK⊢;rw [if_pos (by rfl)];go_simp;exact shP hK
    · have h7:vs 7=_:=exR (hR2 7 (by kernel_rfl)) (fun _ _ h=> h);have bX:vs 10=_:=exR (hR2 10 (by kernel_rfl)) (fun _ _ h=> h);have bV:vs 13=_:=exR (hR2 13 (by kernel_rfl)) (fun _ _ h=> h);simp only [h7,bX,bV] at hK⊢;rw [if_pos (by rfl)];go_simp;exact shP hK
    · have h7:vs 7=_:=exR (hR2 7 (by kernel_rfl)) (fun _ _ h=> h);have bZ:vs 14=_:=exR (hR2 14 (by kernel_rfl)) (fun _ _ h=> h);simp only [h7,bZ] at hK⊢;go_simp;exact shP hK
   case gK=>
    intro vs wx lo iB bK hSx hRx dN;have h0:vs 0=_:=(hRx 0 (by kernel_rfl)).1;have h1:vs 1=_:=(hRx 1 (by kernel_rfl)).1;have h2:vs 2=_:=(hRx 2 (by kernel_rfl)).1;have h3:vs 3=_:=(hRx 3 (by kernel_rfl)).1;have H4:=(hRx 4 (by kernel_rfl)).1;obtain ⟨a4,c4,h4⟩:=H4;have h5:vs 5=_:=(hRx 5 (by kernel_rfl)).1;have h6:vs 6=_:=(hRx 6 (by kernel_rfl)).1;have h7:vs 7=_:=(hRx 7 (by kernel_rfl)).1;have h8:vs 8=_:=(hRx 8 (by kernel_rfl)).1;have h9:vs 9=_:=(hRx 9 (by kernel_rfl)).1;have bX:vs 10=_:=(hRx 10 (by kernel_rfl)).1;have bQ:vs 11=_:=(hRx 11 (by kernel_rfl)).1;have H12:=(hRx 12 (by kernel_rfl)).1;obtain ⟨a12,c12,bW⟩:=H12;have bV:vs 13=_:=(hRx 13 (by kernel_rfl)).1;have bZ:vs 14=_:=(hRx 14 (by kernel_rfl)).1;have cM:vs 15=_:=(hRx 15 (by kernel_rfl)).1;simp only [zBb,Act.put,List.setIfInBounds_toArray,lz,ls,h0,h1,h2,h3,h4,h5,h6,h7,h8,h9,bX,bQ,bW,bV,bZ,cM];clear hRx dN;have hb:=zAt bK;have aG:=hid (zAd eP.out hb);refine zAr (i:=16) (by kernel_rfl) rfl (fun K hK=> ?_);go_simp;refine hK.out _ _ ?_;clear hK;refine wpAny_done (by kernel_rfl) ?_ _;go_wp2
    (try simp only [Exit.inBlock,Exit.then])
    (try rw [Exit.noGoto_ret])
    go_ret;exact ⟨by rw [HW.out];rfl,aG.out⟩
 subst h2;have HW:=hid (show zFb false nv na nv na=0 by unfold zFb;rw [if_neg (by simp),if_neg (by simp)]);go_enter Tryz.func72,Tryz.ntmps72;go_upto_region 1 with fail;generalize w.alloc (.cells #[.float .f64 om,.slice av nv cv,.slice aa na ca] 87)=w1 at *;obtain ⟨gs,eH⟩:∃gs,w.heap.size=gs:=⟨_,rfl⟩;rw [eH] at HS⊢;clear eH;go_upto_region 3 with (go_at_call 61;refine (zCh _ l _ HP.out HG.out.nm).mono ?_;rintro e w' ⟨rfl,rfl⟩;rw [HQ.out]);refine wp_region_any (by kernel_rfl) ?_;change wpAny _ _ _ _ _ _ _ (World.drew _);refine zAx [⟨some 9,0, []⟩,⟨some 10,1, []⟩,⟨some 11,2, []⟩,⟨some 12,3, []⟩,⟨some 13,4, []⟩,⟨some 14,5, []⟩,⟨some 15,6, []⟩,⟨some 16,7, []⟩,⟨some 17,8, []⟩,⟨some 18,9, []⟩,⟨some 19,10, []⟩,⟨some 20,11, []⟩,⟨some 21,12, []⟩,⟨some 22,13, []⟩,⟨some 23,14, []⟩,⟨some 24,15, []⟩]
  (fun w'=> w'.heap[gs]? =some (.cells #[.float .f64 om,.slice av nv cv,.slice aa na ca] 87 (0,0))∧NN w' p l)
  (fun oq v _ _ _ _=> match oq with | 0=> v=.pointer (some ⟨gs,1,none⟩) | 1=> v=.slice av nv cv | 2=> v=.int .i64 nv | 3=> v=p | 4=> ∃a c,v=.slice a nv c | 5=> v=.int .i64 nv | 6=> v=.bool false | 7=> v=.bool false | 8=> v=.pointer (some ⟨gs,2,none⟩) | 9=> v=.slice aa na ca | 10=> v=.int .i64 na | 11=> v=p | 12=> ∃a c,v=.slice a na c | 13=> v=.int .i64 na | 14=> v=.bool false | 15=> v=.bool false | _=> True) (by kernel_rfl) ?hSm (fun _ _ hb h=> ⟨zAi hb h.1,h.2.below' hb⟩) (fun _ _ _ _ _ _ _ _ _ h=> h) ?kW ?gK
 case hSm=> exact ⟨zAi (Below.refl _ _).drew HS.out,HP.out.below (Below.refl _ _).drew (Nat.le_refl _)⟩
 case kW=>
  delta Owed
  simp only [zBb,Act.put,List.setIfInBounds_toArray,lz,ls];refine Each.cons rfl ?_ (Each.cons rfl ?_ (Each.cons rfl ?_ (Each.cons rfl ?_ (Each.cons rfl ?_ (Each.cons rfl ?_ (Each.cons rfl ?_ (Each.cons rfl ?_ (Each.cons rfl ?_ (Each.cons rfl ?_ (Each.cons rfl ?_ (Each.cons rfl ?_ (Each.cons rfl ?_ (Each.cons rfl ?_ (Each.cons rfl ?_ (Each.cons rfl ?_ Each.nil)))))))))))))))
  all_goals intro vs w2 aV hS2 hR2 K hK;try simp only [lz,ls] at hK⊢
  · go_simp;exact shP hK
  · have h0:vs 0=_:=exR (hR2 0 (by kernel_rfl)) (fun _ _ h=> h);have k0:=(zAb hS2.1).1 1 _ rfl;have k1:=(zAb hS2.1).1 2 _ rfl;simp only [h0] at hK⊢;go_simp;exact shP hK
  · have h1:vs 1=_:=exR (hR2 1 (by kernel_rfl)) (fun _ _ h=> h);simp only [h1] at hK⊢;go_simp;exact shP hK
  · go_simp;exact shP hK
  · have h3:vs 3=_:=exR (hR2 3 (by kernel_rfl)) (fun _ _ h=> h);simp only [h3] at hK⊢;rw [if_pos (by rfl)];go_wp2_with (go_at_call 106;refine (zDi p l _ hS2.2 (by have:=HG.out.len;omega)).mono ?_;rintro e w3 ⟨v,xs,rfl,aC,_,hb⟩;obtain ⟨ar,cr,rfl⟩:=(IsSl.of_own aC).form;clear aC;rw [HK.out]);exact hK.out _ _ hb ⟨ar,cr,rfl⟩
  · obtain ⟨_,_,_,H4⟩:=hR2 4 (by kernel_rfl);obtain ⟨a4,c4,h4⟩:=H4;simp only [h4] at hK⊢;go_simp;exact shP hK
  · have h2:vs 2=_:=exR (hR2 2 (by kernel_rfl)) (fun _ _ h=> h);have h5:vs 5=_:=exR (hR2 5 (by kernel_rfl)) (fun _ _ h=> h);simp only [h2,h5] at hK⊢;go_simp;exact shP hK
  · have h6:vs 6=_:=exR (hR2 6 (by kernel_rfl)) (fun _ _ h=> h);simp only [h6] at hK⊢;go_simp;exact shP hK
  · have h7:vs 7=_:=exR (hR2 7 (by kernel_rfl)) (fun _ _ h=> h);simp only [h7] at hK⊢;rw [if_pos (by rfl)];go_simp;exact shP hK
  · have h7:vs 7=_:=exR (hR2 7 (by kernel_rfl)) (fun _ _ h=> h);have h8:vs 8=_:=exR (hR2 8 (by kernel_rfl)) (fun _ _ h=> h);have k0:=(zAb hS2.1).1 1 _ rfl;have k1:=(zAb hS2.1).1 2 _ rfl;simp only [h7,h8] at hK⊢;rw [if_pos (by rfl)];go_simp;exact shP hK
  · have h7:vs 7=_:=exR (hR2 7 (by kernel_rfl)) (fun _ _ h=> h);have h9:vs 9=_:=exR (hR2 9 (by kernel_rfl)) (fun _ _ h=> h);simp only [h7,h9] at hK⊢;rw [if_pos (by rfl)];go_simp;exact shP hK
  · have h7:vs 7=_:=exR (hR2 7 (by kernel_rfl)) (fun _ _ h=> h);simp only [h7] at hK⊢;rw [if_pos (by rfl)];go_simp;exact shP hK
  · have h7:vs 7=_:=exR (hR2 7 (by kernel_rfl)) (fun _ _ h=> h);have bQ:vs 11=_:=exR (hR2 11 (by kernel_rfl)) (fun _ _ h=> h);simp only [h7,bQ] at hK⊢;rw [if_pos (by rfl)];go_wp2_with (go_at_call 107;refine (nbranches_any p l _ hS2.2 (by have:=HG.out.len;omega)).mono ?_;rintro e w3 ⟨v,xs,rfl,aC,_,hb⟩;obtain ⟨ar,cr,rfl⟩:=(IsSl.of_own aC).form;clear aC;rw [HM.out]);exact hK.out _ _ hb ⟨ar,cr,rfl⟩
  · have h7:vs 7=_:=exR (hR2 7 (by kernel_rfl)) (fun _ _ h=> h);obtain ⟨_,_,_,H12⟩:=hR2 12 (by kernel_rfl);obtain ⟨a12,c12,bW⟩:=H12;simp only [h7,bW] at hK⊢;rw [if_pos (by rfl)];go_simp;exact shP hK
  · have h7:vs 7=_:=exR (hR2 7 (by kernel_rfl)) (fun _ _ h=> h);have bX:vs 10=_:=exR (hR2 10 (by kernel_rfl)) (fun _ _ h=> h);have bV:vs 13=_:=exR (hR2 13 (by kernel_rfl)) (fun _ _ h=> h);simp only [h7,bX,bV] at hK⊢;rw [if_pos (by rfl)];go_simp;exact shP hK
  · have h7:vs 7=_:=exR (hR2 7 (by kernel_rfl)) (fun _ _ h=> h);have bZ:vs 14=_:=exR (hR2 14 (by kernel_rfl)) (fun _ _ h=> h);simp only [h7,bZ] at hK⊢;go_simp;exact shP hK
 case gK=>
  intro vs wx lo iB bK hSx hRx dN;have h0:vs 0=_:=(hRx 0 (by kernel_rfl)).1;have h1:vs 1=_:=(hRx 1 (by kernel_rfl)).1;have h2:vs 2=_:=(hRx 2 (by kernel_rfl)).1;have h3:vs 3=_:=(hRx 3 (by kernel_rfl)).1;have H4:=(hRx 4 (by kernel_rfl)).1;obtain ⟨a4,c4,h4⟩:=H4;have h5:vs 5=_:=(hRx 5 (by kernel_rfl)).1;have h6:vs 6=_:=(hRx 6 (by kernel_rfl)).1;have h7:vs 7=_:=(hRx 7 (by kernel_rfl)).1;have h8:vs 8=_:=(hRx 8 (by kernel_rfl)).1;have h9:vs 9=_:=(hRx 9 (by kernel_rfl)).1;have bX:vs 10=_:=(hRx 10 (by kernel_rfl)).1;have bQ:vs 11=_:=(hRx 11 (by kernel_rfl)).1;have H12:=(hRx 12 (by kernel_rfl)).1;obtain ⟨a12,c12,bW⟩:=H12;have bV:vs 13=_:=(hRx 13 (by kernel_rfl)).1;have bZ:vs 14=_:=(hRx 14 (by kernel_rfl)).1;have cM:vs 15=_:=(hRx 15 (by kernel_rfl)).1;simp only [zBb,Act.put,List.setIfInBounds_toArray,lz,ls,h0,h1,h2,h3,h4,h5,h6,h7,h8,h9,bX,bQ,bW,bV,bZ,cM];clear hRx dN;have hb:=zAt bK;have aG:=hid (zAd eP.out hb);refine zAr (i:=16) (by kernel_rfl) rfl (fun K hK=> ?_);go_simp;refine hK.out _ _ ?_;clear hK;refine wpAny_done (by kernel_rfl) ?_ _;go_wp2
  (try simp only [Exit.inBlock,Exit.then])
  (try rw [Exit.noGoto_ret])
  go_ret;exact ⟨by rw [HW.out];rfl,aG.out⟩
theorem at_any (f:FuncId) (cap v:Value) (j:Nat) (b:Bool) (xs:List Cx) (s:ByteArray) (w:World) (hv:IsSl w 1 v xs.length (xs.map mkC)) (hj:b=true→j < xs.length)
 (dK:∀ (args:Array Value) (w':World),(callFunc f args).run Tryz.prog w'=.ok (.enter f args) w')
 (hf:Calls Tryz.prog f #[cap,.string s] w fun e w''=> e=.returned (.tuple #[.int .i64 j,.bool b])∧w=w''):
 Calls Tryz.prog 73 #[.func (.func f) #[cap] #[],v,.string s] w fun e w'=> e=.returned (.tuple #[mkC (if b=true then xs.getD j (0,0) else (0,0)),.bool b])∧Below w.heap.size w w':=by
 obtain ⟨i0,hi,cG,bD,cB⟩:=info_parts zFh;obtain ⟨a,c,rfl⟩:=hv.form;have HF:=hid hf;clear hf;cases b
 · go_enter Tryz.func73,Tryz.ntmps73;go_wp2_with (first | (refine HF.out.mono ?_;rintro e w' ⟨rfl,rfl⟩) | (go_simp;refine HF.out.mono ?_;rintro e w' ⟨rfl,rfl⟩))
   (try rw [Exit.noGoto_ret])
   refine bodyPost_ret (v:=.tuple #[.complex .f64 0 0,.bool false]) ?_ rfl ⟨rfl,Below.refl _ _⟩;rw [results_tmp2 rfl];rfl
 · obtain ⟨g,o,x0,aZ,hg,hc,pW⟩:=IsSl.at1 Tryz.underlying41 hi bD hv (hj rfl);obtain ⟨x,hx,rfl⟩:=map_getElem? pW;clear hj;have HX:=hid (show xs.getD j (0,0)=x by rw [List.getD_eq_getElem?_getD,hx];rfl);unfold mkC at hc;clear hx pW;go_enter Tryz.func73,Tryz.ntmps73;go_wp2_with (first | (refine HF.out.mono ?_;rintro e w' ⟨rfl,rfl⟩) | (go_simp;refine HF.out.mono ?_;rintro e w' ⟨rfl,rfl⟩))
   (try rw [Exit.noGoto_ret])
   refine bodyPost_ret (v:=.tuple #[mkC x,.bool true]) ?_ rfl ⟨by rw [←HX.out];simp,Below.refl _ _⟩;rw [results_tmp2 rfl];rfl
theorem enter_Place (args:Array Value) (w:World):(callFunc 74 args).run Tryz.prog w=.ok (.enter 74 args) w:=by
 have h : (Tryz.f74.name == "runtime.NumGoroutine") = false := by kernel_rfl
 have h2:Tryz.f74.body.isNone=false:=by kernel_rfl
 simp only [callFunc,Sem.run_bind,run_program,Result.andThen_ok,Tryz.func74,h,h2,Bool.false_eq_true,if_false,Sem.run_pure]
def vltS (b:Bool) (l:List El) (xs:List Cx) (na:Nat) (t:ByteArray):Cx × Int:=
 if zFb b xs.length na (nds l).length (brs l).length≠0 then ((0,0),zFb b xs.length na (nds l).length (brs l).length)
 else if has (nds l) t=true then (xs.getD (plI (nds l) t).toNat (0,0),0) else if t.toList= [48] then ((0,0),0) else ((0,0),10)
theorem fits_zero {b:Bool} {nv na k m:Nat} (h:zFb b nv na k m=0):b=false∧nv=k∧na=m:=by
 unfold zFb at h;cases b
 · rw [if_neg (by simp)] at h
   by_cases h2:nv≠k∨na≠m
   · rw [if_pos h2] at h;cases h
   · exact ⟨rfl,by omega,by omega⟩
 · rw [if_pos rfl] at h;cases h
theorem pl_in2 {l:List ByteArray} {s:ByteArray} (h:has l s=true):∃k:Nat,plI l s=(k:Int)∧k < l.length:=by
 refine ⟨l.findIdx fun u=> u.toList==s.toList,by unfold plI;rw [if_pos h],?_⟩;rw [List.findIdx_lt_length];obtain ⟨u,hu,h2⟩:=List.any_eq_true.1 h;exact ⟨u,hu,h2⟩
end Go.Proofs.YtdepiggjneoopaaGreatDoor
