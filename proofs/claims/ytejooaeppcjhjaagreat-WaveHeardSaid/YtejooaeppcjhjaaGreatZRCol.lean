/- a part of the proof of the last text -/
import Derived.Test.YtejooaeppcjhjaaGreatZMRLx
namespace Go.Proofs.YtejooaeppcjhjaaGreat
set_option linter.all false
set_option maxHeartbeats 4000000
set_option maxRecDepth 100000
open Go.RowKit
def ovr (a b:Bool):Bool:=!(a && b)
theorem ovr_stay {a b c:Bool} (h:ovr a b=true):ovr a (b && c)=true:=by cases a <;> cases b <;> first | rfl | cases h
theorem ovr_next {a b c:Bool} (h:ovr a b=false):ovr a (b && c)=!c:=by cases a <;> cases b <;> first | rfl | cases h
theorem rcol_any (B n g k:Nat) (vR vO:Value) (V:Nat→Value) (M:Nat→List Cx) (ord:List Int) (odd ties:Bool) (s:Es) (w:World) (h:RLw B w g vR vO n n n V M ord odd ties) (hs:RLs n s M ord odd) (hk:k < n) (hn:n≤64) (hf:FinE n s k):
 Calls Tryz.prog 98 #[.pointer (some ⟨g,0,none⟩),.int .i64 k] w (RetCol B n g vR vO (zDu n s k) w):=by
 obtain ⟨bq,bc,h⟩:=h.norm (by omega);obtain ⟨aR,cR,rfl⟩:=(IsSl.of_own h.oR).form;obtain ⟨aO,cO,rfl⟩:=(IsSl.of_own h.oO).form;obtain ⟨ir,hir,hr0,hr1,hr2⟩:=info_parts infoCs;obtain ⟨ii,hii,hi0,hi1,hi2⟩:=info_parts zHf;obtain ⟨gR,hgR⟩:∃gR,(Value.slice aR n cR).ownBlock=some gR:=by obtain ⟨gR,_,_,_,_,_,_,_,hgR,_⟩:=zCp Tryz.underlying152 hir hr1 h.oR hk;exact ⟨gR,hgR⟩
 obtain ⟨gO,hgO⟩:∃gO,(Value.slice aO n cO).ownBlock=some gO:=by obtain ⟨gO,_,_,_,_,_,_,_,hgO,_⟩:=zCp Tryz.underlying153 hii hi1 h.oO hk;exact ⟨gO,hgO⟩
 have HGR:=hid hgR;have HGO:=hid hgO;have HL:=hid h;have HLS:=hid hs;have HKN:=hid hk;have HFC:=hid (hf.col hk);have HN:=hid hn;obtain ⟨C,hC⟩:∃C,colL n s.R k=C:=⟨_,rfl⟩;have HC:=hid hC;have HCK:=hid (show∀i,i < n→ck ((M i).getD k (0,0))=C.getD i (0,0) from fun i hi=> by rw [←hC,colL_get hi];exact hs.num i k hi hk);clear hgR hgO h hs hf hC;go_enter Tryz.func98,Tryz.ntmps98;go_wp2
 go_loopw [5,6] (fun b i wr=> ∃p:Nat,k≤p∧p≤n∧i=.int .i64 p∧b=.int .i64 (bI (rbS C k (p - k)))∧RLw B wr g (.slice aR n cR) (.slice aO n cO) n n n (fun i=> .slice (some ⟨bq i,0,none⟩) n (bc i)) M ord odd ties∧Below B w wr) (fun _ i _=> n - (intOf i).toNat)
 case atStart=> exact ⟨k,Nat.le_refl _,by omega,by go_num,by rw [Nat.sub_self];rfl,HL.out,Below.refl _ _⟩
 case round=>
  obtain ⟨p,hkp,hpn,rfl,rfl,hl,hb⟩:=hrel;have HLr:=hid hl;have HBr:=hid hb;clear hl hb;have hpk:k+(p - k)=p:=by omega
  have HPK:=hid hpk;have hp1:p+1 - k=p - k+1:=by omega
  have HP1:=hid hp1;clear hp1 hpk;have hbnd:=HN.out
  by_cases hlt:p < n
  · have c1:=(zAa HLr.out.box).1 1 _ rfl;have c0:=(zAa HLr.out.box).1 0 _ rfl;have HPN:=hid hlt;obtain ⟨r1,_,r3⟩:=HLr.out.rc hlt HGR.out;have hat:∀w',(Instr.indexAt 70 (.slice (some ⟨bq p,0,none⟩) n (bc p)) (.int .i64 k)).run Tryz.prog w'=.ok (.pointer (some ⟨bq p,k,none⟩)) w':=fun w'=> zBq HKN.out w'
    obtain ⟨x1,x2,hxz⟩:∃x1 x2,(M p).getD k (0,0)=(x1,x2):=⟨_,_,rfl⟩;have HXC:=hid (show wr.cell? ⟨bq p,k,none⟩=some (.complex .f64 x1 x2) by have h:=(HLr.out.nc hlt hk).1;rw [hxz] at h;exact h);have HXA:=hid (show C.getD (k+(p - k)) (0,0)=(fc x1,fc x2) by rw [HPK.out,←HCK.out p hlt,hxz];rfl);clear hxz;have nc:=HXC.out;cases hz:zFy (fc x1,fc x2)
    rotate_left
    · have hcz:(FloatKind.f64.format.order x1 0==some .eq && FloatKind.f64.format.order x2 0==some .eq)=true:=by rw [czero_of];exact hz
      have HZ:=hid (show zFy (C.getD (k+(p - k)) (0,0))=true by rw [HXA.out];exact hz);clear hz;go_wp2_with fail
      (try simp only [Exit.inBlock,Exit.then])
      go_wp2_with fail;go_roundw
      case rel=> exact ⟨p+1,by omega,by omega,by go_num,by rw [HP1.out,rb_zero HZ.out],HLr.out,HBr.out⟩
      case measure=> simp [intOf];omega
    have hcz:(FloatKind.f64.format.order x1 0==some .eq && FloatKind.f64.format.order x2 0==some .eq)=false:=by rw [czero_of];exact hz
    have HZ:=hid (show zFy (C.getD (k+(p - k)) (0,0))=false by rw [HXA.out];exact hz);clear hz;go_upto_region 6 with fail;clear r1 nc c1 c0 hcz;rcases hrb:rbS C k (p - k) with _ | b
    · have HRB:=hid hrb;clear hrb
      as_aux_lemma=>
       refine wp_region_any (by kernel_rfl) ?_;change wpAny _ _ _ _ _ _ _ (World.drew _);refine zAy [⟨some 33,0, []⟩,⟨some 34,1, []⟩,⟨some 35,2, []⟩,⟨some 36,3, []⟩,⟨some 37,4, []⟩,⟨some 38,5, []⟩,⟨some 39,6, []⟩,⟨some 40,7, []⟩,⟨some 41,8, []⟩,⟨some 42,9, []⟩,⟨some 43,10, []⟩,⟨some 44,11, []⟩,⟨some 45,12, []⟩,⟨some 46,13, []⟩,⟨some 47,14, []⟩,⟨some 48,15, []⟩,⟨some 49,16, []⟩,⟨some 50,17, []⟩,⟨some 51,18, []⟩,⟨some 52,19, []⟩,⟨some 53,20, []⟩,⟨some 54,21, []⟩,⟨some 55,22, []⟩,⟨some 56,23, []⟩,⟨some 57,24, []⟩,⟨some 58,25, []⟩,⟨some 59,26, []⟩]
        (fun w'=> RLw B w' g (.slice aR n cR) (.slice aO n cO) n n n (fun i=> .slice (some ⟨bq i,0,none⟩) n (bc i)) M ord odd ties)
        (fun oq v _ _ _ _=> match oq with | 0=> v=.int .i64 (-1) | 1=> v=.bool true | 2=> v=.bool true | 3=> v=undef | 4=> v=undef | 5=> v=undef | 6=> v=undef | 7=> v=undef | 8=> v=undef | 9=> v=undef | 10=> v=undef | 11=> v=undef | 12=> v=undef | 13=> v=undef | 14=> v=undef | 15=> v=undef | 16=> v=undef | 17=> v=undef | 18=> v=undef | 19=> v=undef | 20=> v=undef | 21=> v=undef | 22=> v=undef | 23=> v=undef | 24=> v=undef | 25=> v=undef | 26=> v=.bool true | _=> True) (by kernel_rfl) ?hSa (fun _ _ hb h=> h.later hb) (fun _ _ _ _ _ _ _ _ _ h=> h) ?hopa ?henda
       case hSa=> exact HLr.out.later (Below.refl _ _).drew
       case hopa=>
        delta Owed
        simp only [zBg,Act.put,List.setIfInBounds_toArray,lz,ls];refine Each.cons rfl ?_ (Each.cons rfl ?_ (Each.cons rfl ?_ (Each.cons rfl ?_ (Each.cons rfl ?_ (Each.cons rfl ?_ (Each.cons rfl ?_ (Each.cons rfl ?_ (Each.cons rfl ?_ (Each.cons rfl ?_ (Each.cons rfl ?_ (Each.cons rfl ?_ (Each.cons rfl ?_ (Each.cons rfl ?_ (Each.cons rfl ?_ (Each.cons rfl ?_ (Each.cons rfl ?_ (Each.cons rfl ?_ (Each.cons rfl ?_ (Each.cons rfl ?_ (Each.cons rfl ?_ (Each.cons rfl ?_ (Each.cons rfl ?_ (Each.cons rfl ?_ (Each.cons rfl ?_ (Each.cons rfl ?_ (Each.cons rfl ?_ Each.nil))))))))))))))))))))))))))
        all_goals intro vs w2 hb2 hS2 hR2 K hK;try simp only [lz,ls] at hK⊢
        · go_simp;exact shP hK
        · have h0:vs 0=_:=exR (hR2 0 (by kernel_rfl)) (fun _ _ h=> h);simp only [h0] at hK⊢;go_simp;exact shP hK
        · have h1:vs 1=_:=exR (hR2 1 (by kernel_rfl)) (fun _ _ h=> h);simp only [h1] at hK⊢;go_simp;exact shP hK
        · have h2:vs 2=_:=exR (hR2 2 (by kernel_rfl)) (fun _ _ h=> h);simp only [h2] at hK⊢;rw [if_neg (by intro hh;exact absurd (show false=true from hh) (by decide))];exact shP hK
        · have h2:vs 2=_:=exR (hR2 2 (by kernel_rfl)) (fun _ _ h=> h);have h3:vs 3=_:=exR (hR2 3 (by kernel_rfl)) (fun _ _ h=> h);simp only [h2,h3] at hK⊢;rw [if_neg (by intro hh;exact absurd (show false=true from hh) (by decide))];exact shP hK
        · have h2:vs 2=_:=exR (hR2 2 (by kernel_rfl)) (fun _ _ h=> h);have h4:vs 4=_:=exR (hR2 4 (by kernel_rfl)) (fun _ _ h=> h);simp only [h2,h4] at hK⊢;rw [if_neg (by intro hh;exact absurd (show false=true from hh) (by decide))];exact shP hK
        · have h2:vs 2=_:=exR (hR2 2 (by kernel_rfl)) (fun _ _ h=> h);have h5:vs 5=_:=exR (hR2 5 (by kernel_rfl)) (fun _ _ h=> h);simp only [h2,h5] at hK⊢;rw [if_neg (by intro hh;exact absurd (show false=true from hh) (by decide))];exact shP hK
        · have h2:vs 2=_:=exR (hR2 2 (by kernel_rfl)) (fun _ _ h=> h);simp only [h2] at hK⊢;rw [if_neg (by intro hh;exact absurd (show false=true from hh) (by decide))];exact shP hK
        · have h2:vs 2=_:=exR (hR2 2 (by kernel_rfl)) (fun _ _ h=> h);have h6:vs 6=_:=exR (hR2 6 (by kernel_rfl)) (fun _ _ h=> h);have h7:vs 7=_:=exR (hR2 7 (by kernel_rfl)) (fun _ _ h=> h);simp only [h2,h6,h7] at hK⊢;rw [if_neg (by intro hh;exact absurd (show false=true from hh) (by decide))];exact shP hK
        · have h2:vs 2=_:=exR (hR2 2 (by kernel_rfl)) (fun _ _ h=> h);have h8:vs 8=_:=exR (hR2 8 (by kernel_rfl)) (fun _ _ h=> h);simp only [h2,h8] at hK⊢;rw [if_neg (by intro hh;exact absurd (show false=true from hh) (by decide))];exact shP hK
        · have h2:vs 2=_:=exR (hR2 2 (by kernel_rfl)) (fun _ _ h=> h);simp only [h2] at hK⊢;rw [if_neg (by intro hh;exact absurd (show false=true from hh) (by decide))];exact shP hK
        · have h2:vs 2=_:=exR (hR2 2 (by kernel_rfl)) (fun _ _ h=> h);have h9:vs 9=_:=exR (hR2 9 (by kernel_rfl)) (fun _ _ h=> h);have h10:vs 10=_:=exR (hR2 10 (by kernel_rfl)) (fun _ _ h=> h);simp only [h2,h9,h10] at hK⊢;rw [if_neg (by intro hh;exact absurd (show false=true from hh) (by decide))];exact shP hK
        · have h2:vs 2=_:=exR (hR2 2 (by kernel_rfl)) (fun _ _ h=> h);have h11:vs 11=_:=exR (hR2 11 (by kernel_rfl)) (fun _ _ h=> h);simp only [h2,h11] at hK⊢;rw [if_neg (by intro hh;exact absurd (show false=true from hh) (by decide))];exact shP hK
        · have h2:vs 2=_:=exR (hR2 2 (by kernel_rfl)) (fun _ _ h=> h);have h12:vs 12=_:=exR (hR2 12 (by kernel_rfl)) (fun _ _ h=> h);simp only [h2,h12] at hK⊢;rw [if_neg (by intro hh;exact absurd (show false=true from hh) (by decide))];exact shP hK
        · have h2:vs 2=_:=exR (hR2 2 (by kernel_rfl)) (fun _ _ h=> h);simp only [h2] at hK⊢;rw [if_neg (by intro hh;exact absurd (show false=true from hh) (by decide))];exact shP hK
        · have h2:vs 2=_:=exR (hR2 2 (by kernel_rfl)) (fun _ _ h=> h);have h14:vs 14=_:=exR (hR2 14 (by kernel_rfl)) (fun _ _ h=> h);simp only [h2,h14] at hK⊢;rw [if_neg (by intro hh;exact absurd (show false=true from hh) (by decide))];exact shP hK
        · have h2:vs 2=_:=exR (hR2 2 (by kernel_rfl)) (fun _ _ h=> h);have h15:vs 15=_:=exR (hR2 15 (by kernel_rfl)) (fun _ _ h=> h);simp only [h2,h15] at hK⊢;rw [if_neg (by intro hh;exact absurd (show false=true from hh) (by decide))];exact shP hK
        · have h2:vs 2=_:=exR (hR2 2 (by kernel_rfl)) (fun _ _ h=> h);have h16:vs 16=_:=exR (hR2 16 (by kernel_rfl)) (fun _ _ h=> h);simp only [h2,h16] at hK⊢;rw [if_neg (by intro hh;exact absurd (show false=true from hh) (by decide))];exact shP hK
        · have h2:vs 2=_:=exR (hR2 2 (by kernel_rfl)) (fun _ _ h=> h);simp only [h2] at hK⊢;rw [if_neg (by intro hh;exact absurd (show false=true from hh) (by decide))];exact shP hK
        · have h2:vs 2=_:=exR (hR2 2 (by kernel_rfl)) (fun _ _ h=> h);have h17:vs 17=_:=exR (hR2 17 (by kernel_rfl)) (fun _ _ h=> h);have h18:vs 18=_:=exR (hR2 18 (by kernel_rfl)) (fun _ _ h=> h);simp only [h2,h17,h18] at hK⊢;rw [if_neg (by intro hh;exact absurd (show false=true from hh) (by decide))];exact shP hK
        · have h2:vs 2=_:=exR (hR2 2 (by kernel_rfl)) (fun _ _ h=> h);have h19:vs 19=_:=exR (hR2 19 (by kernel_rfl)) (fun _ _ h=> h);simp only [h2,h19] at hK⊢;rw [if_neg (by intro hh;exact absurd (show false=true from hh) (by decide))];exact shP hK
        · have h2:vs 2=_:=exR (hR2 2 (by kernel_rfl)) (fun _ _ h=> h);simp only [h2] at hK⊢;rw [if_neg (by intro hh;exact absurd (show false=true from hh) (by decide))];exact shP hK
        · have h2:vs 2=_:=exR (hR2 2 (by kernel_rfl)) (fun _ _ h=> h);have h20:vs 20=_:=exR (hR2 20 (by kernel_rfl)) (fun _ _ h=> h);have h21:vs 21=_:=exR (hR2 21 (by kernel_rfl)) (fun _ _ h=> h);simp only [h2,h20,h21] at hK⊢;rw [if_neg (by intro hh;exact absurd (show false=true from hh) (by decide))];exact shP hK
        · have h2:vs 2=_:=exR (hR2 2 (by kernel_rfl)) (fun _ _ h=> h);have h22:vs 22=_:=exR (hR2 22 (by kernel_rfl)) (fun _ _ h=> h);simp only [h2,h22] at hK⊢;rw [if_neg (by intro hh;exact absurd (show false=true from hh) (by decide))];exact shP hK
        · have h2:vs 2=_:=exR (hR2 2 (by kernel_rfl)) (fun _ _ h=> h);have h13:vs 13=_:=exR (hR2 13 (by kernel_rfl)) (fun _ _ h=> h);have h23:vs 23=_:=exR (hR2 23 (by kernel_rfl)) (fun _ _ h=> h);simp only [h2,h13,h23] at hK⊢;rw [if_neg (by intro hh;exact absurd (show false=true from hh) (by decide))];exact shP hK
        · have h2:vs 2=_:=exR (hR2 2 (by kernel_rfl)) (fun _ _ h=> h);have h13:vs 13=_:=exR (hR2 13 (by kernel_rfl)) (fun _ _ h=> h);have h24:vs 24=_:=exR (hR2 24 (by kernel_rfl)) (fun _ _ h=> h);simp only [h2,h13,h24] at hK⊢;rw [if_neg (by intro hh;exact absurd (show false=true from hh) (by decide))];exact shP hK
        · have h2:vs 2=_:=exR (hR2 2 (by kernel_rfl)) (fun _ _ h=> h);have h25:vs 25=_:=exR (hR2 25 (by kernel_rfl)) (fun _ _ h=> h);simp only [h2,h25] at hK⊢;go_simp;exact shP hK
       case henda=>
        intro vs wx lo hiv hbx hSx hRx hdx;have h0:vs 0=_:=(hRx 0 (by kernel_rfl)).1;have h1:vs 1=_:=(hRx 1 (by kernel_rfl)).1;have h2:vs 2=_:=(hRx 2 (by kernel_rfl)).1;have h3:vs 3=_:=(hRx 3 (by kernel_rfl)).1;have h4:vs 4=_:=(hRx 4 (by kernel_rfl)).1;have h5:vs 5=_:=(hRx 5 (by kernel_rfl)).1;have h6:vs 6=_:=(hRx 6 (by kernel_rfl)).1;have h7:vs 7=_:=(hRx 7 (by kernel_rfl)).1;have h8:vs 8=_:=(hRx 8 (by kernel_rfl)).1;have h9:vs 9=_:=(hRx 9 (by kernel_rfl)).1;have h10:vs 10=_:=(hRx 10 (by kernel_rfl)).1;have h11:vs 11=_:=(hRx 11 (by kernel_rfl)).1;have h12:vs 12=_:=(hRx 12 (by kernel_rfl)).1;have h13:vs 13=_:=(hRx 13 (by kernel_rfl)).1;have h14:vs 14=_:=(hRx 14 (by kernel_rfl)).1;have h15:vs 15=_:=(hRx 15 (by kernel_rfl)).1;have h16:vs 16=_:=(hRx 16 (by kernel_rfl)).1;have h17:vs 17=_:=(hRx 17 (by kernel_rfl)).1;have h18:vs 18=_:=(hRx 18 (by kernel_rfl)).1;have h19:vs 19=_:=(hRx 19 (by kernel_rfl)).1;have h20:vs 20=_:=(hRx 20 (by kernel_rfl)).1;have h21:vs 21=_:=(hRx 21 (by kernel_rfl)).1;have h22:vs 22=_:=(hRx 22 (by kernel_rfl)).1;have h23:vs 23=_:=(hRx 23 (by kernel_rfl)).1;have h24:vs 24=_:=(hRx 24 (by kernel_rfl)).1;have h25:vs 25=_:=(hRx 25 (by kernel_rfl)).1;have h26:vs 26=_:=(hRx 26 (by kernel_rfl)).1;simp only [zBg,Act.put,List.setIfInBounds_toArray,lz,ls,h0,h1,h2,h3,h4,h5,h6,h7,h8,h9,h10,h11,h12,h13,h14,h15,h16,h17,h18,h19,h20,h21,h22,h23,h24,h25,h26];have hb:=zAq hbx;have HL2:=hid (HLr.out.later hb);have HB2:=hid (HBr.out.trans (hb.mono HLr.out.lt));clear hRx hdx hbx hSx hiv hb;refine wpAny_done (by kernel_rfl) ?_ _;go_wp2_with fail;go_roundw
        case rel=> exact ⟨p+1,by omega,by omega,by go_num,by rw [HP1.out,rb_first HZ.out HRB.out,HPK.out];rfl,HL2.out,HB2.out⟩
        case measure=> simp [intOf];omega
    · have HRB:=hid hrb;have HBK:=hid (rb_range hrb);clear hrb;have hbn:b < n:=by have:=HBK.out;omega
      have HBN:=hid hbn;have hb0:decide ((b:Int) < 0)=false:=decide_eq_false (by omega);have hatb:∀w',(Instr.indexAt 70 (.slice (some ⟨bq b,0,none⟩) n (bc b)) (.int .i64 k)).run Tryz.prog w'=.ok (.pointer (some ⟨bq b,k,none⟩)) w':=fun w'=> zBq HKN.out w'
      have hix:=(HLr.out.rc hbn HGR.out).2.2;obtain ⟨y1,y2,hyz⟩:∃y1 y2,(M b).getD k (0,0)=(y1,y2):=⟨_,_,rfl⟩;have HYC:=hid (show wr.cell? ⟨bq b,k,none⟩=some (.complex .f64 y1 y2) by have h:=(HLr.out.nc hbn hk).1;rw [hyz] at h;exact h);have HYA:=hid (show C.getD b (0,0)=(fc y1,fc y2) by rw [←HCK.out b hbn,hyz];rfl);clear hyz hbn
      as_aux_lemma=>
       refine wp_region_any (by kernel_rfl) ?_;change wpAny _ _ _ _ _ _ _ (World.drew _);refine zAy [⟨some 33,0, []⟩,⟨some 34,1, []⟩,⟨some 35,2, []⟩,⟨some 36,3, []⟩,⟨some 37,4, []⟩,⟨some 38,5, []⟩,⟨some 39,6, []⟩,⟨some 40,7, []⟩,⟨some 41,8, []⟩,⟨some 42,9, []⟩,⟨some 43,10, []⟩,⟨some 44,11, []⟩,⟨some 45,12, []⟩,⟨some 46,13, []⟩,⟨some 47,14, []⟩,⟨some 48,15, []⟩,⟨some 49,16, []⟩,⟨some 50,17, []⟩,⟨some 51,18, []⟩,⟨some 52,19, []⟩,⟨some 53,20, []⟩,⟨some 54,21, []⟩,⟨some 55,22, []⟩,⟨some 56,23, []⟩,⟨some 57,24, []⟩]
        (fun w'=> RLw B w' g (.slice aR n cR) (.slice aO n cO) n n n (fun i=> .slice (some ⟨bq i,0,none⟩) n (bc i)) M ord odd ties∧w'.cell? ⟨bq p,k,none⟩=some (.complex .f64 x1 x2)∧w'.cell? ⟨bq b,k,none⟩=some (.complex .f64 y1 y2))
        (fun oq v _ _ _ _=> match oq with | 0=> v=.int .i64 b | 1=> v=.bool false | 2=> v=.bool false | 3=> v=.pointer (some ⟨g,0,none⟩) | 4=> v=.pointer (some ⟨g,0,none⟩) | 5=> v=.pointer (some ⟨g,1,none⟩) | 6=> v=.slice aR n cR | 7=> v=.int .i64 p | 8=> v=.pointer (some ⟨gR,p,none⟩) | 9=> v=.slice (some ⟨bq p,0,none⟩) n (bc p) | 10=> v=.int .i64 k | 11=> v=.pointer (some ⟨bq p,k,none⟩) | 12=> v=.complex .f64 x1 x2 | 13=> ∃r1,v=Value.float .f64 r1∧fc r1=zDc (fc x1,fc x2) | 14=> v=.pointer (some ⟨g,0,none⟩) | 15=> v=.pointer (some ⟨g,0,none⟩) | 16=> v=.pointer (some ⟨g,1,none⟩) | 17=> v=.slice aR n cR | 18=> v=.int .i64 b | 19=> v=.pointer (some ⟨gR,b,none⟩) | 20=> v=.slice (some ⟨bq b,0,none⟩) n (bc b) | 21=> v=.int .i64 k | 22=> v=.pointer (some ⟨bq b,k,none⟩) | 23=> v=.complex .f64 y1 y2 | 24=> ∃r2,v=Value.float .f64 r2∧fc r2=zDc (fc y1,fc y2) | _=> True) (by kernel_rfl) ?hSb (fun _ _ hb h=> ⟨h.1.later hb,cell_later hb h.2.1,cell_later hb h.2.2⟩) (fun _ _ _ _ _ _ _ _ _ h=> h) ?hopb ?hendb
       case hSb=> exact ⟨HLr.out.later (Below.refl _ _).drew,cell_later (Below.refl _ _).drew HXC.out,cell_later (Below.refl _ _).drew HYC.out⟩
       case hopb=>
        delta Owed
        simp only [zBg,Act.put,List.setIfInBounds_toArray,lz,ls];refine Each.cons rfl ?_ (Each.cons rfl ?_ (Each.cons rfl ?_ (Each.cons rfl ?_ (Each.cons rfl ?_ (Each.cons rfl ?_ (Each.cons rfl ?_ (Each.cons rfl ?_ (Each.cons rfl ?_ (Each.cons rfl ?_ (Each.cons rfl ?_ (Each.cons rfl ?_ (Each.cons rfl ?_ (Each.cons rfl ?_ (Each.cons rfl ?_ (Each.cons rfl ?_ (Each.cons rfl ?_ (Each.cons rfl ?_ (Each.cons rfl ?_ (Each.cons rfl ?_ (Each.cons rfl ?_ (Each.cons rfl ?_ (Each.cons rfl ?_ (Each.cons rfl ?_ (Each.cons rfl ?_ Each.nil))))))))))))))))))))))))
        all_goals intro vs w2 hb2 hS2 hR2 K hK;try simp only [lz,ls] at hK⊢
        · go_simp;exact shP hK
        · have h0:vs 0=_:=exR (hR2 0 (by kernel_rfl)) (fun _ _ h=> h);simp only [h0] at hK⊢;go_simp;exact shP hK
        · have h1:vs 1=_:=exR (hR2 1 (by kernel_rfl)) (fun _ _ h=> h);simp only [h1] at hK⊢;go_simp;exact shP hK
        · have h2:vs 2=_:=exR (hR2 2 (by kernel_rfl)) (fun _ _ h=> h);simp only [h2] at hK⊢;rw [if_pos (by rfl)];go_simp;exact shP hK
        · have h2:vs 2=_:=exR (hR2 2 (by kernel_rfl)) (fun _ _ h=> h);have h3:vs 3=_:=exR (hR2 3 (by kernel_rfl)) (fun _ _ h=> h);simp only [h2,h3] at hK⊢;rw [if_pos (by rfl)];go_simp;exact shP hK
        · have h2:vs 2=_:=exR (hR2 2 (by kernel_rfl)) (fun _ _ h=> h);have h4:vs 4=_:=exR (hR2 4 (by kernel_rfl)) (fun _ _ h=> h);simp only [h2,h4] at hK⊢;rw [if_pos (by rfl)];go_simp;exact shP hK
        · have h2:vs 2=_:=exR (hR2 2 (by kernel_rfl)) (fun _ _ h=> h);have h5:vs 5=_:=exR (hR2 5 (by kernel_rfl)) (fun _ _ h=> h);have l1:=(zAa hS2.1.box).1 1 _ rfl;have l2:=(hS2.1.rc HPN.out HGR.out).1;have l2b:=(hS2.1.rc HBN.out HGR.out).1;have l3:=hS2.2.1;have l4:=hS2.2.2;simp only [h2,h5] at hK⊢;rw [if_pos (by rfl)];go_simp;exact shP hK
        · have h2:vs 2=_:=exR (hR2 2 (by kernel_rfl)) (fun _ _ h=> h);simp only [h2] at hK⊢;rw [if_pos (by rfl)];go_simp;exact shP hK
        · have h2:vs 2=_:=exR (hR2 2 (by kernel_rfl)) (fun _ _ h=> h);have h6:vs 6=_:=exR (hR2 6 (by kernel_rfl)) (fun _ _ h=> h);have h7:vs 7=_:=exR (hR2 7 (by kernel_rfl)) (fun _ _ h=> h);have l1:=(zAa hS2.1.box).1 1 _ rfl;have l2:=(hS2.1.rc HPN.out HGR.out).1;have l2b:=(hS2.1.rc HBN.out HGR.out).1;have l3:=hS2.2.1;have l4:=hS2.2.2;simp only [h2,h6,h7] at hK⊢;rw [if_pos (by rfl)];go_simp;exact shP hK
        · have h2:vs 2=_:=exR (hR2 2 (by kernel_rfl)) (fun _ _ h=> h);have h8:vs 8=_:=exR (hR2 8 (by kernel_rfl)) (fun _ _ h=> h);have l1:=(zAa hS2.1.box).1 1 _ rfl;have l2:=(hS2.1.rc HPN.out HGR.out).1;have l2b:=(hS2.1.rc HBN.out HGR.out).1;have l3:=hS2.2.1;have l4:=hS2.2.2;simp only [h2,h8] at hK⊢;rw [if_pos (by rfl)];go_simp;exact shP hK
        · have h2:vs 2=_:=exR (hR2 2 (by kernel_rfl)) (fun _ _ h=> h);simp only [h2] at hK⊢;rw [if_pos (by rfl)];go_simp;exact shP hK
        · have h2:vs 2=_:=exR (hR2 2 (by kernel_rfl)) (fun _ _ h=> h);have h9:vs 9=_:=exR (hR2 9 (by kernel_rfl)) (fun _ _ h=> h);have h10:vs 10=_:=exR (hR2 10 (by kernel_rfl)) (fun _ _ h=> h);have l1:=(zAa hS2.1.box).1 1 _ rfl;have l2:=(hS2.1.rc HPN.out HGR.out).1;have l2b:=(hS2.1.rc HBN.out HGR.out).1;have l3:=hS2.2.1;have l4:=hS2.2.2;simp only [h2,h9,h10] at hK⊢;rw [if_pos (by rfl)];go_simp;exact shP hK
        · have h2:vs 2=_:=exR (hR2 2 (by kernel_rfl)) (fun _ _ h=> h);have h11:vs 11=_:=exR (hR2 11 (by kernel_rfl)) (fun _ _ h=> h);have l1:=(zAa hS2.1.box).1 1 _ rfl;have l2:=(hS2.1.rc HPN.out HGR.out).1;have l2b:=(hS2.1.rc HBN.out HGR.out).1;have l3:=hS2.2.1;have l4:=hS2.2.2;simp only [h2,h11] at hK⊢;rw [if_pos (by rfl)];go_simp;exact shP hK
        · have h2:vs 2=_:=exR (hR2 2 (by kernel_rfl)) (fun _ _ h=> h);have h12:vs 12=_:=exR (hR2 12 (by kernel_rfl)) (fun _ _ h=> h);simp only [h2,h12] at hK⊢;rw [if_pos (by rfl)];go_wp2_with (go_at_call 147;refine (rsize1_any x1 x2 _).mono ?_;rintro e w3 ⟨v,nn,rfl,he,r1,rfl,hzz⟩;subst he);exact hK.out _ _ (zAg (Below.refl _ _) nn) ⟨r1,rfl,hzz⟩
        · have h2:vs 2=_:=exR (hR2 2 (by kernel_rfl)) (fun _ _ h=> h);simp only [h2] at hK⊢;rw [if_pos (by rfl)];go_simp;exact shP hK
        · have h2:vs 2=_:=exR (hR2 2 (by kernel_rfl)) (fun _ _ h=> h);have h14:vs 14=_:=exR (hR2 14 (by kernel_rfl)) (fun _ _ h=> h);simp only [h2,h14] at hK⊢;rw [if_pos (by rfl)];go_simp;exact shP hK
        · have h2:vs 2=_:=exR (hR2 2 (by kernel_rfl)) (fun _ _ h=> h);have h15:vs 15=_:=exR (hR2 15 (by kernel_rfl)) (fun _ _ h=> h);simp only [h2,h15] at hK⊢;rw [if_pos (by rfl)];go_simp;exact shP hK
        · have h2:vs 2=_:=exR (hR2 2 (by kernel_rfl)) (fun _ _ h=> h);have h16:vs 16=_:=exR (hR2 16 (by kernel_rfl)) (fun _ _ h=> h);have l1:=(zAa hS2.1.box).1 1 _ rfl;have l2:=(hS2.1.rc HPN.out HGR.out).1;have l2b:=(hS2.1.rc HBN.out HGR.out).1;have l3:=hS2.2.1;have l4:=hS2.2.2;simp only [h2,h16] at hK⊢;rw [if_pos (by rfl)];go_simp;exact shP hK
        · have h2:vs 2=_:=exR (hR2 2 (by kernel_rfl)) (fun _ _ h=> h);simp only [h2] at hK⊢;rw [if_pos (by rfl)];go_simp;exact shP hK
        · have h2:vs 2=_:=exR (hR2 2 (by kernel_rfl)) (fun _ _ h=> h);have h17:vs 17=_:=exR (hR2 17 (by kernel_rfl)) (fun _ _ h=> h);have h18:vs 18=_:=exR (hR2 18 (by kernel_rfl)) (fun _ _ h=> h);have l1:=(zAa hS2.1.box).1 1 _ rfl;have l2:=(hS2.1.rc HPN.out HGR.out).1;have l2b:=(hS2.1.rc HBN.out HGR.out).1;have l3:=hS2.2.1;have l4:=hS2.2.2;simp only [h2,h17,h18] at hK⊢;rw [if_pos (by rfl)];go_simp;exact shP hK
        · have h2:vs 2=_:=exR (hR2 2 (by kernel_rfl)) (fun _ _ h=> h);have h19:vs 19=_:=exR (hR2 19 (by kernel_rfl)) (fun _ _ h=> h);have l1:=(zAa hS2.1.box).1 1 _ rfl;have l2:=(hS2.1.rc HPN.out HGR.out).1;have l2b:=(hS2.1.rc HBN.out HGR.out).1;have l3:=hS2.2.1;have l4:=hS2.2.2;simp only [h2,h19] at hK⊢;rw [if_pos (by rfl)];go_simp;exact shP hK
        · have h2:vs 2=_:=exR (hR2 2 (by kernel_rfl)) (fun _ _ h=> h);simp only [h2] at hK⊢;rw [if_pos (by rfl)];go_simp;exact shP hK
        · have h2:vs 2=_:=exR (hR2 2 (by kernel_rfl)) (fun _ _ h=> h);have h20:vs 20=_:=exR (hR2 20 (by kernel_rfl)) (fun _ _ h=> h);have h21:vs 21=_:=exR (hR2 21 (by kernel_rfl)) (fun _ _ h=> h);have l1:=(zAa hS2.1.box).1 1 _ rfl;have l2:=(hS2.1.rc HPN.out HGR.out).1;have l2b:=(hS2.1.rc HBN.out HGR.out).1;have l3:=hS2.2.1;have l4:=hS2.2.2;simp only [h2,h20,h21] at hK⊢;rw [if_pos (by rfl)];go_simp;exact shP hK
        · have h2:vs 2=_:=exR (hR2 2 (by kernel_rfl)) (fun _ _ h=> h);have h22:vs 22=_:=exR (hR2 22 (by kernel_rfl)) (fun _ _ h=> h);have l1:=(zAa hS2.1.box).1 1 _ rfl;have l2:=(hS2.1.rc HPN.out HGR.out).1;have l2b:=(hS2.1.rc HBN.out HGR.out).1;have l3:=hS2.2.1;have l4:=hS2.2.2;simp only [h2,h22] at hK⊢;rw [if_pos (by rfl)];go_simp;exact shP hK
        · have h2:vs 2=_:=exR (hR2 2 (by kernel_rfl)) (fun _ _ h=> h);obtain ⟨_,_,_,H13⟩:=hR2 13 (by kernel_rfl);obtain ⟨r1,h13,hz13⟩:=H13;have h23:vs 23=_:=exR (hR2 23 (by kernel_rfl)) (fun _ _ h=> h);simp only [h2,h23,h13] at hK⊢;rw [if_pos (by rfl)];go_wp2_with (go_at_call 147;refine (rsize1_any y1 y2 _).mono ?_;rintro e w3 ⟨v,nn,rfl,he,r2,rfl,hzz⟩;subst he);exact hK.out _ _ (zAg (Below.refl _ _) nn) ⟨r2,rfl,hzz⟩
       case hendb=>
        intro vs wx lo hiv hbx hSx hRx hdx;have h0:vs 0=_:=(hRx 0 (by kernel_rfl)).1;have h1:vs 1=_:=(hRx 1 (by kernel_rfl)).1;have h2:vs 2=_:=(hRx 2 (by kernel_rfl)).1;have h3:vs 3=_:=(hRx 3 (by kernel_rfl)).1;have h4:vs 4=_:=(hRx 4 (by kernel_rfl)).1;have h5:vs 5=_:=(hRx 5 (by kernel_rfl)).1;have h6:vs 6=_:=(hRx 6 (by kernel_rfl)).1;have h7:vs 7=_:=(hRx 7 (by kernel_rfl)).1;have h8:vs 8=_:=(hRx 8 (by kernel_rfl)).1;have h9:vs 9=_:=(hRx 9 (by kernel_rfl)).1;have h10:vs 10=_:=(hRx 10 (by kernel_rfl)).1;have h11:vs 11=_:=(hRx 11 (by kernel_rfl)).1;have h12:vs 12=_:=(hRx 12 (by kernel_rfl)).1;have H13:=(hRx 13 (by kernel_rfl)).1;obtain ⟨r1,h13,hz13⟩:=H13;have h14:vs 14=_:=(hRx 14 (by kernel_rfl)).1;have h15:vs 15=_:=(hRx 15 (by kernel_rfl)).1;have h16:vs 16=_:=(hRx 16 (by kernel_rfl)).1;have h17:vs 17=_:=(hRx 17 (by kernel_rfl)).1;have h18:vs 18=_:=(hRx 18 (by kernel_rfl)).1;have h19:vs 19=_:=(hRx 19 (by kernel_rfl)).1;have h20:vs 20=_:=(hRx 20 (by kernel_rfl)).1;have h21:vs 21=_:=(hRx 21 (by kernel_rfl)).1;have h22:vs 22=_:=(hRx 22 (by kernel_rfl)).1;have h23:vs 23=_:=(hRx 23 (by kernel_rfl)).1;have H24:=(hRx 24 (by kernel_rfl)).1;obtain ⟨r2,h24,hz24⟩:=H24;simp only [zBg,Act.put,List.setIfInBounds_toArray,lz,ls,h0,h1,h2,h3,h4,h5,h6,h7,h8,h9,h10,h11,h12,h13,h14,h15,h16,h17,h18,h19,h20,h21,h22,h23,h24];have hb:=zAq hbx;have HL2:=hid (HLr.out.later hb);have HB2:=hid (HBr.out.trans (hb.mono HLr.out.lt));have HGT:=hid (show (FloatKind.f64.format.order r1 r2==some .gt)=cgt (C.getD (k+(p - k)) (0,0)) (C.getD b (0,0)) by rw [HXA.out,HYA.out];exact gt_of hz13 hz24);clear hRx hdx hbx hSx hiv hb hz13 h13 hz24 h24;refine zAt (i:=25) (by kernel_rfl) rfl (fun K hK=> ?_)
        (try rw [if_pos (by rfl)])
        go_simp;refine hK.out _ _ ?_;clear hK;refine zAt (i:=26) (by kernel_rfl) rfl (fun K hK=> ?_);go_simp;refine hK.out _ _ ?_;clear hK;refine wpAny_done (by kernel_rfl) ?_ _;cases hq:(FloatKind.f64.format.order r1 r2==some .gt)
        all_goals
         rw [HGT.out] at hq;have HQ:=hid hq;clear hq;go_wp2_with fail;go_roundw
         case rel=> exact ⟨p+1,by omega,by omega,by go_num,by first | (rw [HP1.out,rb_more HZ.out HRB.out HQ.out,HPK.out];rfl) | (rw [HP1.out,rb_less HZ.out HRB.out HQ.out]),HL2.out,HB2.out⟩
         case measure=> simp [intOf];omega
  · obtain rfl:n=p:=by omega
    have hcl:C.length=n:=by rw [←HC.out,colL_len]
    have HCR:=hid (show (rbS C k (n - k)=none∧zBx C k=(0,7))∨∃b,rbS C k (n - k)=some b∧zBx C k=((b:Int),0)∧k≤b∧b < n by
     have h:=choose_ref (c:=C) (k:=k) (by rw [←HC.out];exact HFC.out) (by rw [hcl];exact hk);rw [hcl] at h;exact h)
    clear hcl;have c0:=(zAa HLr.out.box).1 0 _ rfl;rcases HCR.out with ⟨h1,h2⟩ | ⟨b,h1,h2,hkb,hbn⟩
    · have HSE:=hid (stepE_bad (n:=n) (s:=s) (k:=k) (p:=0) (e:=7) (by rw [HC.out];exact h2) (by decide));rw [h1];unfold bI;clear h1 h2;go_wp2_with fail
      (try simp only [Exit.inBlock,Exit.then])
      (try rw [Exit.noGoto_ret])
      go_ret;rw [HSE.out];exact ⟨rfl,HBr.out,fun h=> absurd (show (7:Int)=0 from h) (by decide)⟩
    rw [h1];unfold bI;have HSE:=hid (stepE_ok (n:=n) (s:=s) (k:=k) (b:=b) (by rw [HC.out];exact h2));have HBN:=hid hbn;have hb0:decide ((b:Int) < 0)=false:=decide_eq_false (by omega);clear h1 h2 HCR HFC HC HCK HPK HP1;dsimp only;go_wp2_with fail
    go_loopw [7] (fun i wr=> ∃ (p:Nat) (t2:Bool),p≤n∧i=.int .i64 p∧RLw B wr g (.slice aR n cR) (.slice aO n cO) n n n (fun i=> .slice (some ⟨bq i,0,none⟩) n (bc i)) M ord odd t2∧Below B w wr) (fun i _=> n - (intOf i).toNat)
    case atStart=> exact ⟨k,ties,by omega,rfl,HLr.out,HBr.out⟩
    case round=>
     obtain ⟨p,t2,hpn,rfl,hl,hb⟩:=hrel;have HLi:=hid hl;have HBi:=hid hb;clear hl hb c0;have c0:=(zAa HLi.out.box).1 0 _ rfl;have hbnd:=HN.out
     by_cases hlt:p < n
     · have HPN:=hid hlt;go_wp2_with fail
       go_loopw [8] (fun j wr=> ∃ (q:Nat) (t3:Bool),q≤n∧j=.int .i64 q∧RLw B wr g (.slice aR n cR) (.slice aO n cO) n n n (fun i=> .slice (some ⟨bq i,0,none⟩) n (bc i)) M ord odd t3∧Below B w wr) (fun j _=> n - (intOf j).toNat)
       case atStart=> exact ⟨p+1,t2,by omega,by go_num,HLi.out,HBi.out⟩
       case round=>
        obtain ⟨q,t3,hqn,rfl,hl,hb⟩:=hrel;have HLj:=hid hl;have HBj:=hid hb;clear hl hb c0;have c0:=(zAa HLj.out.box).1 0 _ rfl
        by_cases hql:q < n
        · have HQN:=hid hql;have hat:∀w',(Instr.indexAt 70 (.slice (some ⟨bq p,0,none⟩) n (bc p)) (.int .i64 k)).run Tryz.prog w'=.ok (.pointer (some ⟨bq p,k,none⟩)) w':=fun w'=> zBq HKN.out w'
          have hatb:∀w',(Instr.indexAt 70 (.slice (some ⟨bq q,0,none⟩) n (bc q)) (.int .i64 k)).run Tryz.prog w'=.ok (.pointer (some ⟨bq q,k,none⟩)) w':=fun w'=> zBq HKN.out w'
          have hi1:=(HLj.out.rc hlt HGR.out).2.2;have hi2:=(HLj.out.rc hql HGR.out).2.2;obtain ⟨x1,x2,hxz⟩:∃x1 x2,(M p).getD k (0,0)=(x1,x2):=⟨_,_,rfl⟩;obtain ⟨y1,y2,hyz⟩:∃y1 y2,(M q).getD k (0,0)=(y1,y2):=⟨_,_,rfl⟩;have HXC:=hid (show wr.cell? ⟨bq p,k,none⟩=some (.complex .f64 x1 x2) by have h:=(HLj.out.nc hlt hk).1;rw [hxz] at h;exact h);have HYC:=hid (show wr.cell? ⟨bq q,k,none⟩=some (.complex .f64 y1 y2) by have h:=(HLj.out.nc hql hk).1;rw [hyz] at h;exact h);clear hxz hyz;go_upto_region 16 with fail;clear c0
          as_aux_lemma=>
           refine wp_region_any (by kernel_rfl) ?_;change wpAny _ _ _ _ _ _ _ (World.drew _);refine zAy [⟨some 82,0, []⟩,⟨some 83,1, []⟩,⟨some 84,2, []⟩,⟨some 85,3, []⟩,⟨some 86,4, []⟩,⟨some 87,5, []⟩,⟨some 88,6, []⟩,⟨some 89,7, []⟩,⟨some 90,8, []⟩,⟨some 91,9, []⟩,⟨some 92,10, []⟩,⟨some 93,11, []⟩,⟨some 94,12, []⟩,⟨some 95,13, []⟩,⟨some 96,14, []⟩,⟨some 97,15, []⟩,⟨some 98,16, []⟩,⟨some 99,17, []⟩,⟨some 100,18, []⟩,⟨some 101,19, []⟩,⟨some 102,20, []⟩,⟨some 103,21, []⟩]
            (fun w'=> RLw B w' g (.slice aR n cR) (.slice aO n cO) n n n (fun i=> .slice (some ⟨bq i,0,none⟩) n (bc i)) M ord odd t3∧w'.cell? ⟨bq p,k,none⟩=some (.complex .f64 x1 x2)∧w'.cell? ⟨bq q,k,none⟩=some (.complex .f64 y1 y2))
            (fun oq v _ _ _ _=> match oq with | 0=> v=.pointer (some ⟨g,0,none⟩) | 1=> v=.pointer (some ⟨g,0,none⟩) | 2=> v=.pointer (some ⟨g,1,none⟩) | 3=> v=.slice aR n cR | 4=> v=.int .i64 p | 5=> v=.pointer (some ⟨gR,p,none⟩) | 6=> v=.slice (some ⟨bq p,0,none⟩) n (bc p) | 7=> v=.int .i64 k | 8=> v=.pointer (some ⟨bq p,k,none⟩) | 9=> v=.complex .f64 x1 x2 | 10=> ∃r1,v=Value.float .f64 r1∧fc r1=zDc (fc x1,fc x2) | 11=> v=.pointer (some ⟨g,0,none⟩) | 12=> v=.pointer (some ⟨g,0,none⟩) | 13=> v=.pointer (some ⟨g,1,none⟩) | 14=> v=.slice aR n cR | 15=> v=.int .i64 q | 16=> v=.pointer (some ⟨gR,q,none⟩) | 17=> v=.slice (some ⟨bq q,0,none⟩) n (bc q) | 18=> v=.int .i64 k | 19=> v=.pointer (some ⟨bq q,k,none⟩) | 20=> v=.complex .f64 y1 y2 | 21=> ∃r2,v=Value.float .f64 r2∧fc r2=zDc (fc y1,fc y2) | _=> True) (by kernel_rfl) ?hSc (fun _ _ hb h=> ⟨h.1.later hb,cell_later hb h.2.1,cell_later hb h.2.2⟩) (fun _ _ _ _ _ _ _ _ _ h=> h) ?hopc ?hendc
           case hSc=> exact ⟨HLj.out.later (Below.refl _ _).drew,cell_later (Below.refl _ _).drew HXC.out,cell_later (Below.refl _ _).drew HYC.out⟩
           case hopc=>
            delta Owed
            simp only [zBg,Act.put,List.setIfInBounds_toArray,lz,ls];refine Each.cons rfl ?_ (Each.cons rfl ?_ (Each.cons rfl ?_ (Each.cons rfl ?_ (Each.cons rfl ?_ (Each.cons rfl ?_ (Each.cons rfl ?_ (Each.cons rfl ?_ (Each.cons rfl ?_ (Each.cons rfl ?_ (Each.cons rfl ?_ (Each.cons rfl ?_ (Each.cons rfl ?_ (Each.cons rfl ?_ (Each.cons rfl ?_ (Each.cons rfl ?_ (Each.cons rfl ?_ (Each.cons rfl ?_ (Each.cons rfl ?_ (Each.cons rfl ?_ (Each.cons rfl ?_ (Each.cons rfl ?_ Each.nil)))))))))))))))))))))
            all_goals intro vs w2 hb2 hS2 hR2 K hK;try simp only [lz,ls] at hK⊢
            · go_simp;exact shP hK
            · have h0:vs 0=_:=exR (hR2 0 (by kernel_rfl)) (fun _ _ h=> h);simp only [h0] at hK⊢;go_simp;exact shP hK
            · have h1:vs 1=_:=exR (hR2 1 (by kernel_rfl)) (fun _ _ h=> h);simp only [h1] at hK⊢;go_simp;exact shP hK
            · have h2:vs 2=_:=exR (hR2 2 (by kernel_rfl)) (fun _ _ h=> h);have l1:=(zAa hS2.1.box).1 1 _ rfl;have l2:=(hS2.1.rc HPN.out HGR.out).1;have l2b:=(hS2.1.rc HQN.out HGR.out).1;have l3:=hS2.2.1;have l4:=hS2.2.2;simp only [h2] at hK⊢;go_simp;exact shP hK
            · go_simp;exact shP hK
            · have h3:vs 3=_:=exR (hR2 3 (by kernel_rfl)) (fun _ _ h=> h);have h4:vs 4=_:=exR (hR2 4 (by kernel_rfl)) (fun _ _ h=> h);have l1:=(zAa hS2.1.box).1 1 _ rfl;have l2:=(hS2.1.rc HPN.out HGR.out).1;have l2b:=(hS2.1.rc HQN.out HGR.out).1;have l3:=hS2.2.1;have l4:=hS2.2.2;simp only [h3,h4] at hK⊢;go_simp;exact shP hK
            · have h5:vs 5=_:=exR (hR2 5 (by kernel_rfl)) (fun _ _ h=> h);have l1:=(zAa hS2.1.box).1 1 _ rfl;have l2:=(hS2.1.rc HPN.out HGR.out).1;have l2b:=(hS2.1.rc HQN.out HGR.out).1;have l3:=hS2.2.1;have l4:=hS2.2.2;simp only [h5] at hK⊢;go_simp;exact shP hK
            · go_simp;exact shP hK
            · have h6:vs 6=_:=exR (hR2 6 (by kernel_rfl)) (fun _ _ h=> h);have h7:vs 7=_:=exR (hR2 7 (by kernel_rfl)) (fun _ _ h=> h);have l1:=(zAa hS2.1.box).1 1 _ rfl;have l2:=(hS2.1.rc HPN.out HGR.out).1;have l2b:=(hS2.1.rc HQN.out HGR.out).1;have l3:=hS2.2.1;have l4:=hS2.2.2;simp only [h6,h7] at hK⊢;go_simp;exact shP hK
            · have h8:vs 8=_:=exR (hR2 8 (by kernel_rfl)) (fun _ _ h=> h);have l1:=(zAa hS2.1.box).1 1 _ rfl;have l2:=(hS2.1.rc HPN.out HGR.out).1;have l2b:=(hS2.1.rc HQN.out HGR.out).1;have l3:=hS2.2.1;have l4:=hS2.2.2;simp only [h8] at hK⊢;go_simp;exact shP hK
            · have h9:vs 9=_:=exR (hR2 9 (by kernel_rfl)) (fun _ _ h=> h);simp only [h9] at hK⊢;rw [if_pos (by rfl)];go_wp2_with (go_at_call 147;refine (rsize1_any x1 x2 _).mono ?_;rintro e w3 ⟨v,nn,rfl,he,r1,rfl,hzz⟩;subst he);exact hK.out _ _ (zAg (Below.refl _ _) nn) ⟨r1,rfl,hzz⟩
            · go_simp;exact shP hK
            · have h11:vs 11=_:=exR (hR2 11 (by kernel_rfl)) (fun _ _ h=> h);simp only [h11] at hK⊢;go_simp;exact shP hK
            · have h12:vs 12=_:=exR (hR2 12 (by kernel_rfl)) (fun _ _ h=> h);simp only [h12] at hK⊢;go_simp;exact shP hK
            · have h13:vs 13=_:=exR (hR2 13 (by kernel_rfl)) (fun _ _ h=> h);have l1:=(zAa hS2.1.box).1 1 _ rfl;have l2:=(hS2.1.rc HPN.out HGR.out).1;have l2b:=(hS2.1.rc HQN.out HGR.out).1;have l3:=hS2.2.1;have l4:=hS2.2.2;simp only [h13] at hK⊢;go_simp;exact shP hK
            · go_simp;exact shP hK
            · have h14:vs 14=_:=exR (hR2 14 (by kernel_rfl)) (fun _ _ h=> h);have h15:vs 15=_:=exR (hR2 15 (by kernel_rfl)) (fun _ _ h=> h);have l1:=(zAa hS2.1.box).1 1 _ rfl;have l2:=(hS2.1.rc HPN.out HGR.out).1;have l2b:=(hS2.1.rc HQN.out HGR.out).1;have l3:=hS2.2.1;have l4:=hS2.2.2;simp only [h14,h15] at hK⊢;go_simp;exact shP hK
            · have h16:vs 16=_:=exR (hR2 16 (by kernel_rfl)) (fun _ _ h=> h);have l1:=(zAa hS2.1.box).1 1 _ rfl;have l2:=(hS2.1.rc HPN.out HGR.out).1;have l2b:=(hS2.1.rc HQN.out HGR.out).1;have l3:=hS2.2.1;have l4:=hS2.2.2;simp only [h16] at hK⊢;go_simp;exact shP hK
            · go_simp;exact shP hK
            · have h17:vs 17=_:=exR (hR2 17 (by kernel_rfl)) (fun _ _ h=> h);have h18:vs 18=_:=exR (hR2 18 (by kernel_rfl)) (fun _ _ h=> h);have l1:=(zAa hS2.1.box).1 1 _ rfl;have l2:=(hS2.1.rc HPN.out HGR.out).1;have l2b:=(hS2.1.rc HQN.out HGR.out).1;have l3:=hS2.2.1;have l4:=hS2.2.2;simp only [h17,h18] at hK⊢;go_simp;exact shP hK
            · have h19:vs 19=_:=exR (hR2 19 (by kernel_rfl)) (fun _ _ h=> h);have l1:=(zAa hS2.1.box).1 1 _ rfl;have l2:=(hS2.1.rc HPN.out HGR.out).1;have l2b:=(hS2.1.rc HQN.out HGR.out).1;have l3:=hS2.2.1;have l4:=hS2.2.2;simp only [h19] at hK⊢;go_simp;exact shP hK
            · have h20:vs 20=_:=exR (hR2 20 (by kernel_rfl)) (fun _ _ h=> h);simp only [h20] at hK⊢;rw [if_pos (by rfl)];go_wp2_with (go_at_call 147;refine (rsize1_any y1 y2 _).mono ?_;rintro e w3 ⟨v,nn,rfl,he,r2,rfl,hzz⟩;subst he);exact hK.out _ _ (zAg (Below.refl _ _) nn) ⟨r2,rfl,hzz⟩
           case hendc=>
            intro vs wx lo hiv hbx hSx hRx hdx;have h0:vs 0=_:=(hRx 0 (by kernel_rfl)).1;have h1:vs 1=_:=(hRx 1 (by kernel_rfl)).1;have h2:vs 2=_:=(hRx 2 (by kernel_rfl)).1;have h3:vs 3=_:=(hRx 3 (by kernel_rfl)).1;have h4:vs 4=_:=(hRx 4 (by kernel_rfl)).1;have h5:vs 5=_:=(hRx 5 (by kernel_rfl)).1;have h6:vs 6=_:=(hRx 6 (by kernel_rfl)).1;have h7:vs 7=_:=(hRx 7 (by kernel_rfl)).1;have h8:vs 8=_:=(hRx 8 (by kernel_rfl)).1;have h9:vs 9=_:=(hRx 9 (by kernel_rfl)).1;have H10:=(hRx 10 (by kernel_rfl)).1;obtain ⟨r1,h10,hz10⟩:=H10;have h11:vs 11=_:=(hRx 11 (by kernel_rfl)).1;have h12:vs 12=_:=(hRx 12 (by kernel_rfl)).1;have h13:vs 13=_:=(hRx 13 (by kernel_rfl)).1;have h14:vs 14=_:=(hRx 14 (by kernel_rfl)).1;have h15:vs 15=_:=(hRx 15 (by kernel_rfl)).1;have h16:vs 16=_:=(hRx 16 (by kernel_rfl)).1;have h17:vs 17=_:=(hRx 17 (by kernel_rfl)).1;have h18:vs 18=_:=(hRx 18 (by kernel_rfl)).1;have h19:vs 19=_:=(hRx 19 (by kernel_rfl)).1;have h20:vs 20=_:=(hRx 20 (by kernel_rfl)).1;have H21:=(hRx 21 (by kernel_rfl)).1;obtain ⟨r2,h21,hz21⟩:=H21;simp only [zBg,Act.put,List.setIfInBounds_toArray,lz,ls,h0,h1,h2,h3,h4,h5,h6,h7,h8,h9,h10,h11,h12,h13,h14,h15,h16,h17,h18,h19,h20,h21];have hb:=zAq hbx;have HL2:=hid (HLj.out.later hb);have HB2:=hid (HBj.out.trans (hb.mono HLj.out.lt));clear hRx hdx hbx hSx hiv hb hz10 h10 hz21 h21;refine zAt (i:=22) (by kernel_rfl) rfl (fun K hK=> ?_);go_simp;refine hK.out _ _ ?_;clear hK;refine wpAny_done (by kernel_rfl) ?_ _;obtain ⟨w3,hw3⟩:∃w3:World,w3=wx:=⟨_,rfl⟩;subst hw3;cases hq:(FloatKind.f64.format.order r1 r2==some .eq)
            · go_wp2_with fail;go_roundw
              case rel=> exact ⟨q+1,t3,by omega,by go_num,HL2.out,HB2.out⟩
              case measure=> simp [intOf];omega
            · have c4:=(zAa HL2.out.box).1 4 _ rfl;have f4:=(zAa HL2.out.box).2 4;go_wp2_with fail;have h9:=HL2.out.word (o:=4) (b:=true) (.inr rfl);have h9b:=HB2.out.setCell (p:=⟨g,4,none⟩) HL2.out.gB (.bool true);go_roundw
              case rel=> exact ⟨q+1,true,by omega,by go_num,h9,h9b⟩
              case measure=> simp [intOf];omega
        · obtain rfl:q=n:=by omega
          go_wp2_with fail;go_roundw
          case rel=> exact ⟨p+1,t3,by omega,by go_num,HLj.out,HBj.out⟩
          case measure=> simp [intOf];omega
     · obtain rfl:n=p:=by omega
       go_upto_if 110 with fail;clear c0 hlt hpn hkb
       go_cut [] from 110 to 170 (fun wx=> ∃ (bq2 bc2:Nat→Nat) (M2:Nat→List Cx) (ord2:List Int) (odd2:Bool),RLw B wx g (.slice aR n cR) (.slice aO n cO) n n n (fun i=> .slice (some ⟨bq2 i,0,none⟩) n (bc2 i)) M2 ord2 odd2 t2∧RLs n (swS s b k) M2 ord2 odd2∧Below B w wx)
       case first=>
        by_cases hbk:b=k
        · have hbb:((b:Int) !=(k:Int))=false:=by rw [hbk];simp
          have HBK:=hid hbk;clear hbk;go_wp2_with fail;go_meet;exact ⟨bq,bc,M,ord,odd,HLi.out,by rw [HBK.out];exact HLS.out.same,HBi.out⟩
        have hbb:((b:Int) !=(k:Int))=true:=by rw [bne_iff_ne];omega
        have HNE:=hid hbk;clear hbk;obtain ⟨ok,hok⟩:∃ok,((s.ord k:Nat):Int)=ok:=⟨_,rfl⟩;obtain ⟨op,hop⟩:∃op,((s.ord b:Nat):Int)=op:=⟨_,rfl⟩;have HOKK:=hid (show ord[k]? =some ok by rw [←hok];exact HLS.out.ord k hk);have HOP:=hid (show ord[b]? =some op by rw [←hop];exact HLS.out.ord b hbn);have HOKE:=hid hok;have HOPE:=hid hop;clear hok hop;have hixb:=(HLi.out.rc hbn HGR.out).2.2;have hixk:=(HLi.out.rc hk HGR.out).2.2;have hoxb:=(HLi.out.oc hbn HOP.out HGO.out).2.2;have hoxk:=(HLi.out.oc hk HOKK.out HGO.out).2.2;go_upto_region 19 with fail;simp only [hbb];clear hbb;have HLD:=hid (HLi.out.later (Below.refl wr.heap.size wr).drew);have HBD:=hid HBi.out.drew;clear HLi HBi
        as_aux_lemma=>
         refine wp_region_any (by kernel_rfl) ?_;change wpAny _ _ _ _ _ _ _ (World.drew _);generalize wr.drew=wd at *;obtain ⟨st,hst⟩:∃st,st=oneStp 25 ⟨gR,b,none⟩ (.slice (some ⟨bq k,0,none⟩) n (bc k)):=⟨_,rfl⟩;have HST:=hid hst;have HC1:=hid ((zAa HLD.out.box).1 1 _ rfl);have HRB:=hid (HLD.out.rc HBN.out HGR.out).1;have HRK:=hid (HLD.out.rc HKN.out HGR.out).1;have HFB:=hid (HLD.out.rc HBN.out HGR.out).2.1;obtain ⟨e1,e2,e3,e4⟩:=HLD.out.swapR HKN.out HBN.out HNE.out HGR.out;have E1:=hid e1;have E2:=hid e2;have E3:=hid e3;have E4:=hid e4;clear e1 e2 e3 e4;refine zGk [⟨some 111,0, []⟩,⟨some 112,1, []⟩,⟨some 113,2, []⟩,⟨some 114,3, []⟩,⟨some 115,4, []⟩,⟨some 116,5, []⟩,⟨some 117,6, []⟩,⟨some 118,7, []⟩,⟨some 119,8, []⟩,⟨some 120,9, []⟩,⟨some 121,10, []⟩,⟨some 122,11, []⟩,⟨some 123,12, []⟩,⟨some 124,13, []⟩,⟨some 125,14, []⟩,⟨some 126,15, []⟩,⟨some 127,16, []⟩,⟨some 128,17, []⟩,⟨some 129,18, []⟩,⟨some 130,19, []⟩,⟨some 131,20, []⟩,⟨some 132,21, []⟩,⟨some 133,22, []⟩,⟨some 134,23, []⟩,⟨some 135,24, []⟩,⟨none,25, []⟩] (fun u u'=> u.heap.size≤u'.heap.size) (fun k u u'=> u'=st k u)
          (fun d w'=> w'=zFm 25 st d wd)
          (fun oq v _ _ _ _=> match oq with | 0=> v=.pointer (some ⟨g,0,none⟩) | 1=> v=.pointer (some ⟨g,0,none⟩) | 2=> v=.pointer (some ⟨g,1,none⟩) | 3=> v=.slice aR n cR | 4=> v=.int .i64 b | 5=> v=.pointer (some ⟨g,0,none⟩) | 6=> v=.pointer (some ⟨g,0,none⟩) | 7=> v=.pointer (some ⟨g,1,none⟩) | 8=> v=.slice aR n cR | 9=> v=.int .i64 k | 10=> v=.pointer (some ⟨g,0,none⟩) | 11=> v=.pointer (some ⟨g,0,none⟩) | 12=> v=.pointer (some ⟨g,1,none⟩) | 13=> v=.slice aR n cR | 14=> v=.int .i64 k | 15=> v=.pointer (some ⟨gR,k,none⟩) | 16=> v=.slice (some ⟨bq k,0,none⟩) n (bc k) | 17=> v=.pointer (some ⟨g,0,none⟩) | 18=> v=.pointer (some ⟨g,0,none⟩) | 19=> v=.pointer (some ⟨g,1,none⟩) | 20=> v=.slice aR n cR | 21=> v=.int .i64 b | 22=> v=.pointer (some ⟨gR,b,none⟩) | 23=> v=.slice (some ⟨bq b,0,none⟩) n (bc b) | 24=> v=.pointer (some ⟨gR,b,none⟩) | 25=> True | _=> True) (by kernel_rfl) ?hSd (fun _=> Nat.le_refl _) (fun _ _ _ h1 h2=> Nat.le_trans h1 h2) (fun _ _ h=> h) (fun k u u' h=> by rw [h,HST.out];exact oneStp_size _ _ _ _ k u) (fun j d u u' hd hr hc _ hw' hw=> oneCh_step (fun j w h=> by rw [HST.out];exact zAn h) hd hw' hw) (fun _ _ _ _ _ _ _ _ _ _ _ _ h=> h) ?hopd ?hendd
         case hSd=> exact (by unfold zFm;rw [if_neg (by decide)])
         case hopd=>
          delta OwedU
          simp only [zBg,Act.put,List.setIfInBounds_toArray,lz,ls];refine Each.cons rfl ?_ (Each.cons rfl ?_ (Each.cons rfl ?_ (Each.cons rfl ?_ (Each.cons rfl ?_ (Each.cons rfl ?_ (Each.cons rfl ?_ (Each.cons rfl ?_ (Each.cons rfl ?_ (Each.cons rfl ?_ (Each.cons rfl ?_ (Each.cons rfl ?_ (Each.cons rfl ?_ (Each.cons rfl ?_ (Each.cons rfl ?_ (Each.cons rfl ?_ (Each.cons rfl ?_ (Each.cons rfl ?_ (Each.cons rfl ?_ (Each.cons rfl ?_ (Each.cons rfl ?_ (Each.cons rfl ?_ (Each.cons rfl ?_ (Each.cons rfl ?_ (Each.cons rfl ?_ (Each.cons rfl ?_ Each.nil)))))))))))))))))))))))))
          all_goals intro vs d w2 hb2 hd2 hr2 hc2 hS2 hR2 K hK;try simp only [lz,ls] at hK⊢
          · replace hS2:=hid hS2;go_simp;exact hK.out _ w2 (by rw [HST.out];exact (zAn (by decide)).symm) rfl
          · replace hS2:=hid hS2;have h0:vs 0=_:=exR (hR2 0 (by kernel_rfl)) (fun _ _ h=> h);simp only [h0] at hK⊢;go_simp;exact hK.out _ w2 (by rw [HST.out];exact (zAn (by decide)).symm) rfl
          · replace hS2:=hid hS2;have h1:vs 1=_:=exR (hR2 1 (by kernel_rfl)) (fun _ _ h=> h);simp only [h1] at hK⊢;go_simp;exact hK.out _ w2 (by rw [HST.out];exact (zAn (by decide)).symm) rfl
          · replace hS2:=hid hS2;have h2:vs 2=_:=exR (hR2 2 (by kernel_rfl)) (fun _ _ h=> h);simp only [h2] at hK⊢;have dd:d 25=false:=by
             cases hdd:d 25
             · rfl
             · have hd3:=hc2 25 hdd 3 (zAs.1 (by kernel_rfl));rw [hd2] at hd3;cases hd3
            have hw2:w2=wd:=by rw [hS2.out];unfold zFm;rw [if_neg (by rw [dd];decide)]
            have cc:=HC1.out;rw [←hw2] at cc;clear hw2 dd hS2;go_simp;exact hK.out _ w2 (by rw [HST.out];exact (zAn (by decide)).symm) rfl
          · replace hS2:=hid hS2;go_simp;exact hK.out _ w2 (by rw [HST.out];exact (zAn (by decide)).symm) rfl
          · replace hS2:=hid hS2;go_simp;exact hK.out _ w2 (by rw [HST.out];exact (zAn (by decide)).symm) rfl
          · replace hS2:=hid hS2;have h5:vs 5=_:=exR (hR2 5 (by kernel_rfl)) (fun _ _ h=> h);simp only [h5] at hK⊢;go_simp;exact hK.out _ w2 (by rw [HST.out];exact (zAn (by decide)).symm) rfl
          · replace hS2:=hid hS2;have h6:vs 6=_:=exR (hR2 6 (by kernel_rfl)) (fun _ _ h=> h);simp only [h6] at hK⊢;go_simp;exact hK.out _ w2 (by rw [HST.out];exact (zAn (by decide)).symm) rfl
          · replace hS2:=hid hS2;have h7:vs 7=_:=exR (hR2 7 (by kernel_rfl)) (fun _ _ h=> h);simp only [h7] at hK⊢;have dd:d 25=false:=by
             cases hdd:d 25
             · rfl
             · have hd3:=hc2 25 hdd 8 (zAs.1 (by kernel_rfl));rw [hd2] at hd3;cases hd3
            have hw2:w2=wd:=by rw [hS2.out];unfold zFm;rw [if_neg (by rw [dd];decide)]
            have cc:=HC1.out;rw [←hw2] at cc;clear hw2 dd hS2;go_simp;exact hK.out _ w2 (by rw [HST.out];exact (zAn (by decide)).symm) rfl
          · replace hS2:=hid hS2;go_simp;exact hK.out _ w2 (by rw [HST.out];exact (zAn (by decide)).symm) rfl
          · replace hS2:=hid hS2;go_simp;exact hK.out _ w2 (by rw [HST.out];exact (zAn (by decide)).symm) rfl
          · replace hS2:=hid hS2;have h10:vs 10=_:=exR (hR2 10 (by kernel_rfl)) (fun _ _ h=> h);simp only [h10] at hK⊢;go_simp;exact hK.out _ w2 (by rw [HST.out];exact (zAn (by decide)).symm) rfl
          · replace hS2:=hid hS2;have h11:vs 11=_:=exR (hR2 11 (by kernel_rfl)) (fun _ _ h=> h);simp only [h11] at hK⊢;go_simp;exact hK.out _ w2 (by rw [HST.out];exact (zAn (by decide)).symm) rfl
          · replace hS2:=hid hS2;have h12:vs 12=_:=exR (hR2 12 (by kernel_rfl)) (fun _ _ h=> h);simp only [h12] at hK⊢;have dd:d 25=false:=by
             cases hdd:d 25
             · rfl
             · have hd3:=hc2 25 hdd 13 (zAs.1 (by kernel_rfl));rw [hd2] at hd3;cases hd3
            have hw2:w2=wd:=by rw [hS2.out];unfold zFm;rw [if_neg (by rw [dd];decide)]
            have cc:=HC1.out;rw [←hw2] at cc;clear hw2 dd hS2;go_simp;exact hK.out _ w2 (by rw [HST.out];exact (zAn (by decide)).symm) rfl
          · replace hS2:=hid hS2;go_simp;exact hK.out _ w2 (by rw [HST.out];exact (zAn (by decide)).symm) rfl
          · replace hS2:=hid hS2;obtain ⟨_,_,_,H13⟩:=hR2 13 (by kernel_rfl);have h13:vs 13=.slice aR n cR:=H13;have h14:vs 14=_:=exR (hR2 14 (by kernel_rfl)) (fun _ _ h=> h);simp only [h14,h13] at hK⊢;go_simp;exact hK.out _ w2 (by rw [HST.out];exact (zAn (by decide)).symm) rfl
          · replace hS2:=hid hS2;have h15:vs 15=_:=exR (hR2 15 (by kernel_rfl)) (fun _ _ h=> h);simp only [h15] at hK⊢;have dd:d 25=false:=by
             cases hdd:d 25
             · rfl
             · have hd3:=hc2 25 hdd 16 (zAs.1 (by kernel_rfl));rw [hd2] at hd3;cases hd3
            have hw2:w2=wd:=by rw [hS2.out];unfold zFm;rw [if_neg (by rw [dd];decide)]
            have cc:=HRK.out;rw [←hw2] at cc;clear hw2 dd hS2;go_simp;exact hK.out _ w2 (by rw [HST.out];exact (zAn (by decide)).symm) rfl
          · replace hS2:=hid hS2;go_simp;exact hK.out _ w2 (by rw [HST.out];exact (zAn (by decide)).symm) rfl
          · replace hS2:=hid hS2;have h17:vs 17=_:=exR (hR2 17 (by kernel_rfl)) (fun _ _ h=> h);simp only [h17] at hK⊢;go_simp;exact hK.out _ w2 (by rw [HST.out];exact (zAn (by decide)).symm) rfl
          · replace hS2:=hid hS2;have h18:vs 18=_:=exR (hR2 18 (by kernel_rfl)) (fun _ _ h=> h);simp only [h18] at hK⊢;go_simp;exact hK.out _ w2 (by rw [HST.out];exact (zAn (by decide)).symm) rfl
          · replace hS2:=hid hS2;have h19:vs 19=_:=exR (hR2 19 (by kernel_rfl)) (fun _ _ h=> h);simp only [h19] at hK⊢;have dd:d 25=false:=by
             cases hdd:d 25
             · rfl
             · have hd3:=hc2 25 hdd 20 (zAs.1 (by kernel_rfl));rw [hd2] at hd3;cases hd3
            have hw2:w2=wd:=by rw [hS2.out];unfold zFm;rw [if_neg (by rw [dd];decide)]
            have cc:=HC1.out;rw [←hw2] at cc;clear hw2 dd hS2;go_simp;exact hK.out _ w2 (by rw [HST.out];exact (zAn (by decide)).symm) rfl
          · replace hS2:=hid hS2;go_simp;exact hK.out _ w2 (by rw [HST.out];exact (zAn (by decide)).symm) rfl
          · replace hS2:=hid hS2;obtain ⟨_,_,_,H20⟩:=hR2 20 (by kernel_rfl);have h20:vs 20=.slice aR n cR:=H20;have h21:vs 21=_:=exR (hR2 21 (by kernel_rfl)) (fun _ _ h=> h);simp only [h21,h20] at hK⊢;go_simp;exact hK.out _ w2 (by rw [HST.out];exact (zAn (by decide)).symm) rfl
          · replace hS2:=hid hS2;have h22:vs 22=_:=exR (hR2 22 (by kernel_rfl)) (fun _ _ h=> h);simp only [h22] at hK⊢;have dd:d 25=false:=by
             cases hdd:d 25
             · rfl
             · have hd3:=hc2 25 hdd 23 (zAs.1 (by kernel_rfl));rw [hd2] at hd3;cases hd3
            have hw2:w2=wd:=by rw [hS2.out];unfold zFm;rw [if_neg (by rw [dd];decide)]
            have cc:=HRB.out;rw [←hw2] at cc;clear hw2 dd hS2;go_simp;exact hK.out _ w2 (by rw [HST.out];exact (zAn (by decide)).symm) rfl
          · replace hS2:=hid hS2;obtain ⟨_,_,_,H3⟩:=hR2 3 (by kernel_rfl);have h3:vs 3=.slice aR n cR:=H3;have h4:vs 4=_:=exR (hR2 4 (by kernel_rfl)) (fun _ _ h=> h);simp only [h4,h3] at hK⊢;go_simp;exact hK.out _ w2 (by rw [HST.out];exact (zAn (by decide)).symm) rfl
          · replace hS2:=hid hS2;obtain ⟨_,_,_,H16⟩:=hR2 16 (by kernel_rfl);have h16:vs 16=.slice (some ⟨bq k,0,none⟩) n (bc k):=H16;have h24:vs 24=_:=exR (hR2 24 (by kernel_rfl)) (fun _ _ h=> h)
            (try simp only at hK⊢)
            simp only [h24,h16] at hK⊢;have n25:¬d 25=true:=by rw [hd2];decide
            have hw2:w2=wd:=by rw [hS2.out];unfold zFm;rw [if_neg n25]
            have cc:=HRB.out;have ff:=HFB.out;rw [←hw2] at cc ff;clear hw2 hS2 n25;go_simp;exact hK.out undef _ (by rw [HST.out];rfl) trivial
         case hendd=>
          intro vs wx lo hiv hbx hSx hRx hdx;have h0:vs 0=_:=(hRx 0 (by kernel_rfl)).1;have h1:vs 1=_:=(hRx 1 (by kernel_rfl)).1;have h2:vs 2=_:=(hRx 2 (by kernel_rfl)).1;have H3:=(hRx 3 (by kernel_rfl)).1;have h3:vs 3=.slice aR n cR:=H3;have h4:vs 4=_:=(hRx 4 (by kernel_rfl)).1;have h5:vs 5=_:=(hRx 5 (by kernel_rfl)).1;have h6:vs 6=_:=(hRx 6 (by kernel_rfl)).1;have h7:vs 7=_:=(hRx 7 (by kernel_rfl)).1;have H8:=(hRx 8 (by kernel_rfl)).1;have h8:vs 8=.slice aR n cR:=H8;have h9:vs 9=_:=(hRx 9 (by kernel_rfl)).1;have h10:vs 10=_:=(hRx 10 (by kernel_rfl)).1;have h11:vs 11=_:=(hRx 11 (by kernel_rfl)).1;have h12:vs 12=_:=(hRx 12 (by kernel_rfl)).1;have H13:=(hRx 13 (by kernel_rfl)).1;have h13:vs 13=.slice aR n cR:=H13;have h14:vs 14=_:=(hRx 14 (by kernel_rfl)).1;have h15:vs 15=_:=(hRx 15 (by kernel_rfl)).1;have H16:=(hRx 16 (by kernel_rfl)).1;have h16:vs 16=.slice (some ⟨bq k,0,none⟩) n (bc k):=H16;have h17:vs 17=_:=(hRx 17 (by kernel_rfl)).1;have h18:vs 18=_:=(hRx 18 (by kernel_rfl)).1;have h19:vs 19=_:=(hRx 19 (by kernel_rfl)).1;have H20:=(hRx 20 (by kernel_rfl)).1;have h20:vs 20=.slice aR n cR:=H20;have h21:vs 21=_:=(hRx 21 (by kernel_rfl)).1;have h22:vs 22=_:=(hRx 22 (by kernel_rfl)).1;have H23:=(hRx 23 (by kernel_rfl)).1;have h23:vs 23=.slice (some ⟨bq b,0,none⟩) n (bc b):=H23;have h24:vs 24=_:=(hRx 24 (by kernel_rfl)).1;simp only [zBg,Act.put,List.setIfInBounds_toArray,lz,ls,h0,h1,h2,h3,h4,h5,h6,h7,h8,h9,h10,h11,h12,h13,h14,h15,h16,h17,h18,h19,h20,h21,h22,h23,h24];have hws:wx=st 25 wd:=by
           rw [hSx];unfold zFm;rw [if_pos (by rfl)]
          rw [HST.out] at hws;replace hws:wx=_:=hws.trans (if_pos rfl);subst hws;clear hSx hRx hdx hiv hbx;refine zAt (i:=26) (by kernel_rfl) rfl (fun K hK=> ?_);go_simp;refine hK.out _ _ ?_;clear hK;obtain ⟨ex,cz⟩:=E1.out;have fz:=E2.out;refine zAt (i:=27) (by kernel_rfl) rfl (fun K hK=> ?_);go_simp;refine hK.out _ _ ?_;clear hK cz fz E1 E2;refine wpAny_done (by kernel_rfl) ?_ _;have HL5:=hid E4.out;have HB5:=hid (HBD.out.trans E3.out);clear E3 E4 HLD HBD HC1 HRB HRK HFB HST;generalize (World.setCell (World.setCell wd ⟨gR,b,none⟩ (.slice (some ⟨bq k,0,none⟩) n (bc k))) ⟨gR,k,none⟩ (.slice (some ⟨bq b,0,none⟩) n (bc b)))=w5 at *;clear hixb hixk;go_upto_region 20 with fail;have HLD:=hid (HL5.out.later (Below.refl w5.heap.size w5).drew);have HBD:=hid HB5.out.drew;clear HL5 HB5
          as_aux_lemma=>
           refine wp_region_any (by kernel_rfl) ?_;change wpAny _ _ _ _ _ _ _ (World.drew _);generalize w5.drew=wd at *;obtain ⟨st,hst⟩:∃st,st=oneStp 25 ⟨gO,b,none⟩ (.int .i64 ok):=⟨_,rfl⟩;have HST:=hid hst;have HC1:=hid ((zAa HLD.out.box).1 2 _ rfl);have HRB:=hid (HLD.out.oc HBN.out HOP.out HGO.out).1;have HRK:=hid (HLD.out.oc HKN.out HOKK.out HGO.out).1;have HFB:=hid (HLD.out.oc HBN.out HOP.out HGO.out).2.1;obtain ⟨e1,e2,e3,e4⟩:=HLD.out.swapO (ok:=ok) (op:=op) HKN.out HBN.out HGO.out;have E1:=hid e1;have E2:=hid e2;have E3:=hid e3;have E4:=hid e4;clear e1 e2 e3 e4;refine zGk [⟨some 137,0, []⟩,⟨some 138,1, []⟩,⟨some 139,2, []⟩,⟨some 140,3, []⟩,⟨some 141,4, []⟩,⟨some 142,5, []⟩,⟨some 143,6, []⟩,⟨some 144,7, []⟩,⟨some 145,8, []⟩,⟨some 146,9, []⟩,⟨some 147,10, []⟩,⟨some 148,11, []⟩,⟨some 149,12, []⟩,⟨some 150,13, []⟩,⟨some 151,14, []⟩,⟨some 152,15, []⟩,⟨some 153,16, []⟩,⟨some 154,17, []⟩,⟨some 155,18, []⟩,⟨some 156,19, []⟩,⟨some 157,20, []⟩,⟨some 158,21, []⟩,⟨some 159,22, []⟩,⟨some 160,23, []⟩,⟨some 161,24, []⟩,⟨none,25, []⟩] (fun u u'=> u.heap.size≤u'.heap.size) (fun k u u'=> u'=st k u)
            (fun d w'=> w'=zFm 25 st d wd)
            (fun oq v _ _ _ _=> match oq with | 0=> v=.pointer (some ⟨g,0,none⟩) | 1=> v=.pointer (some ⟨g,0,none⟩) | 2=> v=.pointer (some ⟨g,2,none⟩) | 3=> v=.slice aO n cO | 4=> v=.int .i64 b | 5=> v=.pointer (some ⟨g,0,none⟩) | 6=> v=.pointer (some ⟨g,0,none⟩) | 7=> v=.pointer (some ⟨g,2,none⟩) | 8=> v=.slice aO n cO | 9=> v=.int .i64 k | 10=> v=.pointer (some ⟨g,0,none⟩) | 11=> v=.pointer (some ⟨g,0,none⟩) | 12=> v=.pointer (some ⟨g,2,none⟩) | 13=> v=.slice aO n cO | 14=> v=.int .i64 k | 15=> v=.pointer (some ⟨gO,k,none⟩) | 16=> v=.int .i64 ok | 17=> v=.pointer (some ⟨g,0,none⟩) | 18=> v=.pointer (some ⟨g,0,none⟩) | 19=> v=.pointer (some ⟨g,2,none⟩) | 20=> v=.slice aO n cO | 21=> v=.int .i64 b | 22=> v=.pointer (some ⟨gO,b,none⟩) | 23=> v=.int .i64 op | 24=> v=.pointer (some ⟨gO,b,none⟩) | 25=> True | _=> True) (by kernel_rfl) ?hSe (fun _=> Nat.le_refl _) (fun _ _ _ h1 h2=> Nat.le_trans h1 h2) (fun _ _ h=> h) (fun k u u' h=> by rw [h,HST.out];exact oneStp_size _ _ _ _ k u) (fun j d u u' hd hr hc _ hw' hw=> oneCh_step (fun j w h=> by rw [HST.out];exact zAn h) hd hw' hw) (fun _ _ _ _ _ _ _ _ _ _ _ _ h=> h) ?hope ?hende
           case hSe=> exact (by unfold zFm;rw [if_neg (by decide)])
           case hope=>
            delta OwedU
            simp only [zBg,Act.put,List.setIfInBounds_toArray,lz,ls];refine Each.cons rfl ?_ (Each.cons rfl ?_ (Each.cons rfl ?_ (Each.cons rfl ?_ (Each.cons rfl ?_ (Each.cons rfl ?_ (Each.cons rfl ?_ (Each.cons rfl ?_ (Each.cons rfl ?_ (Each.cons rfl ?_ (Each.cons rfl ?_ (Each.cons rfl ?_ (Each.cons rfl ?_ (Each.cons rfl ?_ (Each.cons rfl ?_ (Each.cons rfl ?_ (Each.cons rfl ?_ (Each.cons rfl ?_ (Each.cons rfl ?_ (Each.cons rfl ?_ (Each.cons rfl ?_ (Each.cons rfl ?_ (Each.cons rfl ?_ (Each.cons rfl ?_ (Each.cons rfl ?_ (Each.cons rfl ?_ Each.nil)))))))))))))))))))))))))
            all_goals intro vs d w2 hb2 hd2 hr2 hc2 hS2 hR2 K hK;try simp only [lz,ls] at hK⊢
            · replace hS2:=hid hS2;go_simp;exact hK.out _ w2 (by rw [HST.out];exact (zAn (by decide)).symm) rfl
            · replace hS2:=hid hS2;have h0:vs 0=_:=exR (hR2 0 (by kernel_rfl)) (fun _ _ h=> h);simp only [h0] at hK⊢;go_simp;exact hK.out _ w2 (by rw [HST.out];exact (zAn (by decide)).symm) rfl
            · replace hS2:=hid hS2;have h1:vs 1=_:=exR (hR2 1 (by kernel_rfl)) (fun _ _ h=> h);simp only [h1] at hK⊢;go_simp;exact hK.out _ w2 (by rw [HST.out];exact (zAn (by decide)).symm) rfl
            · replace hS2:=hid hS2;have h2:vs 2=_:=exR (hR2 2 (by kernel_rfl)) (fun _ _ h=> h);simp only [h2] at hK⊢;have dd:d 25=false:=by
               cases hdd:d 25
               · rfl
               · have hd3:=hc2 25 hdd 3 (zAs.1 (by kernel_rfl));rw [hd2] at hd3;cases hd3
              have hw2:w2=wd:=by rw [hS2.out];unfold zFm;rw [if_neg (by rw [dd];decide)]
              have cc:=HC1.out;rw [←hw2] at cc;clear hw2 dd hS2;go_simp;exact hK.out _ w2 (by rw [HST.out];exact (zAn (by decide)).symm) rfl
            · replace hS2:=hid hS2;go_simp;exact hK.out _ w2 (by rw [HST.out];exact (zAn (by decide)).symm) rfl
            · replace hS2:=hid hS2;go_simp;exact hK.out _ w2 (by rw [HST.out];exact (zAn (by decide)).symm) rfl
            · replace hS2:=hid hS2;have h5:vs 5=_:=exR (hR2 5 (by kernel_rfl)) (fun _ _ h=> h);simp only [h5] at hK⊢;go_simp;exact hK.out _ w2 (by rw [HST.out];exact (zAn (by decide)).symm) rfl
            · replace hS2:=hid hS2;have h6:vs 6=_:=exR (hR2 6 (by kernel_rfl)) (fun _ _ h=> h);simp only [h6] at hK⊢;go_simp;exact hK.out _ w2 (by rw [HST.out];exact (zAn (by decide)).symm) rfl
            · replace hS2:=hid hS2;have h7:vs 7=_:=exR (hR2 7 (by kernel_rfl)) (fun _ _ h=> h);simp only [h7] at hK⊢;have dd:d 25=false:=by
               cases hdd:d 25
               · rfl
               · have hd3:=hc2 25 hdd 8 (zAs.1 (by kernel_rfl));rw [hd2] at hd3;cases hd3
              have hw2:w2=wd:=by rw [hS2.out];unfold zFm;rw [if_neg (by rw [dd];decide)]
              have cc:=HC1.out;rw [←hw2] at cc;clear hw2 dd hS2;go_simp;exact hK.out _ w2 (by rw [HST.out];exact (zAn (by decide)).symm) rfl
            · replace hS2:=hid hS2;go_simp;exact hK.out _ w2 (by rw [HST.out];exact (zAn (by decide)).symm) rfl
            · replace hS2:=hid hS2;go_simp;exact hK.out _ w2 (by rw [HST.out];exact (zAn (by decide)).symm) rfl
            · replace hS2:=hid hS2;have h10:vs 10=_:=exR (hR2 10 (by kernel_rfl)) (fun _ _ h=> h);simp only [h10] at hK⊢;go_simp;exact hK.out _ w2 (by rw [HST.out];exact (zAn (by decide)).symm) rfl
            · replace hS2:=hid hS2;have h11:vs 11=_:=exR (hR2 11 (by kernel_rfl)) (fun _ _ h=> h);simp only [h11] at hK⊢;go_simp;exact hK.out _ w2 (by rw [HST.out];exact (zAn (by decide)).symm) rfl
            · replace hS2:=hid hS2;have h12:vs 12=_:=exR (hR2 12 (by kernel_rfl)) (fun _ _ h=> h);simp only [h12] at hK⊢;have dd:d 25=false:=by
               cases hdd:d 25
               · rfl
               · have hd3:=hc2 25 hdd 13 (zAs.1 (by kernel_rfl));rw [hd2] at hd3;cases hd3
              have hw2:w2=wd:=by rw [hS2.out];unfold zFm;rw [if_neg (by rw [dd];decide)]
              have cc:=HC1.out;rw [←hw2] at cc;clear hw2 dd hS2;go_simp;exact hK.out _ w2 (by rw [HST.out];exact (zAn (by decide)).symm) rfl
            · replace hS2:=hid hS2;go_simp;exact hK.out _ w2 (by rw [HST.out];exact (zAn (by decide)).symm) rfl
            · replace hS2:=hid hS2;obtain ⟨_,_,_,H13⟩:=hR2 13 (by kernel_rfl);have h13:vs 13=.slice aO n cO:=H13;have h14:vs 14=_:=exR (hR2 14 (by kernel_rfl)) (fun _ _ h=> h);simp only [h14,h13] at hK⊢;go_simp;exact hK.out _ w2 (by rw [HST.out];exact (zAn (by decide)).symm) rfl
            · replace hS2:=hid hS2;have h15:vs 15=_:=exR (hR2 15 (by kernel_rfl)) (fun _ _ h=> h);simp only [h15] at hK⊢;have dd:d 25=false:=by
               cases hdd:d 25
               · rfl
               · have hd3:=hc2 25 hdd 16 (zAs.1 (by kernel_rfl));rw [hd2] at hd3;cases hd3
              have hw2:w2=wd:=by rw [hS2.out];unfold zFm;rw [if_neg (by rw [dd];decide)]
              have cc:=HRK.out;rw [←hw2] at cc;clear hw2 dd hS2;go_simp;exact hK.out _ w2 (by rw [HST.out];exact (zAn (by decide)).symm) rfl
            · replace hS2:=hid hS2;go_simp;exact hK.out _ w2 (by rw [HST.out];exact (zAn (by decide)).symm) rfl
            · replace hS2:=hid hS2;have h17:vs 17=_:=exR (hR2 17 (by kernel_rfl)) (fun _ _ h=> h);simp only [h17] at hK⊢;go_simp;exact hK.out _ w2 (by rw [HST.out];exact (zAn (by decide)).symm) rfl
            · replace hS2:=hid hS2;have h18:vs 18=_:=exR (hR2 18 (by kernel_rfl)) (fun _ _ h=> h);simp only [h18] at hK⊢;go_simp;exact hK.out _ w2 (by rw [HST.out];exact (zAn (by decide)).symm) rfl
            · replace hS2:=hid hS2;have h19:vs 19=_:=exR (hR2 19 (by kernel_rfl)) (fun _ _ h=> h);simp only [h19] at hK⊢;have dd:d 25=false:=by
               cases hdd:d 25
               · rfl
               · have hd3:=hc2 25 hdd 20 (zAs.1 (by kernel_rfl));rw [hd2] at hd3;cases hd3
              have hw2:w2=wd:=by rw [hS2.out];unfold zFm;rw [if_neg (by rw [dd];decide)]
              have cc:=HC1.out;rw [←hw2] at cc;clear hw2 dd hS2;go_simp;exact hK.out _ w2 (by rw [HST.out];exact (zAn (by decide)).symm) rfl
            · replace hS2:=hid hS2;go_simp;exact hK.out _ w2 (by rw [HST.out];exact (zAn (by decide)).symm) rfl
            · replace hS2:=hid hS2;obtain ⟨_,_,_,H20⟩:=hR2 20 (by kernel_rfl);have h20:vs 20=.slice aO n cO:=H20;have h21:vs 21=_:=exR (hR2 21 (by kernel_rfl)) (fun _ _ h=> h);simp only [h21,h20] at hK⊢;go_simp;exact hK.out _ w2 (by rw [HST.out];exact (zAn (by decide)).symm) rfl
            · replace hS2:=hid hS2;have h22:vs 22=_:=exR (hR2 22 (by kernel_rfl)) (fun _ _ h=> h);simp only [h22] at hK⊢;have dd:d 25=false:=by
               cases hdd:d 25
               · rfl
               · have hd3:=hc2 25 hdd 23 (zAs.1 (by kernel_rfl));rw [hd2] at hd3;cases hd3
              have hw2:w2=wd:=by rw [hS2.out];unfold zFm;rw [if_neg (by rw [dd];decide)]
              have cc:=HRB.out;rw [←hw2] at cc;clear hw2 dd hS2;go_simp;exact hK.out _ w2 (by rw [HST.out];exact (zAn (by decide)).symm) rfl
            · replace hS2:=hid hS2;obtain ⟨_,_,_,H3⟩:=hR2 3 (by kernel_rfl);have h3:vs 3=.slice aO n cO:=H3;have h4:vs 4=_:=exR (hR2 4 (by kernel_rfl)) (fun _ _ h=> h);simp only [h4,h3] at hK⊢;go_simp;exact hK.out _ w2 (by rw [HST.out];exact (zAn (by decide)).symm) rfl
            · replace hS2:=hid hS2;obtain ⟨_,_,_,H16⟩:=hR2 16 (by kernel_rfl);have h16:vs 16=.int .i64 ok:=H16;have h24:vs 24=_:=exR (hR2 24 (by kernel_rfl)) (fun _ _ h=> h)
              (try simp only at hK⊢)
              simp only [h24,h16] at hK⊢;have n25:¬d 25=true:=by rw [hd2];decide
              have hw2:w2=wd:=by rw [hS2.out];unfold zFm;rw [if_neg n25]
              have cc:=HRB.out;have ff:=HFB.out;rw [←hw2] at cc ff;clear hw2 hS2 n25;go_simp;exact hK.out undef _ (by rw [HST.out];rfl) trivial
           case hende=>
            intro vs wx lo hiv hbx hSx hRx hdx;have h0:vs 0=_:=(hRx 0 (by kernel_rfl)).1;have h1:vs 1=_:=(hRx 1 (by kernel_rfl)).1;have h2:vs 2=_:=(hRx 2 (by kernel_rfl)).1;have H3:=(hRx 3 (by kernel_rfl)).1;have h3:vs 3=.slice aO n cO:=H3;have h4:vs 4=_:=(hRx 4 (by kernel_rfl)).1;have h5:vs 5=_:=(hRx 5 (by kernel_rfl)).1;have h6:vs 6=_:=(hRx 6 (by kernel_rfl)).1;have h7:vs 7=_:=(hRx 7 (by kernel_rfl)).1;have H8:=(hRx 8 (by kernel_rfl)).1;have h8:vs 8=.slice aO n cO:=H8;have h9:vs 9=_:=(hRx 9 (by kernel_rfl)).1;have h10:vs 10=_:=(hRx 10 (by kernel_rfl)).1;have h11:vs 11=_:=(hRx 11 (by kernel_rfl)).1;have h12:vs 12=_:=(hRx 12 (by kernel_rfl)).1;have H13:=(hRx 13 (by kernel_rfl)).1;have h13:vs 13=.slice aO n cO:=H13;have h14:vs 14=_:=(hRx 14 (by kernel_rfl)).1;have h15:vs 15=_:=(hRx 15 (by kernel_rfl)).1;have H16:=(hRx 16 (by kernel_rfl)).1;have h16:vs 16=.int .i64 ok:=H16;have h17:vs 17=_:=(hRx 17 (by kernel_rfl)).1;have h18:vs 18=_:=(hRx 18 (by kernel_rfl)).1;have h19:vs 19=_:=(hRx 19 (by kernel_rfl)).1;have H20:=(hRx 20 (by kernel_rfl)).1;have h20:vs 20=.slice aO n cO:=H20;have h21:vs 21=_:=(hRx 21 (by kernel_rfl)).1;have h22:vs 22=_:=(hRx 22 (by kernel_rfl)).1;have H23:=(hRx 23 (by kernel_rfl)).1;have h23:vs 23=.int .i64 op:=H23;have h24:vs 24=_:=(hRx 24 (by kernel_rfl)).1;simp only [zBg,Act.put,List.setIfInBounds_toArray,lz,ls,h0,h1,h2,h3,h4,h5,h6,h7,h8,h9,h10,h11,h12,h13,h14,h15,h16,h17,h18,h19,h20,h21,h22,h23,h24];have hws:wx=st 25 wd:=by
             rw [hSx];unfold zFm;rw [if_pos (by rfl)]
            rw [HST.out] at hws;replace hws:wx=_:=hws.trans (if_pos rfl);subst hws;clear hSx hRx hdx hiv hbx;refine zAt (i:=26) (by kernel_rfl) rfl (fun K hK=> ?_);go_simp;refine hK.out _ _ ?_;clear hK;obtain ⟨ex,cz⟩:=E1.out;have fz:=E2.out;refine zAt (i:=27) (by kernel_rfl) rfl (fun K hK=> ?_);go_simp;refine hK.out _ _ ?_;clear hK cz fz E1 E2;refine wpAny_done (by kernel_rfl) ?_ _;have HL6:=hid E4.out;have HB6:=hid (HBD.out.trans E3.out);clear E3 E4 HLD HBD;generalize (World.setCell (World.setCell wd ⟨gO,b,none⟩ (.int .i64 ok)) ⟨gO,k,none⟩ (.int .i64 op))=w6 at *;clear hoxb hoxk;have c3:=(zAa HL6.out.box).1 3 _ rfl;have f3:=(zAa HL6.out.box).2 3;go_wp2_with fail;go_meet;refine ⟨_,_,_,_,!odd,HL6.out.word (o:=3) (b:=!odd) (.inl rfl),?_,HB6.out.setCell (p:=⟨g,3,none⟩) HL6.out.gB (.bool !odd)⟩;rw [←HOPE.out,←HOKE.out];exact HLS.out.swap HKN.out HBN.out HNE.out
       case rest=>
        obtain ⟨bq2,bc2,M2,ord2,odd2,hl2,hs2,hb2⟩:=hcut;have HL2:=hid hl2;have HB2:=hid hb2;obtain ⟨R,hR⟩:∃R,(swS s b k).R=R:=⟨_,rfl⟩;have HR:=hid hR;have HNM0:=hid (show NumM n M2 R from fun i j hi hj=> by rw [←hR];exact hs2.num i j hi hj);have HOS:=hid (show ord2.length=n∧(∀i,i < n→ord2[i]? =some ((swS s b k).ord i:Int))∧odd2=(swS s b k).neg from ⟨hs2.ln,hs2.ord,hs2.odd⟩);clear hl2 hs2 hb2 hR hb0 HLi HBi HLr HBr HL;go_wp2_with fail
        go_loopw [9,10] (fun f i wr=> ∃ (a:Nat) (Ma:Nat→List Cx),k < a∧a≤n∧f=.bool (!zDt R k n a)∧i=.int .i64 a∧RLw B wr g (.slice aR n cR) (.slice aO n cO) n n n (fun i=> .slice (some ⟨bq2 i,0,none⟩) n (bc2 i)) Ma ord2 odd2 t2∧NumM n Ma (elP R k a (k+1))∧Below B w wr) (fun _ i _=> n - (intOf i).toNat)
        case atStart=> exact ⟨k+1,M2,by omega,by omega,by rw [fineUp_start];rfl,by go_num,HL2.out,by rw [elP_start];exact HNM0.out,HB2.out⟩
        case round=>
         obtain ⟨a,Ma,hka,han,rfl,rfl,hla,hna,hba⟩:=hrel;have HLr:=hid hla;have HNr:=hid hna;have HBr:=hid hba;have HKA:=hid hka;clear hla hna hba HL2 HB2 HNM0;have c0:=(zAa HLr.out.box).1 0 _ rfl;have hbnd:=HN.out
         by_cases hlt:a < n
         · have HAN:=hid hlt;have hia:=(HLr.out.rc hlt HGR.out).2.2;have hik:=(HLr.out.rc hk HGR.out).2.2;have hat:∀w',(Instr.indexAt 70 (.slice (some ⟨bq2 a,0,none⟩) n (bc2 a)) (.int .i64 k)).run Tryz.prog w'=.ok (.pointer (some ⟨bq2 a,k,none⟩)) w':=fun w'=> zBq HKN.out w'
           have hatk:∀w',(Instr.indexAt 70 (.slice (some ⟨bq2 k,0,none⟩) n (bc2 k)) (.int .i64 k)).run Tryz.prog w'=.ok (.pointer (some ⟨bq2 k,k,none⟩)) w':=fun w'=> zBq HKN.out w'
           go_upto_region 26 with fail;clear c0
           obtain ⟨x1,x2,hxz⟩:∃x1 x2,(Ma a).getD k (0,0)=(x1,x2):=⟨_,_,rfl⟩;obtain ⟨y1,y2,hyz⟩:∃y1 y2,(Ma k).getD k (0,0)=(y1,y2):=⟨_,_,rfl⟩;have HXC:=hid (show wr.cell? ⟨bq2 a,k,none⟩=some (.complex .f64 x1 x2) by have h:=(HLr.out.nc hlt hk).1;rw [hxz] at h;exact h);have HYC:=hid (show wr.cell? ⟨bq2 k,k,none⟩=some (.complex .f64 y1 y2) by have h:=(HLr.out.nc hk hk).1;rw [hyz] at h;exact h);have HXA:=hid (show ck (x1,x2)=R a k by rw [←hxz,HNr.out a k hlt hk,elP_diag]);have HYK:=hid (show ck (y1,y2)=R k k by rw [←hyz,HNr.out k k hk hk,elP_top HKA.out]);clear hxz hyz
           as_aux_lemma=>
            refine wp_region_any (by kernel_rfl) ?_;change wpAny _ _ _ _ _ _ _ (World.drew _);refine zAy [⟨some 181,0, []⟩,⟨some 182,1, []⟩,⟨some 183,2, []⟩,⟨some 184,3, []⟩,⟨some 185,4, []⟩,⟨some 186,5, []⟩,⟨some 187,6, []⟩,⟨some 188,7, []⟩,⟨some 189,8, []⟩,⟨some 190,9, []⟩,⟨some 191,10, []⟩,⟨some 192,11, []⟩,⟨some 193,12, []⟩,⟨some 194,13, []⟩,⟨some 195,14, []⟩,⟨some 196,15, []⟩,⟨some 197,16, []⟩,⟨some 198,17, []⟩,⟨some 199,18, []⟩,⟨some 200,19, []⟩,⟨some 201,20, []⟩]
             (fun w'=> RLw B w' g (.slice aR n cR) (.slice aO n cO) n n n (fun i=> .slice (some ⟨bq2 i,0,none⟩) n (bc2 i)) Ma ord2 odd2 t2∧w'.cell? ⟨bq2 a,k,none⟩=some (.complex .f64 x1 x2)∧w'.cell? ⟨bq2 k,k,none⟩=some (.complex .f64 y1 y2))
             (fun oq v _ _ _ _=> match oq with | 0=> v=.pointer (some ⟨g,0,none⟩) | 1=> v=.pointer (some ⟨g,0,none⟩) | 2=> v=.pointer (some ⟨g,1,none⟩) | 3=> v=.slice aR n cR | 4=> v=.int .i64 a | 5=> v=.pointer (some ⟨gR,a,none⟩) | 6=> v=.slice (some ⟨bq2 a,0,none⟩) n (bc2 a) | 7=> v=.int .i64 k | 8=> v=.pointer (some ⟨bq2 a,k,none⟩) | 9=> v=.complex .f64 x1 x2 | 10=> v=.pointer (some ⟨g,0,none⟩) | 11=> v=.pointer (some ⟨g,0,none⟩) | 12=> v=.pointer (some ⟨g,1,none⟩) | 13=> v=.slice aR n cR | 14=> v=.int .i64 k | 15=> v=.pointer (some ⟨gR,k,none⟩) | 16=> v=.slice (some ⟨bq2 k,0,none⟩) n (bc2 k) | 17=> v=.int .i64 k | 18=> v=.pointer (some ⟨bq2 k,k,none⟩) | 19=> v=.complex .f64 y1 y2 | 20=> ∃r1 r2,v=Value.complex .f64 r1 r2∧ck (r1,r2)=cdiv (fc x1,fc x2) (fc y1,fc y2) | _=> True) (by kernel_rfl) ?hSf (fun _ _ hb h=> ⟨h.1.later hb,cell_later hb h.2.1,cell_later hb h.2.2⟩) (fun _ _ _ _ _ _ _ _ _ h=> h) ?hopf ?hendf
            case hSf=> exact ⟨HLr.out.later (Below.refl _ _).drew,cell_later (Below.refl _ _).drew HXC.out,cell_later (Below.refl _ _).drew HYC.out⟩
            case hopf=>
             delta Owed
             simp only [zBg,Act.put,List.setIfInBounds_toArray,lz,ls];refine Each.cons rfl ?_ (Each.cons rfl ?_ (Each.cons rfl ?_ (Each.cons rfl ?_ (Each.cons rfl ?_ (Each.cons rfl ?_ (Each.cons rfl ?_ (Each.cons rfl ?_ (Each.cons rfl ?_ (Each.cons rfl ?_ (Each.cons rfl ?_ (Each.cons rfl ?_ (Each.cons rfl ?_ (Each.cons rfl ?_ (Each.cons rfl ?_ (Each.cons rfl ?_ (Each.cons rfl ?_ (Each.cons rfl ?_ (Each.cons rfl ?_ (Each.cons rfl ?_ (Each.cons rfl ?_ Each.nil))))))))))))))))))))
             all_goals intro vs w2 hb2 hS2 hR2 K hK;try simp only [lz,ls] at hK⊢
             · go_simp;exact shP hK
             · have h0:vs 0=_:=exR (hR2 0 (by kernel_rfl)) (fun _ _ h=> h);simp only [h0] at hK⊢;go_simp;exact shP hK
             · have h1:vs 1=_:=exR (hR2 1 (by kernel_rfl)) (fun _ _ h=> h);simp only [h1] at hK⊢;go_simp;exact shP hK
             · have h2:vs 2=_:=exR (hR2 2 (by kernel_rfl)) (fun _ _ h=> h);have l1:=(zAa hS2.1.box).1 1 _ rfl;have l2:=(hS2.1.rc HKN.out HGR.out).1;have l2b:=(hS2.1.rc HAN.out HGR.out).1;have l3:=hS2.2.1;have l4:=hS2.2.2;simp only [h2] at hK⊢;go_simp;exact shP hK
             · go_simp;exact shP hK
             · have h3:vs 3=_:=exR (hR2 3 (by kernel_rfl)) (fun _ _ h=> h);have h4:vs 4=_:=exR (hR2 4 (by kernel_rfl)) (fun _ _ h=> h);have l1:=(zAa hS2.1.box).1 1 _ rfl;have l2:=(hS2.1.rc HKN.out HGR.out).1;have l2b:=(hS2.1.rc HAN.out HGR.out).1;have l3:=hS2.2.1;have l4:=hS2.2.2;simp only [h3,h4] at hK⊢;go_simp;exact shP hK
             · have h5:vs 5=_:=exR (hR2 5 (by kernel_rfl)) (fun _ _ h=> h);have l1:=(zAa hS2.1.box).1 1 _ rfl;have l2:=(hS2.1.rc HKN.out HGR.out).1;have l2b:=(hS2.1.rc HAN.out HGR.out).1;have l3:=hS2.2.1;have l4:=hS2.2.2;simp only [h5] at hK⊢;go_simp;exact shP hK
             · go_simp;exact shP hK
             · have h6:vs 6=_:=exR (hR2 6 (by kernel_rfl)) (fun _ _ h=> h);have h7:vs 7=_:=exR (hR2 7 (by kernel_rfl)) (fun _ _ h=> h);have l1:=(zAa hS2.1.box).1 1 _ rfl;have l2:=(hS2.1.rc HKN.out HGR.out).1;have l2b:=(hS2.1.rc HAN.out HGR.out).1;have l3:=hS2.2.1;have l4:=hS2.2.2;simp only [h6,h7] at hK⊢;go_simp;exact shP hK
             · have h8:vs 8=_:=exR (hR2 8 (by kernel_rfl)) (fun _ _ h=> h);have l1:=(zAa hS2.1.box).1 1 _ rfl;have l2:=(hS2.1.rc HKN.out HGR.out).1;have l2b:=(hS2.1.rc HAN.out HGR.out).1;have l3:=hS2.2.1;have l4:=hS2.2.2;simp only [h8] at hK⊢;go_simp;exact shP hK
             · go_simp;exact shP hK
             · have h10:vs 10=_:=exR (hR2 10 (by kernel_rfl)) (fun _ _ h=> h);simp only [h10] at hK⊢;go_simp;exact shP hK
             · have h11:vs 11=_:=exR (hR2 11 (by kernel_rfl)) (fun _ _ h=> h);simp only [h11] at hK⊢;go_simp;exact shP hK
             · have h12:vs 12=_:=exR (hR2 12 (by kernel_rfl)) (fun _ _ h=> h);have l1:=(zAa hS2.1.box).1 1 _ rfl;have l2:=(hS2.1.rc HKN.out HGR.out).1;have l2b:=(hS2.1.rc HAN.out HGR.out).1;have l3:=hS2.2.1;have l4:=hS2.2.2;simp only [h12] at hK⊢;go_simp;exact shP hK
             · go_simp;exact shP hK
             · have h13:vs 13=_:=exR (hR2 13 (by kernel_rfl)) (fun _ _ h=> h);have h14:vs 14=_:=exR (hR2 14 (by kernel_rfl)) (fun _ _ h=> h);have l1:=(zAa hS2.1.box).1 1 _ rfl;have l2:=(hS2.1.rc HKN.out HGR.out).1;have l2b:=(hS2.1.rc HAN.out HGR.out).1;have l3:=hS2.2.1;have l4:=hS2.2.2;simp only [h13,h14] at hK⊢;go_simp;exact shP hK
             · have h15:vs 15=_:=exR (hR2 15 (by kernel_rfl)) (fun _ _ h=> h);have l1:=(zAa hS2.1.box).1 1 _ rfl;have l2:=(hS2.1.rc HKN.out HGR.out).1;have l2b:=(hS2.1.rc HAN.out HGR.out).1;have l3:=hS2.2.1;have l4:=hS2.2.2;simp only [h15] at hK⊢;go_simp;exact shP hK
             · go_simp;exact shP hK
             · have h16:vs 16=_:=exR (hR2 16 (by kernel_rfl)) (fun _ _ h=> h);have h17:vs 17=_:=exR (hR2 17 (by kernel_rfl)) (fun _ _ h=> h);have l1:=(zAa hS2.1.box).1 1 _ rfl;have l2:=(hS2.1.rc HKN.out HGR.out).1;have l2b:=(hS2.1.rc HAN.out HGR.out).1;have l3:=hS2.2.1;have l4:=hS2.2.2;simp only [h16,h17] at hK⊢;go_simp;exact shP hK
             · have h18:vs 18=_:=exR (hR2 18 (by kernel_rfl)) (fun _ _ h=> h);have l1:=(zAa hS2.1.box).1 1 _ rfl;have l2:=(hS2.1.rc HKN.out HGR.out).1;have l2b:=(hS2.1.rc HAN.out HGR.out).1;have l3:=hS2.2.1;have l4:=hS2.2.2;simp only [h18] at hK⊢;go_simp;exact shP hK
             · have h9:vs 9=_:=exR (hR2 9 (by kernel_rfl)) (fun _ _ h=> h);have h19:vs 19=_:=exR (hR2 19 (by kernel_rfl)) (fun _ _ h=> h);simp only [h9,h19] at hK⊢;rw [if_pos (by rfl)];go_wp2_with (go_at_call 55;refine (rdiv_any x1 x2 y1 y2 _).mono ?_;rintro e w3 ⟨v,nn,rfl,he,r1,r2,rfl,hzz⟩;subst he);exact hK.out _ _ (zAg (Below.refl _ _) nn) ⟨r1,r2,rfl,hzz⟩
            case hendf=>
             intro vs wx lo hiv hbx hSx hRx hdx;have h0:vs 0=_:=(hRx 0 (by kernel_rfl)).1;have h1:vs 1=_:=(hRx 1 (by kernel_rfl)).1;have h2:vs 2=_:=(hRx 2 (by kernel_rfl)).1;have h3:vs 3=_:=(hRx 3 (by kernel_rfl)).1;have h4:vs 4=_:=(hRx 4 (by kernel_rfl)).1;have h5:vs 5=_:=(hRx 5 (by kernel_rfl)).1;have h6:vs 6=_:=(hRx 6 (by kernel_rfl)).1;have h7:vs 7=_:=(hRx 7 (by kernel_rfl)).1;have h8:vs 8=_:=(hRx 8 (by kernel_rfl)).1;have h9:vs 9=_:=(hRx 9 (by kernel_rfl)).1;have h10:vs 10=_:=(hRx 10 (by kernel_rfl)).1;have h11:vs 11=_:=(hRx 11 (by kernel_rfl)).1;have h12:vs 12=_:=(hRx 12 (by kernel_rfl)).1;have h13:vs 13=_:=(hRx 13 (by kernel_rfl)).1;have h14:vs 14=_:=(hRx 14 (by kernel_rfl)).1;have h15:vs 15=_:=(hRx 15 (by kernel_rfl)).1;have h16:vs 16=_:=(hRx 16 (by kernel_rfl)).1;have h17:vs 17=_:=(hRx 17 (by kernel_rfl)).1;have h18:vs 18=_:=(hRx 18 (by kernel_rfl)).1;have h19:vs 19=_:=(hRx 19 (by kernel_rfl)).1;have H20:=(hRx 20 (by kernel_rfl)).1;obtain ⟨r1,r2,h20,hz20⟩:=H20;simp only [zBg,Act.put,List.setIfInBounds_toArray,lz,ls,h0,h1,h2,h3,h4,h5,h6,h7,h8,h9,h10,h11,h12,h13,h14,h15,h16,h17,h18,h19,h20];have hb:=zAq hbx;have HL3:=hid (HLr.out.later hb);have HB3:=hid (HBr.out.trans (hb.mono HLr.out.lt));have HFQ:=hid (show ck (r1,r2)=factE R k a by rw [hz20];unfold factE;rw [←HXA.out,←HYK.out];rfl);clear hbx hSx hRx hdx hiv hb HLr HBr hz20 h20;refine zAt (i:=21) (by kernel_rfl) rfl (fun K hK=> ?_);go_simp;refine hK.out _ _ ?_;clear hK;refine wpAny_done (by kernel_rfl) ?_ _;go_upto_region 27 with fail;obtain ⟨w4,hw4⟩:∃w4:World,w4=wx:=⟨_,rfl⟩;subst hw4
             go_cut [9] (fun t wx=> t=.bool (ovr (zDt R k n a) (zEd R k a (k+1)))∧Below w4.heap.size w4 wx)
             case first=>
              cases hfu:zDt R k n a
              all_goals (go_wp2_with (go_at_call 35;refine (zBp r1 r2 _).mono ?_;rintro e w5 ⟨v,nn4,rfl,rfl,rfl⟩))
              all_goals go_meet
              · exact ⟨by rw [hfu];rfl,Below.refl _ _⟩
              · exact ⟨by rw [hfu,fineRow_start,←HFQ.out];rfl,zAg (Below.refl _ _) nn4⟩
             case rest=>
              obtain ⟨rfl,hb5⟩:=hcut;have HL5:=hid (HL3.out.later hb5);have HB5:=hid (HB3.out.trans (hb5.mono HL3.out.lt));clear HL3 HB3 hb5 hat hatk HXC HYC HXA HYK;go_wp2_with fail
              go_loopw [9,12] (fun f j wr=> ∃ (q:Nat) (Mi:Nat→List Cx),k < q∧q≤n∧f=.bool (ovr (zDt R k n a) (zEd R k a q))∧j=.int .i64 q∧RLw B wr g (.slice aR n cR) (.slice aO n cO) n n n (fun i=> .slice (some ⟨bq2 i,0,none⟩) n (bc2 i)) Mi ord2 odd2 t2∧NumM n Mi (elP R k a q)∧Below B w wr) (fun _ j _=> n - (intOf j).toNat)
              case atStart=> exact ⟨k+1,Ma,by omega,by omega,rfl,by go_num,HL5.out,HNr.out,HB5.out⟩
              case round=>
               obtain ⟨q,Mi,hkq,hqn,rfl,rfl,hlq,hnq,hbq⟩:=hrel;have HLq:=hid hlq;have HNq:=hid hnq;have HBq:=hid hbq;have HKQ:=hid hkq;clear hlq hnq hbq HL5 HB5 HNr;obtain ⟨fl,hfl⟩:∃fl,ovr (zDt R k n a) (zEd R k a q)=fl:=⟨_,rfl⟩;have HFL:=hid hfl;rw [hfl];clear hfl;have c0:=(zAa HLq.out.box).1 0 _ rfl
               by_cases hql:q < n
               · have HQL:=hid hql;have hat:∀w',(Instr.indexAt 70 (.slice (some ⟨bq2 a,0,none⟩) n (bc2 a)) (.int .i64 q)).run Tryz.prog w'=.ok (.pointer (some ⟨bq2 a,q,none⟩)) w':=fun w'=> zBq HQL.out w'
                 have hatk:∀w',(Instr.indexAt 70 (.slice (some ⟨bq2 k,0,none⟩) n (bc2 k)) (.int .i64 q)).run Tryz.prog w'=.ok (.pointer (some ⟨bq2 k,q,none⟩)) w':=fun w'=> zBq HQL.out w'
                 go_upto_region 31 with fail;clear c0
                 obtain ⟨x1,x2,hxz⟩:∃x1 x2,(Mi a).getD q (0,0)=(x1,x2):=⟨_,_,rfl⟩;obtain ⟨y1,y2,hyz⟩:∃y1 y2,(Mi k).getD q (0,0)=(y1,y2):=⟨_,_,rfl⟩;have HXC:=hid (show wr.cell? ⟨bq2 a,q,none⟩=some (.complex .f64 x1 x2) by have h:=(HLq.out.nc HAN.out hql).1;rw [hxz] at h;exact h);have HYC:=hid (show wr.cell? ⟨bq2 k,q,none⟩=some (.complex .f64 y1 y2) by have h:=(HLq.out.nc hk hql).1;rw [hyz] at h;exact h);have HXA:=hid (show ck (x1,x2)=R a q by rw [←hxz,HNq.out a q HAN.out hql,elP_at]);have HYK:=hid (show ck (y1,y2)=R k q by rw [←hyz,HNq.out k q hk hql,elP_top HKA.out]);clear hxz hyz
                 as_aux_lemma=>
                  refine wp_region_any (by kernel_rfl) ?_;change wpAny _ _ _ _ _ _ _ (World.drew _);refine zAy [⟨some 218,0, []⟩,⟨some 219,1, []⟩,⟨some 220,2, []⟩,⟨some 221,3, []⟩,⟨some 222,4, []⟩,⟨some 223,5, []⟩,⟨some 224,6, []⟩,⟨some 225,7, []⟩,⟨some 226,8, []⟩,⟨some 227,9, []⟩,⟨some 228,10, []⟩,⟨some 229,11, []⟩,⟨some 230,12, []⟩,⟨some 231,13, []⟩,⟨some 232,14, []⟩,⟨some 233,15, []⟩,⟨some 234,16, []⟩,⟨some 235,17, []⟩,⟨some 236,18, []⟩,⟨some 237,19, []⟩,⟨some 238,20, []⟩,⟨some 239,21, []⟩,⟨some 240,22, []⟩,⟨some 241,23, []⟩,⟨some 242,24, []⟩,⟨some 243,25, []⟩,⟨some 244,26, []⟩,⟨some 245,27, []⟩,⟨some 246,28, []⟩,⟨some 247,29, []⟩,⟨some 248,30, []⟩]
                   (fun w'=> RLw B w' g (.slice aR n cR) (.slice aO n cO) n n n (fun i=> .slice (some ⟨bq2 i,0,none⟩) n (bc2 i)) Mi ord2 odd2 t2∧w'.cell? ⟨bq2 a,q,none⟩=some (.complex .f64 x1 x2)∧w'.cell? ⟨bq2 k,q,none⟩=some (.complex .f64 y1 y2))
                   (fun oq v _ _ _ _=> match oq with | 0=> v=.pointer (some ⟨g,0,none⟩) | 1=> v=.pointer (some ⟨g,0,none⟩) | 2=> v=.pointer (some ⟨g,1,none⟩) | 3=> v=.slice aR n cR | 4=> v=.int .i64 a | 5=> v=.pointer (some ⟨gR,a,none⟩) | 6=> v=.slice (some ⟨bq2 a,0,none⟩) n (bc2 a) | 7=> v=.int .i64 q | 8=> v=.pointer (some ⟨g,0,none⟩) | 9=> v=.pointer (some ⟨g,0,none⟩) | 10=> v=.pointer (some ⟨g,1,none⟩) | 11=> v=.slice aR n cR | 12=> v=.int .i64 a | 13=> v=.pointer (some ⟨gR,a,none⟩) | 14=> v=.slice (some ⟨bq2 a,0,none⟩) n (bc2 a) | 15=> v=.int .i64 q | 16=> v=.pointer (some ⟨bq2 a,q,none⟩) | 17=> v=.complex .f64 x1 x2 | 18=> v=.complex .f64 r1 r2 | 19=> v=.pointer (some ⟨g,0,none⟩) | 20=> v=.pointer (some ⟨g,0,none⟩) | 21=> v=.pointer (some ⟨g,1,none⟩) | 22=> v=.slice aR n cR | 23=> v=.int .i64 k | 24=> v=.pointer (some ⟨gR,k,none⟩) | 25=> v=.slice (some ⟨bq2 k,0,none⟩) n (bc2 k) | 26=> v=.int .i64 q | 27=> v=.pointer (some ⟨bq2 k,q,none⟩) | 28=> v=.complex .f64 y1 y2 | 29=> ∃m1 m2,v=Value.complex .f64 m1 m2∧ck (m1,m2)=cmul (fc r1,fc r2) (fc y1,fc y2) | 30=> ∃s1 s2,v=Value.complex .f64 s1 s2∧ck (s1,s2)=csub (fc x1,fc x2) (cmul (fc r1,fc r2) (fc y1,fc y2)) | _=> True) (by kernel_rfl) ?hSg (fun _ _ hb h=> ⟨h.1.later hb,cell_later hb h.2.1,cell_later hb h.2.2⟩) (fun _ _ _ _ _ _ _ _ _ h=> h) ?hopg ?hendg
                  case hSg=> exact ⟨HLq.out.later (Below.refl _ _).drew,cell_later (Below.refl _ _).drew HXC.out,cell_later (Below.refl _ _).drew HYC.out⟩
                  case hopg=>
                   delta Owed
                   simp only [zBg,Act.put,List.setIfInBounds_toArray,lz,ls];refine Each.cons rfl ?_ (Each.cons rfl ?_ (Each.cons rfl ?_ (Each.cons rfl ?_ (Each.cons rfl ?_ (Each.cons rfl ?_ (Each.cons rfl ?_ (Each.cons rfl ?_ (Each.cons rfl ?_ (Each.cons rfl ?_ (Each.cons rfl ?_ (Each.cons rfl ?_ (Each.cons rfl ?_ (Each.cons rfl ?_ (Each.cons rfl ?_ (Each.cons rfl ?_ (Each.cons rfl ?_ (Each.cons rfl ?_ (Each.cons rfl ?_ (Each.cons rfl ?_ (Each.cons rfl ?_ (Each.cons rfl ?_ (Each.cons rfl ?_ (Each.cons rfl ?_ (Each.cons rfl ?_ (Each.cons rfl ?_ (Each.cons rfl ?_ (Each.cons rfl ?_ (Each.cons rfl ?_ (Each.cons rfl ?_ (Each.cons rfl ?_ Each.nil))))))))))))))))))))))))))))))
                   all_goals intro vs w2 hb2 hS2 hR2 K hK;try simp only [lz,ls] at hK⊢
                   · go_simp;exact shP hK
                   · have h0:vs 0=_:=exR (hR2 0 (by kernel_rfl)) (fun _ _ h=> h);simp only [h0] at hK⊢;go_simp;exact shP hK
                   · have h1:vs 1=_:=exR (hR2 1 (by kernel_rfl)) (fun _ _ h=> h);simp only [h1] at hK⊢;go_simp;exact shP hK
                   · have h2:vs 2=_:=exR (hR2 2 (by kernel_rfl)) (fun _ _ h=> h);have l1:=(zAa hS2.1.box).1 1 _ rfl;have l2:=(hS2.1.rc HKN.out HGR.out).1;have l2b:=(hS2.1.rc HAN.out HGR.out).1;have l3:=hS2.2.1;have l4:=hS2.2.2;simp only [h2] at hK⊢;go_simp;exact shP hK
                   · go_simp;exact shP hK
                   · have h3:vs 3=_:=exR (hR2 3 (by kernel_rfl)) (fun _ _ h=> h);have h4:vs 4=_:=exR (hR2 4 (by kernel_rfl)) (fun _ _ h=> h);have l1:=(zAa hS2.1.box).1 1 _ rfl;have l2:=(hS2.1.rc HKN.out HGR.out).1;have l2b:=(hS2.1.rc HAN.out HGR.out).1;have l3:=hS2.2.1;have l4:=hS2.2.2;simp only [h3,h4] at hK⊢;go_simp;exact shP hK
                   · have h5:vs 5=_:=exR (hR2 5 (by kernel_rfl)) (fun _ _ h=> h);have l1:=(zAa hS2.1.box).1 1 _ rfl;have l2:=(hS2.1.rc HKN.out HGR.out).1;have l2b:=(hS2.1.rc HAN.out HGR.out).1;have l3:=hS2.2.1;have l4:=hS2.2.2;simp only [h5] at hK⊢;go_simp;exact shP hK
                   · go_simp;exact shP hK
                   · go_simp;exact shP hK
                   · have h8:vs 8=_:=exR (hR2 8 (by kernel_rfl)) (fun _ _ h=> h);simp only [h8] at hK⊢;go_simp;exact shP hK
                   · have h9:vs 9=_:=exR (hR2 9 (by kernel_rfl)) (fun _ _ h=> h);simp only [h9] at hK⊢;go_simp;exact shP hK
                   · have h10:vs 10=_:=exR (hR2 10 (by kernel_rfl)) (fun _ _ h=> h);have l1:=(zAa hS2.1.box).1 1 _ rfl;have l2:=(hS2.1.rc HKN.out HGR.out).1;have l2b:=(hS2.1.rc HAN.out HGR.out).1;have l3:=hS2.2.1;have l4:=hS2.2.2;simp only [h10] at hK⊢;go_simp;exact shP hK
                   · go_simp;exact shP hK
                   · have h11:vs 11=_:=exR (hR2 11 (by kernel_rfl)) (fun _ _ h=> h);have h12:vs 12=_:=exR (hR2 12 (by kernel_rfl)) (fun _ _ h=> h);have l1:=(zAa hS2.1.box).1 1 _ rfl;have l2:=(hS2.1.rc HKN.out HGR.out).1;have l2b:=(hS2.1.rc HAN.out HGR.out).1;have l3:=hS2.2.1;have l4:=hS2.2.2;simp only [h11,h12] at hK⊢;go_simp;exact shP hK
                   · have h13:vs 13=_:=exR (hR2 13 (by kernel_rfl)) (fun _ _ h=> h);have l1:=(zAa hS2.1.box).1 1 _ rfl;have l2:=(hS2.1.rc HKN.out HGR.out).1;have l2b:=(hS2.1.rc HAN.out HGR.out).1;have l3:=hS2.2.1;have l4:=hS2.2.2;simp only [h13] at hK⊢;go_simp;exact shP hK
                   · go_simp;exact shP hK
                   · have h14:vs 14=_:=exR (hR2 14 (by kernel_rfl)) (fun _ _ h=> h);have h15:vs 15=_:=exR (hR2 15 (by kernel_rfl)) (fun _ _ h=> h);have l1:=(zAa hS2.1.box).1 1 _ rfl;have l2:=(hS2.1.rc HKN.out HGR.out).1;have l2b:=(hS2.1.rc HAN.out HGR.out).1;have l3:=hS2.2.1;have l4:=hS2.2.2;simp only [h14,h15] at hK⊢;go_simp;exact shP hK
                   · have h16:vs 16=_:=exR (hR2 16 (by kernel_rfl)) (fun _ _ h=> h);have l1:=(zAa hS2.1.box).1 1 _ rfl;have l2:=(hS2.1.rc HKN.out HGR.out).1;have l2b:=(hS2.1.rc HAN.out HGR.out).1;have l3:=hS2.2.1;have l4:=hS2.2.2;simp only [h16] at hK⊢;go_simp;exact shP hK
                   · go_simp;exact shP hK
                   · go_simp;exact shP hK
                   · have h19:vs 19=_:=exR (hR2 19 (by kernel_rfl)) (fun _ _ h=> h);simp only [h19] at hK⊢;go_simp;exact shP hK
                   · have h20:vs 20=_:=exR (hR2 20 (by kernel_rfl)) (fun _ _ h=> h);simp only [h20] at hK⊢;go_simp;exact shP hK
                   · have h21:vs 21=_:=exR (hR2 21 (by kernel_rfl)) (fun _ _ h=> h);have l1:=(zAa hS2.1.box).1 1 _ rfl;have l2:=(hS2.1.rc HKN.out HGR.out).1;have l2b:=(hS2.1.rc HAN.out HGR.out).1;have l3:=hS2.2.1;have l4:=hS2.2.2;simp only [h21] at hK⊢;go_simp;exact shP hK
                   · go_simp;exact shP hK
                   · have h22:vs 22=_:=exR (hR2 22 (by kernel_rfl)) (fun _ _ h=> h);have h23:vs 23=_:=exR (hR2 23 (by kernel_rfl)) (fun _ _ h=> h);have l1:=(zAa hS2.1.box).1 1 _ rfl;have l2:=(hS2.1.rc HKN.out HGR.out).1;have l2b:=(hS2.1.rc HAN.out HGR.out).1;have l3:=hS2.2.1;have l4:=hS2.2.2;simp only [h22,h23] at hK⊢;go_simp;exact shP hK
                   · have h24:vs 24=_:=exR (hR2 24 (by kernel_rfl)) (fun _ _ h=> h);have l1:=(zAa hS2.1.box).1 1 _ rfl;have l2:=(hS2.1.rc HKN.out HGR.out).1;have l2b:=(hS2.1.rc HAN.out HGR.out).1;have l3:=hS2.2.1;have l4:=hS2.2.2;simp only [h24] at hK⊢;go_simp;exact shP hK
                   · go_simp;exact shP hK
                   · have h25:vs 25=_:=exR (hR2 25 (by kernel_rfl)) (fun _ _ h=> h);have h26:vs 26=_:=exR (hR2 26 (by kernel_rfl)) (fun _ _ h=> h);have l1:=(zAa hS2.1.box).1 1 _ rfl;have l2:=(hS2.1.rc HKN.out HGR.out).1;have l2b:=(hS2.1.rc HAN.out HGR.out).1;have l3:=hS2.2.1;have l4:=hS2.2.2;simp only [h25,h26] at hK⊢;go_simp;exact shP hK
                   · have h27:vs 27=_:=exR (hR2 27 (by kernel_rfl)) (fun _ _ h=> h);have l1:=(zAa hS2.1.box).1 1 _ rfl;have l2:=(hS2.1.rc HKN.out HGR.out).1;have l2b:=(hS2.1.rc HAN.out HGR.out).1;have l3:=hS2.2.1;have l4:=hS2.2.2;simp only [h27] at hK⊢;go_simp;exact shP hK
                   · have h18:vs 18=_:=exR (hR2 18 (by kernel_rfl)) (fun _ _ h=> h);have h28:vs 28=_:=exR (hR2 28 (by kernel_rfl)) (fun _ _ h=> h);simp only [h18,h28] at hK⊢;rw [if_pos (by rfl)];go_wp2_with (go_at_call 84;refine (rmul_any r1 r2 y1 y2 _).mono ?_;rintro e w3 ⟨v,nn,rfl,he,m1,m2,rfl,hzz⟩;subst he);exact hK.out _ _ (zAg (Below.refl _ _) nn) ⟨m1,m2,rfl,hzz⟩
                   · have h17:vs 17=_:=exR (hR2 17 (by kernel_rfl)) (fun _ _ h=> h);obtain ⟨_,_,_,H29⟩:=hR2 29 (by kernel_rfl);obtain ⟨m1,m2,h29,hz29⟩:=H29;simp only [h17,h29] at hK⊢;rw [if_pos (by rfl)];go_wp2_with (go_at_call 50;refine (rsub_any x1 x2 m1 m2 _).mono ?_;rintro e w3 ⟨v,nn,rfl,he,s1,s2,rfl,hzz⟩;subst he);exact hK.out _ _ (zAg (Below.refl _ _) nn) ⟨s1,s2,rfl,hzz.trans (by rw [show (fc m1,fc m2)=ck (m1,m2) from rfl,hz29])⟩
                  case hendg=>
                   intro vs wx lo hiv hbx hSx hRx hdx;have h0:vs 0=_:=(hRx 0 (by kernel_rfl)).1;have h1:vs 1=_:=(hRx 1 (by kernel_rfl)).1;have h2:vs 2=_:=(hRx 2 (by kernel_rfl)).1;have h3:vs 3=_:=(hRx 3 (by kernel_rfl)).1;have h4:vs 4=_:=(hRx 4 (by kernel_rfl)).1;have h5:vs 5=_:=(hRx 5 (by kernel_rfl)).1;have h6:vs 6=_:=(hRx 6 (by kernel_rfl)).1;have h7:vs 7=_:=(hRx 7 (by kernel_rfl)).1;have h8:vs 8=_:=(hRx 8 (by kernel_rfl)).1;have h9:vs 9=_:=(hRx 9 (by kernel_rfl)).1;have h10:vs 10=_:=(hRx 10 (by kernel_rfl)).1;have h11:vs 11=_:=(hRx 11 (by kernel_rfl)).1;have h12:vs 12=_:=(hRx 12 (by kernel_rfl)).1;have h13:vs 13=_:=(hRx 13 (by kernel_rfl)).1;have h14:vs 14=_:=(hRx 14 (by kernel_rfl)).1;have h15:vs 15=_:=(hRx 15 (by kernel_rfl)).1;have h16:vs 16=_:=(hRx 16 (by kernel_rfl)).1;have h17:vs 17=_:=(hRx 17 (by kernel_rfl)).1;have h18:vs 18=_:=(hRx 18 (by kernel_rfl)).1;have h19:vs 19=_:=(hRx 19 (by kernel_rfl)).1;have h20:vs 20=_:=(hRx 20 (by kernel_rfl)).1;have h21:vs 21=_:=(hRx 21 (by kernel_rfl)).1;have h22:vs 22=_:=(hRx 22 (by kernel_rfl)).1;have h23:vs 23=_:=(hRx 23 (by kernel_rfl)).1;have h24:vs 24=_:=(hRx 24 (by kernel_rfl)).1;have h25:vs 25=_:=(hRx 25 (by kernel_rfl)).1;have h26:vs 26=_:=(hRx 26 (by kernel_rfl)).1;have h27:vs 27=_:=(hRx 27 (by kernel_rfl)).1;have h28:vs 28=_:=(hRx 28 (by kernel_rfl)).1;have H29:=(hRx 29 (by kernel_rfl)).1;obtain ⟨m1,m2,h29,hz29⟩:=H29;have H30:=(hRx 30 (by kernel_rfl)).1;obtain ⟨s1,s2,h30,hz30⟩:=H30;simp only [zBg,Act.put,List.setIfInBounds_toArray,lz,ls,h0,h1,h2,h3,h4,h5,h6,h7,h8,h9,h10,h11,h12,h13,h14,h15,h16,h17,h18,h19,h20,h21,h22,h23,h24,h25,h26,h27,h28,h29,h30];have hb:=zAq hbx;have HL4:=hid (HLq.out.later hb);have HB4:=hid (HBq.out.trans (hb.mono HLq.out.lt));have HSQ:=hid (show ck (s1,s2)=rowE R k a q by rw [hz30,rowE_mid HKQ.out,←HXA.out,←HYK.out,←HFQ.out];rfl)
                   clear hbx hSx hRx hdx hiv hb HLq HBq hz30 h30 hz29 h29;refine zAt (i:=31) (by kernel_rfl) rfl (fun K hK=> ?_);go_simp;refine hK.out _ _ ?_;clear hK;have cz:=(HL4.out.nc HAN.out HQL.out).1;have fz:=(HL4.out.nc HAN.out HQL.out).2;refine zAt (i:=32) (by kernel_rfl) rfl (fun K hK=> ?_);go_simp;refine hK.out _ _ ?_;clear hK fz cz;have HL5:=hid (HL4.out.put HAN.out HQL.out (s1,s2));have HB5:=hid (HB4.out.setCell (p:=⟨bq2 a,q,none⟩) (HL4.out.bB HAN.out) (.complex .f64 s1 s2));have HN5:=hid (HNq.out.put (R':=elP R k a (q+1)) (z:=(s1,s2)) HAN.out HQL.out (HL4.out.len a HAN.out) (fun x y _ _=> by rw [←elP_col HKA.out HKQ.out,HSQ.out]));clear HL4 HB4 HNq;unfold mkC at HL5;dsimp only at HL5;generalize wx.setCell ⟨bq2 a,q,none⟩ (.complex .f64 s1 s2)=w5 at *;refine wpAny_done (by kernel_rfl) ?_ _;obtain ⟨Mq,hMq⟩:∃Mq,upd Mi a ((Mi a).set q (s1,s2))=Mq:=⟨_,rfl⟩;have cz5:w5.cell? ⟨bq2 a,q,none⟩=some (.complex .f64 s1 s2):=by
                    have h1:=(HL5.out.nc HAN.out HQL.out).1;rw [zAr,List.getD_eq_getElem?_getD,List.getElem?_set_self (by have:=HL5.out.len a HAN.out;rw [zAr,List.length_set] at this;rw [this];exact HQL.out)] at h1;exact h1
                   rw [hMq] at HL5 HN5;clear hMq;have c1:=(zAa HL5.out.box).1 1 _ rfl;have l2b:=(HL5.out.rc HAN.out HGR.out).1;go_upto_region 32 with fail;cases fl
                   rotate_left
                   · go_wp2_with fail;go_roundw
                     case rel=> exact ⟨q+1,Mq,by omega,HQL.out,by rw [zGi HKQ.out,ovr_stay HFL.out],by go_num,HL5.out,HN5.out,HB5.out⟩
                     case measure=> simp [intOf];omega
                   · go_wp2_with (go_at_call 35;refine (zBp s1 s2 _).mono ?_;rintro e w7 ⟨v,nn4,rfl,he,rfl⟩;have hb7:Below w5.heap.size w5 w7:=(by rw [he];exact zAg (Below.refl _ _) nn4);have HL6:=hid (HL5.out.later hb7);have HB6:=hid (HB5.out.trans (hb7.mono HL5.out.lt));clear HL5 HB5 he hb7);go_roundw
                     case rel=> exact ⟨q+1,Mq,by omega,HQL.out,by rw [zGi HKQ.out,ovr_next HFL.out,←HSQ.out];rfl,by go_num,HL6.out,HN5.out,HB6.out⟩
                     case measure=> simp [intOf];omega
               · obtain rfl:q=n:=by omega
                 have cz:=(HLq.out.nc HAN.out hk).1;have fz:=(HLq.out.nc HAN.out hk).2;have c1:=(zAa HLq.out.box).1 1 _ rfl;have l2b:=(HLq.out.rc HAN.out HGR.out).1;have hat:∀w',(Instr.indexAt 70 (.slice (some ⟨bq2 a,0,none⟩) q (bc2 a)) (.int .i64 k)).run Tryz.prog w'=.ok (.pointer (some ⟨bq2 a,k,none⟩)) w':=fun w'=> zBq HKN.out w'
                 go_wp2_with fail;have h9:=HLq.out.put HAN.out hk (r1,r2);have h9b:=HBq.out.setCell (p:=⟨bq2 a,k,none⟩) (HLq.out.bB HAN.out) (.complex .f64 r1 r2);go_roundw
                 case rel=> exact ⟨a+1,_,by omega,HAN.out,by rw [fineUp_succ HKA.out,←HFL.out];rfl,by go_num,h9,HNq.out.put HAN.out hk (HLq.out.len a HAN.out) (fun x y _ hy=> by rw [HFQ.out,elP_row HKA.out hy]),h9b⟩
                 case measure=> simp [intOf];omega
         · obtain rfl:a=n:=by omega
           have hnum:=HNr.out;rw [elP_done (Nat.le_refl _)] at hnum;have HNM:=hid hnum;clear hnum;cases hfu:zDt R k a a
           · go_wp2_with fail
             (try simp only [Exit.inBlock,Exit.then])
             (try rw [Exit.noGoto_ret])
             go_ret;rw [HSE.out];refine ⟨by rw [HR.out,hfu];rfl,HBr.out,fun h=> ?_⟩;rw [HR.out,hfu] at h;cases h
           · go_wp2_with fail
             (try simp only [Exit.inBlock,Exit.then])
             (try rw [Exit.noGoto_ret])
             go_ret;rw [HSE.out];refine ⟨by rw [HR.out,hfu];rfl,HBr.out,fun _=> ⟨_,Ma,ord2,odd2,t2,HLr.out,fun i j hi hj=> ?_,HOS.out.1,HOS.out.2.1,HOS.out.2.2⟩⟩;rw [HR.out];exact HNM.out i j hi hj
end Go.Proofs.YtejooaeppcjhjaaGreat
