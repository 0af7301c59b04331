/- a part of the proof of the last text -/
import Derived.Test.YtejooaeppcjhjaaGreatZRSrc
namespace Go.Proofs.YtejooaeppcjhjaaGreat
set_option linter.all false
set_option maxHeartbeats 4000000
set_option maxRecDepth 100000
open Go.RowKit
def noRef:Value→Bool
 | .pointer none=> true
 | _=> false
theorem rturned_any (a b:Nat) (k:Int) (w:World):
 Calls Tryz.prog 33 #[.complex .f64 a b,.int .i64 k] w (RetB (IsC (cmul (fc a,fc b) (fc (root k).1,fc (root k).2))) w):=by
 go_enter Tryz.func33,Tryz.ntmps33;go_wp2_with (first | (go_at_call 85;refine (rroot_any _ _).mono ?_;rintro e w' ⟨rfl,hb⟩;have HB:=hid hb;clear hb) | (go_at_call 84;refine (rmul_any _ _ _ _ _).mono ?_;rintro e w' ⟨v,n,rfl,rfl,r,i,rfl,hz⟩));go_ret;exact ⟨_,rfl,zAg HB.out _,_,_,rfl,hz⟩
theorem rentry_any (m n i j:Nat) (v:Value) (xs:List Cx) (z:Cx) (w:World) (hv:IsSl w 1 v xs.length (xs.map mkC)) (hn:n≤64) (hi:i≤64) (hj:j≤64) (hx:xs[i * n+j]? =some z):
 Calls Tryz.prog 105 #[.agg #[.int .i64 m,.int .i64 n,v],.int .i64 i,.int .i64 j] w (fun e w'=> e=.returned (mkC z)∧Below w.heap.size w w'):=by
 obtain ⟨a,cap,rfl⟩:=hv.form;obtain ⟨i0,hii,hz0,hz1,hz2⟩:=info_parts zEm;have hb1:=(Below.refl w.heap.size w).alloc (Nat.le_refl _) (.cells #[.int .i64 m,.int .i64 n,.slice a xs.length cap] 99);have HB:=hid hb1;have hbk:=zAb (heap_alloc_new w (.cells #[.int .i64 m,.int .i64 n,.slice a xs.length cap] 99));have c0:=hbk.1 0 _ rfl;have c1:=hbk.1 1 _ rfl;have c2:=hbk.1 2 _ rfl;have hlt:i * n+j < xs.length:=(List.getElem?_eq_some_iff.1 hx).1;have hin:i * n≤64 * 64:=Nat.mul_le_mul hi hn;have hw1:=in_wrap hn hi;obtain ⟨q,hq⟩:∃q,i * n=q:=⟨_,rfl⟩;rw [hq] at hw1 hlt hx hin;have hw2:IntKind.i64.wrap ((q:Int)+(j:Int))=((q+j:Nat):Int):=by rw [IntWalk.i64_in _ ⟨by omega,by omega⟩];simp
 obtain ⟨r,hr⟩:∃r,q+j=r:=⟨_,rfl⟩;rw [hr] at hw2 hlt hx;obtain ⟨g,o,x0,hidx,hg,hc,hx0⟩:=IsSl.at1 Tryz.underlying70 hii hz1 (hv.below hb1 (Nat.le_refl _)) hlt;obtain ⟨x,hx1,rfl⟩:=map_getElem? hx0;obtain rfl:x=z:=Option.some.inj (hx1.symm.trans hx);unfold mkC at hc;clear hbk hb1 hin hq hr hx hx0 hx1 hv hi hj hn;go_enter Tryz.func105,Tryz.ntmps105;go_upto_region 1 with fail;generalize w.alloc (.cells #[.int .i64 m,.int .i64 n,.slice a xs.length cap] 99)=w1 at *;go_wp2;go_ret;exact ⟨rfl,HB.out⟩
theorem rfin11_any (v:Value) (bs:List Cx) (w:World) (hv:IsSl w 1 v bs.length (bs.map mkC)) (hl:bs.length≤100000):
 Calls Tryz.prog 133 #[v] w fun e w'=> e=.returned (.bool ((bs.map ck).all cfin))∧Below w.heap.size w w':=by
 obtain ⟨a,cap,rfl⟩:=hv.form;obtain ⟨i0,hi,hz0,hz1,hz2⟩:=info_parts zEm;have HV:=hid hv;have HL:=hid hl;clear hv hl;go_enter Tryz.func133,Tryz.ntmps133;go_wp2
 go_loopw [3] (fun i wr=> ∃k:Nat,k≤bs.length∧i=.int .i64 k∧((bs.take k).map ck).all cfin=true∧Below w.heap.size w wr) (fun i _=> bs.length - (intOf i).toNat)
 case atStart=> exact ⟨0,Nat.zero_le _,rfl,rfl,Below.refl _ _⟩
 case round=>
  obtain ⟨k,hk,rfl,hall,hb⟩:=hrel;obtain ⟨wo,rfl⟩:∃wo:World,wo=wr:=⟨_,rfl⟩;have HB:=hid hb;have HAL:=hid hall;have hbnd:=HL.out;clear hb hall
  by_cases hlt:k < bs.length
  · obtain ⟨g,o,x0,hidx,hg,hc,hx0⟩:=IsSl.at1 Tryz.underlying70 hi hz1 (HV.out.below HB.out (Nat.le_refl _)) hlt;obtain ⟨x,hx,rfl⟩:=map_getElem? hx0;have HX:=hid hx;unfold mkC at hc;clear hx hx0;cases hf:cfin (fc x.1,fc x.2)
    · have HF:=hid hf;clear hf;go_wp2_with (go_at_call 35;refine (zBp _ _ _).mono ?_;rintro e w2 ⟨v2,n2,rfl,rfl,rfl⟩;rw [HF.out])
      (try simp only [Exit.inBlock,Exit.then])
      (try rw [Exit.noGoto_ret])
      go_ret;refine ⟨?_,zAg HB.out _⟩;cases hq:(bs.map ck).all cfin
      · rfl
      · rw [List.all_eq_true] at hq;have h2:=hq (ck x) (List.mem_map.2 ⟨x,List.mem_of_getElem? HX.out,rfl⟩);rw [show cfin (ck x)=false from HF.out] at h2;cases h2
    · have HF:=hid hf;clear hf;go_wp2_with (go_at_call 35;refine (zBp _ _ _).mono ?_;rintro e w2 ⟨v2,n2,rfl,rfl,rfl⟩;rw [HF.out]);go_roundw
      case rel=>
       refine ⟨k+1,by omega,by go_num,?_,zAg HB.out _⟩;rw [zFj ck bs k x HX.out,List.all_append,HAL.out];simp only [List.all_cons,List.all_nil,Bool.and_true,Bool.true_and];exact HF.out
      case measure=> simp [intOf];omega
  · obtain rfl:k=bs.length:=by omega
    go_wp2_with fail;go_ret
    have:=HAL.out;rw [List.take_length] at this;exact ⟨by rw [this];rfl,HB.out⟩
theorem rnone20_any (p:Value) (l:List El) (w:World) (hp:RN w p l):
 Calls Tryz.prog 161 #[p] w fun e w'=> e=.returned (.bool (noRef p))∧w=w':=by
 rcases hp with ⟨rfl,rfl⟩ | ⟨g,v,rfl,h0,h1,hs⟩
 · go_enter Tryz.func161,Tryz.ntmps161;go_wp2;go_ret;exact ⟨rfl,rfl⟩
 · go_enter Tryz.func161,Tryz.ntmps161;go_wp2;go_ret;exact ⟨rfl,rfl⟩
theorem rbegin_any (p:Value) (l:List El) (om:Nat) (w:World) (hp:RN w p l):
 Calls Tryz.prog 130 #[p,.float .f64 om] w (RetF (zEj (askS (noRef p) om)) w):=by
 have hb1:=(Below.refl w.heap.size w).alloc (Nat.le_refl _) (.cells #[.int .i64 0,.int .i64 0] 32);have HBO:=hid hb1;have HU:=hid (heap_alloc_new w (.cells #[.int .i64 0,.int .i64 0] 32));have HP:=hid (hp.below hb1 (Nat.le_refl _));clear hp hb1;cases hq:noRef p
 rotate_left
 · have HQ:=hid hq;have HW:=hid (show zEj (askS true om)=(1,-1) by unfold askS zEj;simp);clear hq;go_enter Tryz.func130,Tryz.ntmps130;go_upto_region 1 with fail;generalize w.alloc (.cells #[.int .i64 0,.int .i64 0] 32)=w1 at *;obtain ⟨gt,hgt⟩:∃gt,w.heap.size=gt:=⟨_,rfl⟩;rw [hgt] at HU⊢;have HGT:=hid hgt;clear hgt;have hbk:=zAb HU.out;have f0:=hbk.2 0;have f1:=hbk.2 1;have c0:=hbk.1 0 _ rfl;have c1:=hbk.1 1 _ rfl;clear hbk;have HBR:=HBO;go_wp2_with (go_at_call 161;refine (rnone20_any p l _ HP.out).mono ?_;rintro e w2 ⟨rfl,rfl⟩;rw [HQ.out])
   (try simp only [Exit.inBlock,Exit.then])
   (try rw [Exit.noGoto_ret])
   refine bodyPost_ret (v:=.agg #[.int .i64 1,.int .i64 (-1)]) ?_ rfl ⟨by rw [HW.out],(HBR.out.setCell (p:=⟨gt,0,none⟩) (Nat.le_of_eq HGT.out) _).setCell (p:=⟨gt,1,none⟩) (Nat.le_of_eq HGT.out) _⟩
   first | (rw [results_cell rfl];go_simp;done) | (unfold results;go_simp;done)
 have HQ:=hid hq;clear hq;obtain ⟨a,ha⟩:∃a,askS false om=a:=⟨_,rfl⟩;have HA:=hid (show angE om=a by rw [←ha];unfold askS;rw [if_neg (by simp)]);rw [ha];clear ha;go_enter Tryz.func130,Tryz.ntmps130;go_upto_region 1 with fail;generalize w.alloc (.cells #[.int .i64 0,.int .i64 0] 32)=w1 at *;obtain ⟨gt,hgt⟩:∃gt,w.heap.size=gt:=⟨_,rfl⟩;rw [hgt] at HU⊢;have HGT:=hid hgt;clear hgt;go_upto_region 4 with (first | (go_at_call 161;refine (rnone20_any p l _ HP.out).mono ?_;rintro e w2 ⟨rfl,rfl⟩;rw [HQ.out]) | (go_at_call 30;refine (zHd _ _).mono ?_;rintro e w2 ⟨v2,n2,rfl,rfl,rfl⟩;rw [HA.out];have HBR:=hid (zAg HBO.out n2);have HUR:=hid (show (w1.drewN n2).heap[gt]? =_ from zAc (zAg (Below.refl w1.heap.size w1) n2) HU.out)));have hbk:=zAb HUR.out;have f0:=hbk.2 0;have f1:=hbk.2 1;have c0:=hbk.1 0 _ rfl;have c1:=hbk.1 1 _ rfl;clear hbk
 by_cases h0:a=0
 · subst h0;have HW:=hid (show zEj 0=(0,0) from rfl);go_wp2
   (try simp only [Exit.inBlock,Exit.then])
   (try rw [Exit.noGoto_ret])
   refine bodyPost_ret (v:=.agg #[.int .i64 0,.int .i64 0]) ?_ rfl ⟨by rw [HW.out],(HBR.out.setCell (p:=⟨gt,0,none⟩) (Nat.le_of_eq HGT.out) _).setCell (p:=⟨gt,1,none⟩) (Nat.le_of_eq HGT.out) _⟩
   first | (rw [results_cell rfl];go_simp;done) | (unfold results;go_simp;done)
 · have hb0:(a==0)=false:=by simpa using h0
   have hb1:(a !=0)=true:=by simpa using h0
   have HW:=hid (show zEj a=(a,-1) from if_neg h0);go_wp2
   (try simp only [Exit.inBlock,Exit.then])
   (try rw [Exit.noGoto_ret])
   refine bodyPost_ret (v:=.agg #[.int .i64 a,.int .i64 (-1)]) ?_ rfl ⟨by rw [HW.out],(HBR.out.setCell (p:=⟨gt,0,none⟩) (Nat.le_of_eq HGT.out) _).setCell (p:=⟨gt,1,none⟩) (Nat.le_of_eq HGT.out) _⟩
   first | (rw [results_cell rfl];go_simp;done) | (unfold results;go_simp;done)
end Go.Proofs.YtejooaeppcjhjaaGreat
