/- a part of the proof of the last text -/
import Derived.Test.YtejooaeppcjhjaaGreatZRPh1
namespace Go.Proofs.YtejooaeppcjhjaaGreat
set_option linter.all false
set_option maxHeartbeats 4000000
set_option maxRecDepth 100000
section
open Go.RowKit
def RetOkB (z:Cx) (g:Nat) (ok:Bool) (w:World) (en:Ending) (w':World):Prop:=
 ∃r i w3,en=.returned (.complex .f64 r i)∧(fc r,fc i)=z∧Below w.heap.size w w3∧w'=w3.setCell ⟨g,0,none⟩ (.bool (ok && cfin z))
theorem rover_any (g tg:Nat) (ok:Bool) (a b c d:Nat) (w:World) (h:w.heap[g]? =some (.cells #[.bool ok] tg (0,0))):
 Calls Tryz.prog 106 #[.complex .f64 a b,.complex .f64 c d,.pointer (some ⟨g,0,none⟩)] w (RetOkB (cdiv (fc a,fc b) (fc c,fc d)) g ok w):=by
 have H:=hid h;clear h;go_enter Tryz.func106,Tryz.ntmps106;go_upto_region 2 with (go_at_call 55;refine ((rdiv_any _ _ _ _ _).mono fun _ _=> ret_b).mono ?_;rintro e w1 ⟨v,rfl,hb1,r,i,rfl,hz⟩;have HB1:=hid hb1;have HZ:=hid hz;clear hb1 hz);have H1:=hid (zBn HB1.out H.out);have c1:=(zCm H1.out).1;have f1:=(zCm H1.out).2;have hsz:=(Array.getElem?_eq_some_iff.1 H1.out).1;cases ok
 · go_wp2_with fail;go_ret
   exact ⟨r,i,w1,rfl,HZ.out,HB1.out,rfl⟩
 · go_wp2_with (go_at_call 35;refine ((zBp _ _ _).mono fun _ _=> ret_b).mono ?_;rintro e w2 ⟨v2,rfl,hb2,rfl⟩;have HB2:=hid hb2;have c2:=(zCm (zBn hb2 H1.out)).1;have f2:=(zCm (zBn hb2 H1.out)).2;clear hb2);go_ret
   exact ⟨r,i,w2,rfl,HZ.out,zBb HB1.out HB2.out,by rw [HZ.out];rfl⟩
theorem rless_any (g tg:Nat) (ok:Bool) (a b c d e f:Nat) (w:World) (h:w.heap[g]? =some (.cells #[.bool ok] tg (0,0))):
 Calls Tryz.prog 104 #[.complex .f64 a b,.complex .f64 c d,.complex .f64 e f,.pointer (some ⟨g,0,none⟩)] w (RetOkB (csub (fc a,fc b) (cmul (fc c,fc d) (fc e,fc f))) g ok w):=by
 have H:=hid h;clear h;go_enter Tryz.func104,Tryz.ntmps104;go_upto_region 2 with (first | (go_at_call 84;refine ((rmul_any _ _ _ _ _).mono fun _ _=> ret_b).mono ?_;rintro e w0 ⟨v,rfl,hb0,p,q,rfl,hy⟩;have HB0:=hid hb0;have HY:=hid hy;clear hb0 hy) | (go_at_call 50;refine ((rsub_any _ _ _ _ _).mono fun _ _=> ret_b).mono ?_;rintro e w1 ⟨v,rfl,hb1,r,i,rfl,hz⟩;have HB1:=hid (zBb HB0.out hb1);have HZ:=hid (show (fc r,fc i)=csub (fc a,fc b) (cmul (fc c,fc d) (fc e,fc f)) by rw [hz,HY.out]);clear hb1 hz));have H1:=hid (zBn HB1.out H.out);have c1:=(zCm H1.out).1;have f1:=(zCm H1.out).2;have hsz:=(Array.getElem?_eq_some_iff.1 H1.out).1;cases ok
 · go_wp2_with fail;go_ret
   exact ⟨r,i,w1,rfl,HZ.out,HB1.out,rfl⟩
 · go_wp2_with (go_at_call 35;refine ((zBp _ _ _).mono fun _ _=> ret_b).mono ?_;rintro e w2 ⟨v2,rfl,hb2,rfl⟩;have HB2:=hid hb2;have c2:=(zCm (zBn hb2 H1.out)).1;have f2:=(zCm (zBn hb2 H1.out)).2;clear hb2);go_ret
   exact ⟨r,i,w2,rfl,HZ.out,zBb HB1.out HB2.out,by rw [HZ.out];rfl⟩
theorem rlnone_any {B g n m mo:Nat} {w:World} {vR vO:Value} {V:Nat→Value} {M:Nat→List Cx} {ord:List Int} {odd ties:Bool} (h:RLw B w g vR vO n m mo V M ord odd ties):
 Calls Tryz.prog 148 #[.pointer (some ⟨g,0,none⟩)] w fun e w'=> e=.returned (.bool false)∧w=w':=by
 have c5:=(zAb h.box).1 5 _ rfl;clear h;go_enter Tryz.func148,Tryz.ntmps148;go_wp2;go_ret;exact ⟨rfl,rfl⟩
theorem zEe {B g n m mo:Nat} {w:World} {vR vO:Value} {V:Nat→Value} {M:Nat→List Cx} {ord:List Int} {odd ties:Bool} (h:RLw B w g vR vO n m mo V M ord odd ties):
 Calls Tryz.prog 103 #[.pointer (some ⟨g,0,none⟩)] w fun e w'=> e=.returned (.int .i64 n)∧w=w':=by
 have H:=hid h;have c0:=(zAb h.box).1 0 _ rfl;clear h;go_enter Tryz.func103,Tryz.ntmps103;go_wp2_with (go_at_call 148;refine (rlnone_any H.out).mono ?_;rintro e w2 ⟨rfl,rfl⟩)
 (try rw [Exit.noGoto_ret])
 go_ret;exact ⟨rfl,rfl⟩
end
section
open Go.RowKit
theorem rlorder_any {B g n m:Nat} {w:World} {vR vO:Value} {V:Nat→Value} {M:Nat→List Cx} {ord:List Int} {odd ties:Bool} (h:RLw B w g vR vO n m n V M ord odd ties) (hn:n≤64) (ho:ord.length=n):
 Calls Tryz.prog 102 #[.pointer (some ⟨g,0,none⟩)] w (RetRow 3 1 n (fun xs=> xs=ord.map (Value.int .i64)) w):=by
 obtain ⟨i0,hi,hz0,hz1,hz2⟩:=info_parts zHf;have H:=hid h;have c2:=(zAb h.box).1 2 _ rfl;have HS:=hid (IsSl.of_own h.oO);obtain ⟨a,c,rfl⟩:=(IsSl.of_own h.oO).form;clear h;go_enter Tryz.func102,Tryz.ntmps102;go_wp2_with (first | (go_at_call 148;refine (rlnone_any H.out).mono ?_;rintro e w1 ⟨rfl,rfl⟩) | (refine zCg rfl _ _ _ rfl w.heap.size 3 1 8 i0 (.int .i64 0) Tryz.underlying153 hi hz0 hz1 hz2 rfl (by decide) _ 0 [] (World.ownsRow_nil _ _ _ _) (Nat.le_refl _) _ _ _ HS.out rfl rfl (by intro u hu;obtain ⟨z,_,rfl⟩:=List.mem_map.1 hu;rfl) (by simp [maxLen];omega) (by omega) ?_;intro v1 w1 hown1 hgr1 hat1));go_ret;refine ⟨_,_,rfl,?_,rfl,(Below.refl _ _).grown hgr1 (Nat.le_refl _) (by intro k e;cases e)⟩
 simpa using hown1
def firstE (b:List Cx):Int:=if b.all cfin=true then 0 else 5
theorem rfirst_any {B g n m mo:Nat} {w:World} {vR vO v:Value} {V:Nat→Value} {M:Nat→List Cx} {ord:List Int} {odd ties:Bool} (bs:List Cx) (h:RLw B w g vR vO n m mo V M ord odd ties) (hv:IsSl w 1 v bs.length (bs.map mkC)) (hl:bs.length=n) (hn:n≤64):
 Calls Tryz.prog 99 #[.pointer (some ⟨g,0,none⟩),v] w fun e w'=> e=.returned (.int .i64 (firstE (bs.map ck)))∧Below w.heap.size w w':=by
 obtain ⟨a,cap,rfl⟩:=hv.form;obtain ⟨i0,hi,hz0,hz1,hz2⟩:=info_parts zEm;subst hl;have H:=hid h;have c5:=(zAb h.box).1 5 _ rfl;have HV:=hid hv;have HL:=hid hn;clear h hv hn;go_enter Tryz.func99,Tryz.ntmps99;go_wp2_with (go_at_call 103;refine (zEe H.out).mono ?_;rintro e w1 ⟨rfl,rfl⟩)
 go_loopw [5] (fun i wr=> ∃k:Nat,k≤bs.length∧i=.int .i64 k∧((bs.take k).map ck).all cfin=true∧Below w.heap.size w wr) (fun i _=> bs.length - (intOf i).toNat)
 case atStart=> exact ⟨0,Nat.zero_le _,rfl,rfl,Below.refl _ _⟩
 case round=>
  obtain ⟨k,hk,rfl,hall,hb⟩:=hrel;obtain ⟨wo,rfl⟩:∃wo:World,wo=wr:=⟨_,rfl⟩;have HB:=hid hb;have HAL:=hid hall;have hbnd:=HL.out;clear hb hall
  by_cases hlt:k < bs.length
  · obtain ⟨g,o,x0,hidx,hg,hc,hx0⟩:=IsSl.at1 Tryz.underlying70 hi hz1 (HV.out.below HB.out (Nat.le_refl _)) hlt;obtain ⟨x,hx,rfl⟩:=map_getElem? hx0;have HX:=hid hx;unfold mkC at hc;clear hx hx0;cases hf:cfin (fc x.1,fc x.2)
    · have HF:=hid hf;clear hf;go_wp2_with (go_at_call 35;refine (zBp _ _ _).mono ?_;rintro e w2 ⟨v2,n2,rfl,rfl,rfl⟩;rw [HF.out])
      (try simp only [Exit.inBlock,Exit.then])
      (try rw [Exit.noGoto_ret])
      go_ret;refine ⟨?_,zAg HB.out _⟩;rw [show firstE (bs.map ck)=5 from ?_]
      · rfl
      · refine if_neg (fun hq=> ?_);rw [List.all_eq_true] at hq;have h2:=hq (ck x) (List.mem_map.2 ⟨x,List.mem_of_getElem? HX.out,rfl⟩);rw [show cfin (ck x)=false from HF.out] at h2;cases h2
    · have HF:=hid hf;clear hf;go_wp2_with (go_at_call 35;refine (zBp _ _ _).mono ?_;rintro e w2 ⟨v2,n2,rfl,rfl,rfl⟩;rw [HF.out]);go_roundw
      case rel=>
       refine ⟨k+1,by omega,by go_num,?_,zAg HB.out _⟩;rw [zFj ck bs k x HX.out,List.all_append,HAL.out];simp only [List.all_cons,List.all_nil,Bool.and_true,Bool.true_and];exact HF.out
      case measure=> simp [intOf];omega
  · obtain rfl:k=bs.length:=by omega
    go_wp2_with fail;go_ret
    have:=HAL.out;rw [List.take_length] at this;exact ⟨by rw [show firstE (bs.map ck)=0 from if_pos this];rfl,HB.out⟩
end
section
open Go.RowKit
theorem mat_push {w wr w3:World} {g n g1 cap1:Nat} {a:Option Addr} {c:Nat} {xs:List Cx} {z:Cx} (hb:Below w.heap.size w wr) (hg:w.heap.size≤g) (hbox:wr.heap[g]? =some (.cells #[.int .i64 n,.int .i64 n,.slice a xs.length c] 99 (0,0)))
 (hown:wr.ownsRow w.heap.size 49 1 (.slice a xs.length c) xs.length (xs.map mkC)) (own:w3.ownsRow w.heap.size 49 1 (.slice (some ⟨g1,0,none⟩) (xs.length+1) cap1) (xs.length+1) (xs.map mkC++ [mkC z]))
 (two:((Value.slice a xs.length c).ownBlock=some g1∧wr.grownBy w3 (some g1))∨(wr.heap.size≤g1∧wr.grownBy w3 none)):
 w3.heap[g]? =some (.cells #[.int .i64 n,.int .i64 n,.slice a xs.length c] 99 (0,0))∧MatIn w (w3.setCell ⟨g,2,none⟩ (.slice (some ⟨g1,0,none⟩) (xs.length+1) cap1)) g n (xs++ [z]):=by
 have k1:w3.heap[g]? =some (.cells #[.int .i64 n,.int .i64 n,.slice a xs.length c] 99 (0,0)):=by
  rcases two with ⟨e,hg⟩ | ⟨_,hg⟩
  · obtain ⟨_,c2,hc2⟩:=zAx hown e;exact zAk hg (zAv hbox hc2 (by decide)) hbox
  · exact zDo hg (by simp) hbox
 have hb3:Below w.heap.size w w3:=by
  rcases two with ⟨e,hg⟩ | ⟨_,hg⟩
  · exact hb.grown hg hb.size (by intro k e2;cases e2;exact (hown.lt _ e).1)
  · exact hb.grown hg hb.size (by intro k e2;cases e2)
 have hne:(Value.slice (some ⟨g1,0,none⟩) (xs.length+1) cap1).ownBlock≠some g:=fun e=> by
  obtain ⟨_,c2,hc2⟩:=zAx own e;exact zAv k1 hc2 (by decide) rfl
 refine ⟨k1,some ⟨g1,0,none⟩,cap1,?_,?_,?_,hb3.setCell (p:=⟨g,2,none⟩) hg _⟩
 · have h:=zBi (o:=2) k1 (.slice (some ⟨g1,0,none⟩) (xs.length+1) cap1);rw [List.length_append];exact h
 · have h:=zAz own (zAj w3 g 2 (.slice (some ⟨g1,0,none⟩) (xs.length+1) cap1)) (fun k e1 e2=> by obtain rfl:=Option.some.inj e2;exact hne e1);rw [List.length_append,List.map_append];exact h
 · rw [List.length_append];exact hne
theorem rL_any {B g n:Nat} {w:World} {vR vO:Value} {V:Nat→Value} {M:Nat→List Cx} {ord:List Int} {odd ties:Bool} (h:RLw B w g vR vO n n n V M ord odd ties) (hn:n≤64):
 Calls Tryz.prog 100 #[.pointer (some ⟨g,0,none⟩)] w fun e w'=> ∃v,e=.returned (.agg #[.int .i64 n,.int .i64 n,v])∧w'.ownsRow w.heap.size 49 1 v (n * n) ((matL (lowL M) n n 0).map mkC)∧Below w.heap.size w w':=by
 obtain ⟨i0,hi,hz0,hz1,hz2⟩:=info_parts zEm;obtain ⟨ir,hir,hr0,hr1,hr2⟩:=info_parts infoCs;have hnn:n * n≤4096:=Nat.mul_le_mul hn hn;obtain ⟨aR,cR,rfl⟩:=(IsSl.of_own h.oR).form;have hb0:=(Below.refl w.heap.size w).alloc (Nat.le_refl _) (.cells #[.int .i64 0,.int .i64 0,.slice none 0 0] 99);have HB0:=hid hb0;have HZ0:=hid (heap_alloc_new w (.cells #[.int .i64 0,.int .i64 0,.slice none 0 0] 99));have HH:=hid (h.later hb0);have HN:=hid hn;clear h hb0;go_enter Tryz.func100,Tryz.ntmps100;go_upto_region 1 with fail;generalize w.alloc (.cells #[.int .i64 0,.int .i64 0,.slice none 0 0] 99)=w1 at *;obtain ⟨gt,hgt⟩:∃gt,w.heap.size=gt:=⟨_,rfl⟩;rw [hgt] at HZ0⊢;have HGT:=hid hgt;clear hgt;go_upto_region 2 with (go_at_call 103;refine (zEe HH.out).mono ?_;rintro e w2 ⟨rfl,rfl⟩);have HMI:=hid (show MatIn w1 (w1.alloc (.cells #[.int .i64 n,.int .i64 n,.slice none 0 0] 99)) w1.heap.size n [] from
  ⟨none,0,heap_alloc_new _ _,World.ownsRow_nil _ _ _ _,by simp [Value.ownBlock],(Below.refl _ _).alloc (Nat.le_refl _) _⟩)
 generalize w1.alloc (.cells #[.int .i64 n,.int .i64 n,.slice none 0 0] 99)=w2 at *;obtain ⟨gm,hgm⟩:∃gm,w1.heap.size=gm:=⟨_,rfl⟩;rw [hgm] at HMI⊢;have HGG:=hid (show w1.heap.size≤gm from Nat.le_of_eq hgm);clear hgm;go_wp2
 go_loopw [4] (fun i wr=> ∃i':Nat,i'≤n∧i=.int .i64 i'∧MatIn w1 wr gm n (matL (lowL M) n i' 0)) (fun i _=> n - (intOf i).toNat)
 case atStart=> exact ⟨0,Nat.zero_le _,rfl,HMI.out⟩
 case round=>
  obtain ⟨i,hile,rfl,hm⟩:=hrel;obtain ⟨wo,rfl⟩:∃wo:World,wo=wr:=⟨_,rfl⟩;have hbnd:=HN.out;have HMO:=hid hm;have HWO:=hid (show Below w1.heap.size w1 wo from by obtain ⟨_,_,_,_,_,h⟩:=hm;exact h);have HHO:=hid (HH.out.later HWO.out);clear hm
  by_cases hin:i < n
  · go_wp2_with (go_at_call 103;refine (zEe HHO.out).mono ?_;rintro e w3 ⟨rfl,rfl⟩)
    go_loopw [5] (fun j wj=> ∃j':Nat,j'≤n∧j=.int .i64 j'∧MatIn w1 wj gm n (matL (lowL M) n i j')) (fun j _=> n - (intOf j).toNat)
    case atStart=> exact ⟨0,Nat.zero_le _,rfl,HMO.out⟩
    case round=>
     obtain ⟨j,hjle,rfl,hm⟩:=hrel;obtain ⟨wj,rfl⟩:∃wj:World,wj=wr:=⟨_,rfl⟩;have HMJ:=hid hm;obtain ⟨a,c,hbox,hown,hne,hb⟩:=hm;have HBW:=hid hb;have HHJ:=hid (HH.out.later hb);have l0:=(zAb HHJ.out.box).1 0 _ rfl
     by_cases hjn:j < n
     · have hlen:(matL (lowL M) n i j).length≤4096:=by
        have h1:(i+1) * n≤64 * 64:=Nat.mul_le_mul (by omega) hbnd;have h2:(matL (lowL M) n i j).length=i * n+j:=by unfold matL;rw [List.length_append,fl_len (s:=n) (fun x=> by simp)];simp
        rw [Nat.add_mul] at h1
        omega
       obtain ⟨xs,hxs⟩:∃xs,matL (lowL M) n i j=xs:=⟨_,rfl⟩;have HXS:=hid hxs;rw [hxs] at hbox hown hne hlen;have HBX:=hid hbox;have HOW:=hid hown;have HSZ:=hid (show w1.heap.size≤wj.heap.size from hb.size);have l1:=(zAb HHJ.out.box).1 1 _ rfl;have b0:=(zAb hbox).1 0 _ rfl;have b1:=(zAb hbox).1 1 _ rfl;have b2:=(zAb hbox).1 2 _ rfl;obtain ⟨q,cq,hVi,hnum⟩:=HHJ.out.num hin hjn;obtain ⟨g2,o2,x2,hidx,hg2,hc2,hx2⟩:=IsSl.at1 Tryz.underlying152 hir hr1 (IsSl.of_own HHJ.out.oR) hin;obtain rfl:x2=.slice (some ⟨q,0,none⟩) n cq:=by
        rw [List.getElem?_map,List.getElem?_range hin] at hx2;exact (Option.some.inj hx2).symm.trans hVi
       have hrow:=IsSl.of_own (HHJ.out.row i hin);rw [hVi] at hrow;obtain ⟨g3,o3,x3,hidx3,hg3,hc3,hx3⟩:=IsSl.at1 Tryz.underlying70 hi hz1 hrow hjn;obtain ⟨x,hx,rfl⟩:=map_getElem? hx3;have HX:=hid (show (M i).getD j (0,0)=x by rw [List.getD_eq_getElem?_getD,hx];rfl);have HLE:=hid hlen;unfold mkC at hc3;clear hx hx3 hx2 hrow hVi hnum hne hown hbox hxs hb;rcases (show j < i∨j=i∨i < j by omega) with h1 | h1 | h1
       · have e1:(j:Int) < (i:Int):=by omega
         have e2:¬((j:Int)=(i:Int)):=by omega
         obtain ⟨z,hz⟩:∃z:Cx,x=z:=⟨_,rfl⟩;have HZZ:=hid (show lowL M i j=z by unfold lowL;rw [if_neg (by omega),if_pos h1];rw [HX.out,hz]);obtain ⟨za,zb⟩:=z;subst hz;have hlen:=HLE.out;go_wp2_with (refine zBj rfl rfl _ rfl _ _ _ rfl rfl w1.heap.size 49 1 16 i0 (.complex .f64 0 0) Tryz.underlying70 hi hz0 hz1 hz2 rfl (by decide) (by decide) _ xs.length _ HOW.out HSZ.out (mkC (za,zb)) rfl rfl (by intro u hu;simp [Value.cells,mkC] at hu;subst hu;rfl) rfl rfl (by simp [maxLen];omega) (by omega) ?_;intro g1 cap1 w3 hown1 hg1 htwo;obtain ⟨hk1,hk2⟩:=mat_push HBW.out HGG.out HBX.out HOW.out hown1 htwo;have f2:=(zAa hk1).2 2;have d2:=(zAa hk1).1 2 _ rfl;have HK2:=hid hk2;clear hk1 hk2 hown1 hg1 htwo);go_roundw
         case rel=> exact ⟨j+1,by omega,by go_num,by have h:=HK2.out;rw [zGt,HZZ.out,HXS.out];exact h⟩
         case measure=> simp [intOf];omega
       · have e1:¬((j:Int) < (i:Int)):=by omega
         have e2:(j:Int)=(i:Int):=by omega
         obtain ⟨z,hz⟩:∃z:Cx,one1=z:=⟨_,rfl⟩;have HZZ:=hid (show lowL M i j=z by unfold lowL;rw [if_pos (by omega)];exact hz);obtain ⟨za,zb⟩:=z;obtain ⟨rfl,rfl⟩:=Prod.mk.inj (show ((4607182418800017408:Nat),(0:Nat))=(za,zb) from hz);have hlen:=HLE.out;go_wp2_with (refine zBj rfl rfl _ rfl _ _ _ rfl rfl w1.heap.size 49 1 16 i0 (.complex .f64 0 0) Tryz.underlying70 hi hz0 hz1 hz2 rfl (by decide) (by decide) _ xs.length _ HOW.out HSZ.out (mkC (4607182418800017408,0)) rfl rfl (by intro u hu;simp [Value.cells,mkC] at hu;subst hu;rfl) rfl rfl (by simp [maxLen];omega) (by omega) ?_;intro g1 cap1 w3 hown1 hg1 htwo;obtain ⟨hk1,hk2⟩:=mat_push HBW.out HGG.out HBX.out HOW.out hown1 htwo;have f2:=(zAa hk1).2 2;have d2:=(zAa hk1).1 2 _ rfl;have HK2:=hid hk2;clear hk1 hk2 hown1 hg1 htwo);go_roundw
         case rel=> exact ⟨j+1,by omega,by go_num,by have h:=HK2.out;rw [zGt,HZZ.out,HXS.out];exact h⟩
         case measure=> simp [intOf];omega
       · have e1:¬((j:Int) < (i:Int)):=by omega
         have e2:¬((j:Int)=(i:Int)):=by omega
         obtain ⟨z,hz⟩:∃z:Cx,(0,0)=z:=⟨_,rfl⟩;have HZZ:=hid (show lowL M i j=z by unfold lowL;rw [if_neg (by omega),if_neg (by omega)];exact hz);obtain ⟨za,zb⟩:=z;obtain ⟨rfl,rfl⟩:=Prod.mk.inj hz;have hlen:=HLE.out;go_wp2_with (refine zBj rfl rfl _ rfl _ _ _ rfl rfl w1.heap.size 49 1 16 i0 (.complex .f64 0 0) Tryz.underlying70 hi hz0 hz1 hz2 rfl (by decide) (by decide) _ xs.length _ HOW.out HSZ.out (mkC (0,0)) rfl rfl (by intro u hu;simp [Value.cells,mkC] at hu;subst hu;rfl) rfl rfl (by simp [maxLen];omega) (by omega) ?_;intro g1 cap1 w3 hown1 hg1 htwo;obtain ⟨hk1,hk2⟩:=mat_push HBW.out HGG.out HBX.out HOW.out hown1 htwo;have f2:=(zAa hk1).2 2;have d2:=(zAa hk1).1 2 _ rfl;have HK2:=hid hk2;clear hk1 hk2 hown1 hg1 htwo);go_roundw
         case rel=> exact ⟨j+1,by omega,by go_num,by have h:=HK2.out;rw [zGt,HZZ.out,HXS.out];exact h⟩
         case measure=> simp [intOf];omega
     · obtain rfl:j=n:=by omega
       clear hbox hown hne hb;go_wp2;go_roundw
       case rel=> exact ⟨i+1,by omega,by go_num,by have h:=HMJ.out;rw [←matL_row] at h;exact h⟩
       case measure=> simp [intOf];omega
  · obtain rfl:i=n:=by omega
    obtain ⟨a,c,hbox,hown,hne,hb⟩:=HMO.out;rw [matL_len] at hbox hown hne;have HT:=hid (zAc hb HZ0.out);have HOW:=hid hown;have HGM:=hid (show gt < w1.heap.size from (Array.getElem?_eq_some_iff.1 HZ0.out).1);have HBF:=hid (zAd HB0.out hb);have b0:=(zAb hbox).1 0 _ rfl;have b1:=(zAb hbox).1 1 _ rfl;have b2:=(zAb hbox).1 2 _ rfl;have hbk:=zAb HT.out;have f0:=hbk.2 0;have f1:=hbk.2 1;have f2:=hbk.2 2;have t0:=hbk.1 0 _ rfl;have t1:=hbk.1 1 _ rfl;have t2:=hbk.1 2 _ rfl;clear hbk hbox hown hne hb HMO;go_wp2_with (go_at_call 103;refine (zEe HHO.out).mono ?_;rintro e w3 ⟨rfl,rfl⟩);refine bodyPost_ret (v:=.agg #[.int .i64 i,.int .i64 i,.slice a (i * i) c]) ?_ rfl ⟨_,rfl,?_,?_⟩
    · first | (rw [results_cell rfl];go_simp;done) | (unfold results;go_simp;done)
    · have hs:=zAf (zAf (zAj wo gt 0 (.int .i64 i)) (zAj _ gt 1 (.int .i64 i))) (zAj _ gt 2 (.slice a (i * i) c));exact zBs (B':=w1.heap.size) (zAz HOW.out hs (fun k e1 e2=> by obtain rfl:=Option.some.inj e2;have:=(HOW.out.lt _ e1).1;have:=HGM.out;omega)) HB0.out.size
    · exact ((HBF.out.setCell (p:=⟨gt,0,none⟩) (Nat.le_of_eq HGT.out) _).setCell (p:=⟨gt,1,none⟩) (Nat.le_of_eq HGT.out) _).setCell (p:=⟨gt,2,none⟩) (Nat.le_of_eq HGT.out) _
end
section
open Go.RowKit
theorem rU_any {B g n:Nat} {w:World} {vR vO:Value} {V:Nat→Value} {M:Nat→List Cx} {ord:List Int} {odd ties:Bool} (h:RLw B w g vR vO n n n V M ord odd ties) (hn:n≤64):
 Calls Tryz.prog 101 #[.pointer (some ⟨g,0,none⟩)] w fun e w'=> ∃v,e=.returned (.agg #[.int .i64 n,.int .i64 n,v])∧w'.ownsRow w.heap.size 49 1 v (n * n) ((matL (lowU M) n n 0).map mkC)∧Below w.heap.size w w':=by
 obtain ⟨i0,hi,hz0,hz1,hz2⟩:=info_parts zEm;obtain ⟨ir,hir,hr0,hr1,hr2⟩:=info_parts infoCs;have hnn:n * n≤4096:=Nat.mul_le_mul hn hn;obtain ⟨aR,cR,rfl⟩:=(IsSl.of_own h.oR).form;have hb0:=(Below.refl w.heap.size w).alloc (Nat.le_refl _) (.cells #[.int .i64 0,.int .i64 0,.slice none 0 0] 99);have HB0:=hid hb0;have HZ0:=hid (heap_alloc_new w (.cells #[.int .i64 0,.int .i64 0,.slice none 0 0] 99));have HH:=hid (h.later hb0);have HN:=hid hn;clear h hb0;go_enter Tryz.func101,Tryz.ntmps101;go_upto_region 1 with fail;generalize w.alloc (.cells #[.int .i64 0,.int .i64 0,.slice none 0 0] 99)=w1 at *;obtain ⟨gt,hgt⟩:∃gt,w.heap.size=gt:=⟨_,rfl⟩;rw [hgt] at HZ0⊢;have HGT:=hid hgt;clear hgt;go_upto_region 2 with (go_at_call 103;refine (zEe HH.out).mono ?_;rintro e w2 ⟨rfl,rfl⟩);have HMI:=hid (show MatIn w1 (w1.alloc (.cells #[.int .i64 n,.int .i64 n,.slice none 0 0] 99)) w1.heap.size n [] from
  ⟨none,0,heap_alloc_new _ _,World.ownsRow_nil _ _ _ _,by simp [Value.ownBlock],(Below.refl _ _).alloc (Nat.le_refl _) _⟩)
 generalize w1.alloc (.cells #[.int .i64 n,.int .i64 n,.slice none 0 0] 99)=w2 at *;obtain ⟨gm,hgm⟩:∃gm,w1.heap.size=gm:=⟨_,rfl⟩;rw [hgm] at HMI⊢;have HGG:=hid (show w1.heap.size≤gm from Nat.le_of_eq hgm);clear hgm;go_wp2
 go_loopw [4] (fun i wr=> ∃i':Nat,i'≤n∧i=.int .i64 i'∧MatIn w1 wr gm n (matL (lowU M) n i' 0)) (fun i _=> n - (intOf i).toNat)
 case atStart=> exact ⟨0,Nat.zero_le _,rfl,HMI.out⟩
 case round=>
  obtain ⟨i,hile,rfl,hm⟩:=hrel;obtain ⟨wo,rfl⟩:∃wo:World,wo=wr:=⟨_,rfl⟩;have hbnd:=HN.out;have HMO:=hid hm;have HWO:=hid (show Below w1.heap.size w1 wo from by obtain ⟨_,_,_,_,_,h⟩:=hm;exact h);have HHO:=hid (HH.out.later HWO.out);clear hm
  by_cases hin:i < n
  · go_wp2_with (go_at_call 103;refine (zEe HHO.out).mono ?_;rintro e w3 ⟨rfl,rfl⟩)
    go_loopw [5] (fun j wj=> ∃j':Nat,j'≤n∧j=.int .i64 j'∧MatIn w1 wj gm n (matL (lowU M) n i j')) (fun j _=> n - (intOf j).toNat)
    case atStart=> exact ⟨0,Nat.zero_le _,rfl,HMO.out⟩
    case round=>
     obtain ⟨j,hjle,rfl,hm⟩:=hrel;obtain ⟨wj,rfl⟩:∃wj:World,wj=wr:=⟨_,rfl⟩;have HMJ:=hid hm;obtain ⟨a,c,hbox,hown,hne,hb⟩:=hm;have HBW:=hid hb;have HHJ:=hid (HH.out.later hb);have l0:=(zAb HHJ.out.box).1 0 _ rfl
     by_cases hjn:j < n
     · have hlen:(matL (lowU M) n i j).length≤4096:=by
        have h1:(i+1) * n≤64 * 64:=Nat.mul_le_mul (by omega) hbnd;have h2:(matL (lowU M) n i j).length=i * n+j:=by unfold matL;rw [List.length_append,fl_len (s:=n) (fun x=> by simp)];simp
        rw [Nat.add_mul] at h1
        omega
       obtain ⟨xs,hxs⟩:∃xs,matL (lowU M) n i j=xs:=⟨_,rfl⟩;have HXS:=hid hxs;rw [hxs] at hbox hown hne hlen;have HBX:=hid hbox;have HOW:=hid hown;have HSZ:=hid (show w1.heap.size≤wj.heap.size from hb.size);have l1:=(zAb HHJ.out.box).1 1 _ rfl;have b0:=(zAb hbox).1 0 _ rfl;have b1:=(zAb hbox).1 1 _ rfl;have b2:=(zAb hbox).1 2 _ rfl;obtain ⟨q,cq,hVi,hnum⟩:=HHJ.out.num hin hjn;obtain ⟨g2,o2,x2,hidx,hg2,hc2,hx2⟩:=IsSl.at1 Tryz.underlying152 hir hr1 (IsSl.of_own HHJ.out.oR) hin;obtain rfl:x2=.slice (some ⟨q,0,none⟩) n cq:=by
        rw [List.getElem?_map,List.getElem?_range hin] at hx2;exact (Option.some.inj hx2).symm.trans hVi
       have hrow:=IsSl.of_own (HHJ.out.row i hin);rw [hVi] at hrow;obtain ⟨g3,o3,x3,hidx3,hg3,hc3,hx3⟩:=IsSl.at1 Tryz.underlying70 hi hz1 hrow hjn;obtain ⟨x,hx,rfl⟩:=map_getElem? hx3;have HX:=hid (show (M i).getD j (0,0)=x by rw [List.getD_eq_getElem?_getD,hx];rfl);have HLE:=hid hlen;unfold mkC at hc3;clear hx hx3 hx2 hrow hVi hnum hne hown hbox hxs hb;rcases (show i≤j∨j < i by omega) with h1 | h1
       · have e1:(i:Int)≤ (j:Int):=by omega
         have e2:¬((j:Int) < (i:Int)):=by omega
         obtain ⟨z,hz⟩:∃z:Cx,x=z:=⟨_,rfl⟩;have HZZ:=hid (show lowU M i j=z by unfold lowU;rw [if_neg (by omega)];rw [HX.out,hz]);obtain ⟨za,zb⟩:=z;subst hz;have hlen:=HLE.out;go_wp2_with (refine zBj rfl rfl _ rfl _ _ _ rfl rfl w1.heap.size 49 1 16 i0 (.complex .f64 0 0) Tryz.underlying70 hi hz0 hz1 hz2 rfl (by decide) (by decide) _ xs.length _ HOW.out HSZ.out (mkC (za,zb)) rfl rfl (by intro u hu;simp [Value.cells,mkC] at hu;subst hu;rfl) rfl rfl (by simp [maxLen];omega) (by omega) ?_;intro g1 cap1 w3 hown1 hg1 htwo;obtain ⟨hk1,hk2⟩:=mat_push HBW.out HGG.out HBX.out HOW.out hown1 htwo;have f2:=(zAa hk1).2 2;have d2:=(zAa hk1).1 2 _ rfl;have HK2:=hid hk2;clear hk1 hk2 hown1 hg1 htwo);go_roundw
         case rel=> exact ⟨j+1,by omega,by go_num,by have h:=HK2.out;rw [zGt,HZZ.out,HXS.out];exact h⟩
         case measure=> simp [intOf];omega
       · have e1:¬((i:Int)≤ (j:Int)):=by omega
         have e2:(j:Int) < (i:Int):=by omega
         obtain ⟨z,hz⟩:∃z:Cx,(0,0)=z:=⟨_,rfl⟩;have HZZ:=hid (show lowU M i j=z by unfold lowU;rw [if_pos (by omega)];exact hz);obtain ⟨za,zb⟩:=z;obtain ⟨rfl,rfl⟩:=Prod.mk.inj hz;have hlen:=HLE.out;go_wp2_with (refine zBj rfl rfl _ rfl _ _ _ rfl rfl w1.heap.size 49 1 16 i0 (.complex .f64 0 0) Tryz.underlying70 hi hz0 hz1 hz2 rfl (by decide) (by decide) _ xs.length _ HOW.out HSZ.out (mkC (0,0)) rfl rfl (by intro u hu;simp [Value.cells,mkC] at hu;subst hu;rfl) rfl rfl (by simp [maxLen];omega) (by omega) ?_;intro g1 cap1 w3 hown1 hg1 htwo;obtain ⟨hk1,hk2⟩:=mat_push HBW.out HGG.out HBX.out HOW.out hown1 htwo;have f2:=(zAa hk1).2 2;have d2:=(zAa hk1).1 2 _ rfl;have HK2:=hid hk2;clear hk1 hk2 hown1 hg1 htwo);go_roundw
         case rel=> exact ⟨j+1,by omega,by go_num,by have h:=HK2.out;rw [zGt,HZZ.out,HXS.out];exact h⟩
         case measure=> simp [intOf];omega
     · obtain rfl:j=n:=by omega
       clear hbox hown hne hb;go_wp2;go_roundw
       case rel=> exact ⟨i+1,by omega,by go_num,by have h:=HMJ.out;rw [←matL_row] at h;exact h⟩
       case measure=> simp [intOf];omega
  · obtain rfl:i=n:=by omega
    obtain ⟨a,c,hbox,hown,hne,hb⟩:=HMO.out;rw [matL_len] at hbox hown hne;have HT:=hid (zAc hb HZ0.out);have HOW:=hid hown;have HGM:=hid (show gt < w1.heap.size from (Array.getElem?_eq_some_iff.1 HZ0.out).1);have HBF:=hid (zAd HB0.out hb);have b0:=(zAb hbox).1 0 _ rfl;have b1:=(zAb hbox).1 1 _ rfl;have b2:=(zAb hbox).1 2 _ rfl;have hbk:=zAb HT.out;have f0:=hbk.2 0;have f1:=hbk.2 1;have f2:=hbk.2 2;have t0:=hbk.1 0 _ rfl;have t1:=hbk.1 1 _ rfl;have t2:=hbk.1 2 _ rfl;clear hbk hbox hown hne hb HMO;go_wp2_with (go_at_call 103;refine (zEe HHO.out).mono ?_;rintro e w3 ⟨rfl,rfl⟩);refine bodyPost_ret (v:=.agg #[.int .i64 i,.int .i64 i,.slice a (i * i) c]) ?_ rfl ⟨_,rfl,?_,?_⟩
    · first | (rw [results_cell rfl];go_simp;done) | (unfold results;go_simp;done)
    · have hs:=zAf (zAf (zAj wo gt 0 (.int .i64 i)) (zAj _ gt 1 (.int .i64 i))) (zAj _ gt 2 (.slice a (i * i) c));exact zBs (B':=w1.heap.size) (zAz HOW.out hs (fun k e1 e2=> by obtain rfl:=Option.some.inj e2;have:=(HOW.out.lt _ e1).1;have:=HGM.out;omega)) HB0.out.size
    · exact ((HBF.out.setCell (p:=⟨gt,0,none⟩) (Nat.le_of_eq HGT.out) _).setCell (p:=⟨gt,1,none⟩) (Nat.le_of_eq HGT.out) _).setCell (p:=⟨gt,2,none⟩) (Nat.le_of_eq HGT.out) _
end
end Go.Proofs.YtejooaeppcjhjaaGreat
