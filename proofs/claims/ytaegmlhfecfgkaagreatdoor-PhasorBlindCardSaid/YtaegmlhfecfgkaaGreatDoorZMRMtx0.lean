/- a part of the proof of the last text -/
import Derived.Test.YtaegmlhfecfgkaaGreatDoorZGrP2
import Derived.Laws.EntriesVeiled
import Derived.Laws.MakeOwn
namespace Go.Proofs.YtaegmlhfecfgkaaGreatDoor
set_option linter.all false
set_option maxHeartbeats 4000000
set_option maxRecDepth 100000
section
open Go.RowKit
theorem gjoins_any (k:Int) (w:World):
 Calls Tryz.prog 70 #[.int .u8 k] w fun e w'=> e=.returned (.bool (k !=4 && k !=6))∧w'=w:=by
 by_cases h4:k=4
 · have hn:(k !=4)=false:=by rw [h4];rfl
   clear h4;go_enter Tryz.func70,Tryz.ntmps70;go_wp2;go_ret;exact ⟨by rw [hn];rfl,rfl⟩
 · have hn:(k !=4)=true:=by rw [bne_iff_ne];exact h4
   by_cases h6:k=6
   · have hm:(k !=6)=false:=by rw [h6];rfl
     clear h4 h6;go_enter Tryz.func70,Tryz.ntmps70;go_wp2;go_ret;exact ⟨by rw [hn,hm];rfl,rfl⟩
   · have hm:(k !=6)=true:=by rw [bne_iff_ne];exact h6
     clear h4 h6;go_enter Tryz.func70,Tryz.ntmps70;go_wp2;go_ret;exact ⟨by rw [hn,hm];rfl,rfl⟩
theorem upK_yes {l:List El} {k:Nat} {x:El} (h:l[k]? =some x) (hj:joinsE x=true):upK l (k+1)=joinU (upK l k) (gIx l x.a) (gIx l x.b):=by simp only [upK,h,hj,if_true]
theorem upK_no {l:List El} {k:Nat} {x:El} (h:l[k]? =some x) (hj:joinsE x=false):upK l (k+1)=upK l k:=by simp only [upK,h,hj,Bool.false_eq_true,if_false]
theorem upK_fine (l:List El) (k:Nat):Fine (upK l k):=(upK_len l k).1.fine
theorem upK_length (l:List El) (k:Nat):(upK l k).length=(gnds l).length:=by rw [(upK_len l k).2,gnds_len]
theorem gall_any (p:Value) (l:List El) (w:World) (hp:NN w p l) (hl:l.length≤100000) (hok:∀x∈l,x.Ok):
 Calls Tryz.prog 36 #[p] w (RetSets l (upK l l.length) w):=by
 obtain ⟨ie,hie,hi0,hi1,hi2⟩:=info_parts infoEa;have HP:=hid hp;have HOK:=hid hok;have HLE:=hid hl;clear hp hok;go_enter Tryz.func36,Tryz.ntmps36;go_upto_region 2 with (go_at_call 69;refine (gof_any p l _ HP.out hl HOK.out).mono ?_;rintro e w1 ⟨g,mb,vU,rfl,hh,hb⟩;have HH:=hid hh;have HB:=hid hb;have HP1:=hid (HP.out.below hb (Nat.le_refl _));clear hh hb HP);have HVU:=hid (show∀r,vU.ownBlock=some r→r < w1.heap.size from fun r e=> (World.ownsRow.lt HH.out.ou r e).2);go_wp2_with (go_at_call 42;refine (nelements_any p l _ HP1.out HLE.out).mono ?_;rintro e w2 ⟨v0,xs,rfl,hown,rfl,hb⟩;obtain ⟨a0,c0,rfl⟩:=(IsSl.of_own hown).form;have HE:=hid hown;have HH2:=hid (HH.out.later hb);have HB2:=hid (below_next HB.out hb);have HD:=hid (show∀r,vU.ownBlock=some r→(Value.slice a0 l.length c0).ownBlock≠some r from fun r e e2=> by have h1:=HVU.out r e;have h2:=(World.ownsRow.lt hown r e2).1;omega);clear hown hb HH HB HP1)
 go_loopw [11] (fun i wr=> ∃k:Nat,k≤l.length∧i=.int .i64 k∧SetsAt w.heap.size wr g mb vU (gnds l) (upK l k)∧wr.ownsRow w1.heap.size 47 8 (.slice a0 l.length c0) l.length (l.flatMap ea)∧Below w.heap.size w wr) (fun i _=> l.length - (intOf i).toNat)
 case atStart=> exact ⟨0,Nat.zero_le _,rfl,by have h:=HH2.out;rw [gnds_len] at h;exact h,HE.out,HB2.out⟩
 case round=>
  obtain ⟨k,hk,rfl,hh,he,hb⟩:=hrel;have HA:=hid hh;have HO:=hid he;have HB:=hid hb;clear hh he hb HH2 HE HB2
  by_cases hlt:k < l.length
  · obtain ⟨g1,o1,x,hidx,hg,hx,hcell⟩:=IsSl.atF Tryz.underlying45 hie hi1 ea_len (IsSl.of_own HO.out) rfl hlt;have HX:=hid hx;have HXOK:=hid (HOK.out x (List.mem_of_getElem? hx));have e0:wr.cell? ⟨g1,o1,none⟩=some (.int .u8 x.kind):=hcell 0 _ rfl;have e1:wr.cell? ⟨g1,o1+1,none⟩=some (.string x.name):=hcell 1 _ rfl;have e2:wr.cell? ⟨g1,o1+2,none⟩=some (.string x.a):=hcell 2 _ rfl;have e3:wr.cell? ⟨g1,o1+3,none⟩=some (.string x.b):=hcell 3 _ rfl;have e4:wr.cell? ⟨g1,o1+4,none⟩=some (.string x.c):=hcell 4 _ rfl;have e5:wr.cell? ⟨g1,o1+5,none⟩=some (.string x.d):=hcell 5 _ rfl;have e6:wr.cell? ⟨g1,o1+6,none⟩=some (.float .f64 x.val):=hcell 6 _ rfl;have e7:wr.cell? ⟨g1,o1+7,none⟩=some (.int .i64 x.ph):=hcell 7 _ rfl;clear hcell hg hx;go_upto_region 5 with fail;have hb1:=(Below.refl wr.heap.size wr).alloc (Nat.le_refl _) (.cells #[.int .u8 x.kind,.string x.name,.string x.a,.string x.b,.string x.c,.string x.d,.float .f64 x.val,.int .i64 x.ph] 47);have HBE:=hid (heap_alloc_new wr (.cells #[.int .u8 x.kind,.string x.name,.string x.a,.string x.b,.string x.c,.string x.d,.float .f64 x.val,.int .i64 x.ph] 47));have HA1:=hid (HA.out.later hb1);have HO1:=hid (own_none HO.out (grown_of_below hb1 none));have HB1:=hid (below_next HB.out hb1);clear hb1 e0 e1 e2 e3 e4 e5 e6 e7 hidx HA HO HB;generalize wr.alloc (.cells #[.int .u8 x.kind,.string x.name,.string x.a,.string x.b,.string x.c,.string x.d,.float .f64 x.val,.int .i64 x.ph] 47)=w5 at *;generalize wr.heap.size=eb at *;have b0:=(cells_ofS HBE.out).1 0 _ rfl;have b2:=(cells_ofS HBE.out).1 2 _ rfl;have b3:=(cells_ofS HBE.out).1 3 _ rfl;cases hj:joinsE x
    · have HJN:=hid hj;have hj2:(x.kind !=4 && x.kind !=6)=false:=hj;clear hj;go_wp2_with (go_at_call 70;refine (gjoins_any x.kind _).mono ?_;rintro e w6 ⟨rfl,rfl⟩;rw [hj2]);go_roundw
      case rel=> exact ⟨k+1,by omega,by go_num,by rw [upK_no HX.out HJN.out];exact HA1.out,HO1.out,HB1.out⟩
      case measure=> simp [intOf];omega
    · have HJY:=hid hj;have hj2:(x.kind !=4 && x.kind !=6)=true:=hj;clear hj;go_wp2_with (first | (go_at_call 70;refine (gjoins_any x.kind _).mono ?_;rintro e w6 ⟨rfl,rfl⟩;rw [hj2]) | (go_at_call 71;refine (gjoin_any w.heap.size g mb vU l (upK l k) x.a x.b _ HA1.out HB1.out.size (upK_fine l k) (upK_length l k) HLE.out HXOK.out.a HXOK.out.b).mono ?_;rintro e w7 ⟨⟨bb,rfl⟩,hh,hgr⟩;have HA7:=hid hh;have HO7:=hid (kept_ne HO1.out hgr (fun r e e2=> HD.out r e2 e));have HB7:=hid (HB1.out.grown hgr HB1.out.size (fun r e=> (World.ownsRow.lt HA1.out.ou r e).1));clear hh hgr HA1 HO1 HB1 b0 b2 b3 HBE));go_roundw
      case rel=> exact ⟨k+1,by omega,by go_num,by rw [upK_yes HX.out HJY.out];exact HA7.out,HO7.out,HB7.out⟩
      case measure=> simp [intOf];omega
  · obtain rfl:k=l.length:=by omega
    go_wp2;go_ret;exact ⟨g,mb,vU,rfl,HA.out,HB.out⟩
end
section
open Go.RowKit
theorem bad1_ne {l:List El} {k:Nat} {x:El}:bad1 l k x≠1:=by
 have h:checkE x≠1:=by
  unfold checkE
  repeat' split
  all_goals decide
 unfold bad1
 repeat' split
 · decide
 · decide
 · exact h
theorem firstBad_ne {l:List El}:∀ (r:List El) (k:Nat) (q:Nat × Int),firstBad l k r=some q→q.2≠1
 | [],_,_,h=> by simp [firstBad] at h
 | x::r,k,q,h=> by
  unfold firstBad at h
  split at h
  · exact firstBad_ne r _ q h
  · obtain rfl:=Option.some.inj h;exact bad1_ne
theorem ofL_ne (l:List El):(ofL l).2.1≠1:=by
 unfold ofL
 split
 · decide
 · split
   · rename_i k x hf;exact firstBad_ne l 0 (k,x) hf
   · split <;> decide
end
section
open Go.RowKit
def zeroE:El:=⟨0,⟨#[]⟩,⟨#[]⟩,⟨#[]⟩,⟨#[]⟩,⟨#[]⟩,0,0⟩
theorem zeroE_ok:zeroE.Ok:=by constructor <;> decide
theorem gnone_any (p:Value) (l:List El) (w:World) (hp:NN w p l) (hl:l.length≤100000) (hok:∀y∈l,y.Ok):
 Calls Tryz.prog 35 #[p] w fun e w'=> e=.returned (.bool (noNet p))∧Below w.heap.size w w':=by
 obtain ⟨pa,rfl⟩:∃pa:Option Addr,p=.pointer pa:=by
  obtain ⟨pa,h,_⟩:=nn_form hp;exact ⟨pa,h⟩
 cases pa with
 | none=>
  go_enter Tryz.func35,Tryz.ntmps35;go_wp2;go_ret;exact ⟨rfl,Below.refl _ _⟩
 | some pa=>
  have HP:=hid hp;have HOK:=hid hok;have HNE:=hid (ofL_ne (l++ [zeroE]));clear hp hok;go_enter Tryz.func35,Tryz.ntmps35;go_upto_region 4 with (go_at_call 68;refine (nwith_any pa l zeroE _ HP.out hl HOK.out zeroE_ok).mono ?_;rintro e w1 ⟨⟨p',rfl⟩,hb⟩;have HB:=hid hb;clear hb);obtain ⟨f,hf⟩:∃f,(ofL (l++ [zeroE])).2=f:=⟨_,rfl⟩;rw [show (ofL (l++ [zeroE])).2=f from hf] at HNE⊢;clear hf;obtain ⟨fa,fb⟩:=f;have hne:(fa==1)=false:=by have:=HNE.out;simpa using this
  have HB2:=hid (below_next HB.out ((Below.refl w1.heap.size w1).alloc (Nat.le_refl _) (.cells #[.int .i64 fa,.int .i64 fb] 38)));have HFB:=hid (heap_alloc_new w1 (.cells #[.int .i64 fa,.int .i64 fb] 38));clear HB HNE;dsimp only;generalize w1.alloc (.cells #[.int .i64 fa,.int .i64 fb] 38)=w2 at *;have b0:=(cells_ofS HFB.out).1 0 _ rfl;go_wp2;go_ret;exact ⟨rfl,HB2.out⟩
theorem ggrounded_any (p:Value) (l:List El) (w:World) (hp:NN w p l) (hl:l.length≤100000) (hok:∀x∈l,x.Ok):
 Calls Tryz.prog 21 #[p] w (RetF (grdS (noNet p) l) w):=by
 have hbw:=(Below.refl w.heap.size w).alloc (Nat.le_refl _) (.cells #[.int .i64 0,.int .i64 0] 38);have HQ:=hid (hp.below hbw (Nat.le_refl _));have HBW:=hid hbw;have HZ:=hid (heap_alloc_new w (.cells #[.int .i64 0,.int .i64 0] 38));have HLE:=hid hl;have HOK:=hid hok;have hnl:=nds_len l;have HNL:=hid (show (nds l).length≤400000 by omega);clear hp hbw hnl hok;cases hn:noNet p
 · have HN:=hid hn;clear hn;go_enter Tryz.func21,Tryz.ntmps21;go_upto_region 1 with fail;generalize w.alloc (.cells #[.int .i64 0,.int .i64 0] 38)=w0 at *;go_upto_region 4 with (first | (go_at_call 35;refine (gnone_any p l _ HQ.out HLE.out HOK.out).mono ?_;rintro e wn ⟨rfl,hb⟩;rw [HN.out];have HQ2:=hid (HQ.out.below hb (Nat.le_refl _));have HB2:=hid (below_next HBW.out hb);have HZ2:=hid (heap_next hb HZ.out);clear hb HQ HBW HZ) | (go_at_call 36;refine (gall_any p l _ HQ2.out HLE.out HOK.out).mono ?_;rintro e w1 ⟨g,mb,vU,rfl,hh,hb⟩;have HH:=hid hh;have HQ3:=hid (HQ2.out.below hb (Nat.le_refl _));have HB3:=hid (below_next HB2.out hb);have HZ3:=hid (heap_next hb HZ2.out);clear hh hb HQ2 HB2 HZ2));go_wp2_with (go_at_call 37;refine (nnodes_any p l _ HQ3.out HLE.out).mono ?_;rintro e w2 ⟨v3,xs,rfl,hown3,rfl,hb⟩;obtain ⟨a3,c3,rfl⟩:=(IsSl.of_own hown3).form;have HH2:=hid (HH.out.later hb);have HB4:=hid (below_next HB3.out hb);have HZ4:=hid (heap_next hb HZ3.out);clear hown3 hb HH HQ3 HB3 HZ3);have HUL:=hid (upK_length l l.length);have HF:=hid (upK_fine l l.length);obtain ⟨N,hN⟩:∃N,(nds l).length=N:=⟨_,rfl⟩;have HN2:=hid hN;have hn0:=HNL.out;rw [hN] at hn0;rw [hN];clear hN
   go_loopw [13] (fun i wr=> ∃k:Nat,k≤N∧i=.int .i64 k∧wr=w2∧∀j,j < k→(rootOf (upK l l.length) (j+1) !=0)=false) (fun i _=> N - (intOf i).toNat)
   case atStart=> exact ⟨0,Nat.zero_le _,rfl,rfl,fun j hj=> absurd hj (Nat.not_lt_zero _)⟩
   case round=>
    obtain ⟨k,hk,rfl,rfl,hno⟩:=hrel;have HNO:=hid hno;clear hno;have z0:=(cells_ofS HZ4.out).1 0 _ rfl;have z1:=(cells_ofS HZ4.out).1 1 _ rfl;have f0:=(cells_ofS HZ4.out).2 0;have f1:=(cells_ofS HZ4.out).2 1
    by_cases hlt:k < N
    · obtain ⟨r,hr⟩:∃r,rootOf (upK l l.length) (k+1)=r:=⟨_,rfl⟩;have HR:=hid hr;clear hr
      by_cases he:r=0
      · have HE:=hid he;have hne:((r:Int) !=0)=false:=by rw [he];rfl
        clear he;go_wp2_with (go_at_call 38;refine (groot_any _ g mb vU (gnds l) (upK l l.length) (k+1) _ HH2.out HF.out (by rw [HUL.out,gnds_len,HN2.out];omega) (by rw [HUL.out,gnds_len,HN2.out];omega)).mono ?_;rintro e w5 ⟨rfl,rfl⟩;rw [HR.out]);go_roundw
        case rel=> exact ⟨k+1,by omega,by go_num,by first | rfl | trivial,fun j hj=> by
         by_cases e:j=k
         · subst e;rw [HR.out,HE.out];rfl
         · exact HNO.out j (by omega)⟩
        case measure=> simp [intOf];omega
      · have HE:=hid he;have hne:((r:Int) !=0)=true:=by rw [bne_iff_ne];omega
        clear he;have HS:=hid (show grdS false l=(11,(k:Int)) by
         unfold grdS;rw [if_neg (by simp)];unfold grdU;rw [find_yes (k:=k) (by rw [HN2.out];exact hlt) HNO.out (by rw [HR.out,bne_iff_ne];exact HE.out)])
        go_wp2_with (go_at_call 38;refine (groot_any _ g mb vU (gnds l) (upK l l.length) (k+1) _ HH2.out HF.out (by rw [HUL.out,gnds_len,HN2.out];omega) (by rw [HUL.out,gnds_len,HN2.out];omega)).mono ?_;rintro e w5 ⟨rfl,rfl⟩;rw [HR.out])
        (try simp only [Exit.inBlock,Exit.then])
        refine bodyPost_ret (v:=.agg #[.int .i64 11,.int .i64 k]) ?_ rfl ⟨by rw [HS.out],?_⟩
        · rw [results_cell1M rfl];go_simp
        · repeat (first | with_reducible exact HB4.out | with_reducible refine Below.setCell ?_ (by dsimp only;omega) _)
    · obtain rfl:k=N:=by omega
      have HS:=hid (show grdS false l=(0,0) by
       unfold grdS;rw [if_neg (by simp)];unfold grdU;rw [find_not (fun j hj=> HNO.out j (by rw [HN2.out] at hj;exact hj))])
      go_wp2;refine bodyPost_ret (v:=.agg #[.int .i64 0,.int .i64 0]) ?_ rfl ⟨by rw [HS.out],?_⟩
      · rw [results_cell1M rfl];go_simp
      · repeat (first | with_reducible exact HB4.out | with_reducible refine Below.setCell ?_ (by dsimp only;omega) _)
 · have HN:=hid hn;clear hn;go_enter Tryz.func21,Tryz.ntmps21;go_upto_region 1 with fail;generalize w.alloc (.cells #[.int .i64 0,.int .i64 0] 38)=w0 at *;go_upto_region 2 with (go_at_call 35;refine (gnone_any p l _ HQ.out HLE.out HOK.out).mono ?_;rintro e wn ⟨rfl,hb⟩;rw [HN.out];have HB2:=hid (below_next HBW.out hb);have HZ2:=hid (heap_next hb HZ.out);clear hb HQ HBW HZ);have z0:=(cells_ofS HZ2.out).1 0 _ rfl;have z1:=(cells_ofS HZ2.out).1 1 _ rfl;have f0:=(cells_ofS HZ2.out).2 0;have f1:=(cells_ofS HZ2.out).2 1;go_wp2;refine bodyPost_ret (v:=.agg #[.int .i64 1,.int .i64 (-1)]) ?_ rfl ⟨by unfold grdS;rw [if_pos rfl],?_⟩
   · rw [results_cell1M rfl];go_simp
   · repeat (first | with_reducible exact HB2.out | with_reducible refine Below.setCell ?_ (by dsimp only;omega) _)
end
section
open Go.RowKit
def putS (l:List El) (r:Nat→Cx) (s:ByteArray) (f:Cx→Cx):(Nat→Cx) × Bool:=
 if has (nds l) s=true then (upd r (plI (nds l) s).toNat (f (r (plI (nds l) s).toNat)),cfin (f (r (plI (nds l) s).toNat))) else (r,true)
def brAt (l:List El) (x:El):Nat:=(nds l).length+(plI (brs l) x.name).toNat
def rgtS (l:List El) (r:Nat→Cx) (x:El):(Nat→Cx) × Bool:=
 if (srcS x).2≠0 then (r,true)
 else if x.kind=5 then (upd r (brAt l x) (srcS x).1,cfin (srcS x).1)
 else ((putS l (putS l r x.a fun z=> csub z (srcS x).1).1 x.b fun z=> cadd z (srcS x).1).1,
  (putS l (putS l r x.a fun z=> csub z (srcS x).1).1 x.b fun z=> cadd z (srcS x).1).2 && (putS l r x.a fun z=> csub z (srcS x).1).2)
def rgtK (l:List El):Nat→(Nat→Cx)
 | 0=> fun _=> (fc 0,fc 0)
 | k+1=> match l[k]? with | some x=> (rgtS l (rgtK l k) x).1 | none=> rgtK l k
theorem rgtK_succ {l:List El} {k:Nat} {x:El} (h:l[k]? =some x):rgtK l (k+1)=(rgtS l (rgtK l k) x).1:=by simp only [rgtK,h]
def rgtBad (l:List El):Option Nat:=(List.range l.length).find? fun k=> match l[k]? with | some x=> !(rgtS l (rgtK l k) x).2 | none=> false
def rgtE (b:Bool) (l:List El):List Cx × (Int × Int):=
 if b=true then ([],(1,-1)) else match rgtBad l with
  | some k=> ([],(6,k))
  | none=> ((List.range ((nds l).length+(brs l).length)).map (rgtK l l.length),(0,0))
theorem find_rng {n k:Nat} {p:Nat→Bool} (hk:k < n) (h:∀i,i < k→p i=false) (hp:p k=true):(List.range n).find? p=some k:=by
 rw [List.find?_eq_some_iff_getElem];exact ⟨hp,k,by simpa using hk,by simp,fun j hj=> by simp [h j hj]⟩
theorem rgt_none {l:List El}:rgtE true l=([],(1,-1)):=by unfold rgtE;rw [if_pos rfl]
theorem rgt_stop {l:List El} {k:Nat} {x:El} (hx:l[k]? =some x) (h:∀ (i:Nat) (y:El),i < k→l[i]? =some y→(rgtS l (rgtK l i) y).2=true) (hb:(rgtS l (rgtK l k) x).2=false):rgtE false l=([],(6,(k:Int))):=by
 have hk:=(List.getElem?_eq_some_iff.1 hx).1;unfold rgtE rgtBad;rw [if_neg (by simp),find_rng hk (fun i hi=> by
  have hy:l[i]? =some l[i]:=List.getElem?_eq_getElem (by omega);simp only [hy,h i _ hi hy,Bool.not_true]) (by simp only [hx,hb,Bool.not_false])]
theorem rgt_done {l:List El} (h:∀ (i:Nat) (y:El),l[i]? =some y→(rgtS l (rgtK l i) y).2=true):rgtE false l=((List.range ((nds l).length+(brs l).length)).map (rgtK l l.length),(0,0)):=by
 unfold rgtE rgtBad;rw [if_neg (by simp),List.find?_eq_none.2 (fun i hi=> by
  have hi:=List.mem_range.1 hi;have hy:l[i]? =some l[i]:=List.getElem?_eq_getElem hi;simp only [hy,h i _ hy,Bool.not_true];simp)]
def Uniq (l:List El):Prop:=∀ (k:Nat) (x:El),l[k]? =some x→named (l.take k) x.name=false
theorem brs_app (a b:List El):brs (a++b)=brs a++brs b:=by simp [brs]
theorem has_brs {l:List El} {s:ByteArray} (h:named l s=false):has (brs l) s=false:=by
 unfold has brs named at *;rw [List.any_eq_false] at *;intro t ht;obtain ⟨x,hx,rfl⟩:=List.mem_map.1 ht;exact h x (List.mem_filter.1 hx).1
theorem br_index {l:List El} (hu:Uniq l) {k:Nat} {x:El} (hx:l[k]? =some x) (hb:isBr x=true):has (brs l) x.name=true∧plI (brs l) x.name=((brs (l.take k)).length:Int):=by
 obtain ⟨hk,e⟩:=List.getElem?_eq_some_iff.1 hx;have hsplit:brs l=brs (l.take k)++(x.name::brs (l.drop (k+1))):=by
  conv=> lhs;rw [←List.take_append_drop k l,brs_app,List.drop_eq_getElem_cons hk,e]
  congr 1
  unfold brs;rw [List.filter_cons,if_pos hb];rfl
 refine plI_at (k:=(brs (l.take k)).length) (t:=x.name) ?_ ?_ (by simp)
 · rw [hsplit,List.take_left' rfl];exact has_brs (hu k x hx)
 · rw [hsplit,List.getElem?_append_right (Nat.le_refl _),Nat.sub_self];rfl
theorem brs_take_succ {l:List El} {k:Nat} {x:El} (hx:l[k]? =some x):(brs (l.take (k+1))).length=(brs (l.take k)).length+(if isBr x=true then 1 else 0):=by
 cases h:isBr x with
 | true=> rw [brs_yes hx h];simp
 | false=> rw [brs_no hx h];simp
end
section
open Go.RowKit
structure Grown2 (w w':World) (g h:Nat):Prop where
 os:w'.os=w.os
 tape:w'.tape=w.tape
 output:w'.output=w.output
 size:w.heap.size≤w'.heap.size
 block:∀k,k < w.heap.size→k≠g→k≠h→w'.heap[k]? =w.heap[k]?
theorem Grown2.trans {w w1 w2:World} {g h:Nat} (a:Grown2 w w1 g h) (b:Grown2 w1 w2 g h):Grown2 w w2 g h:=
 ⟨b.os.trans a.os,b.tape.trans a.tape,b.output.trans a.output,Nat.le_trans a.size b.size,fun k hk h1 h2=> (b.block k (Nat.lt_of_lt_of_le hk a.size) h1 h2).trans (a.block k hk h1 h2)⟩
theorem Grown2.heap {w w':World} {g h b:Nat} {o:Obj} (hg:Grown2 w w' g h) (h1:b≠g) (h2:b≠h) (hb:w.heap[b]? =some o):w'.heap[b]? =some o:=
 (hg.block b (Array.getElem?_eq_some_iff.1 hb).1 h1 h2).trans hb
theorem Grown2.below {w w':World} {g h B:Nat} (hg:Grown2 w w' g h) (h1:B≤g) (h2:B≤h) (hB:B≤w.heap.size):Below B w w':=
 ⟨hg.os,hg.tape,hg.output,hg.size,fun k hk=> hg.block k (Nat.lt_of_lt_of_le hk hB) (by omega) (by omega)⟩
theorem row_at {M:List Cx} {k:Nat} (h:k < M.length):(M.map mkC).toArray[k]? =some (mkC (M.getD k (0,0))):=by
 rw [List.getElem?_toArray,List.getElem?_map,List.getD_eq_getElem?_getD,List.getElem?_eq_getElem h];rfl
end
section
open Go.RowKit
theorem idx_at {h n c k:Nat} (hk:k < n) (w':World):(Instr.indexAt 33 (.slice (some ⟨h,0,none⟩) n c) (.int .i64 k)).run Tryz.prog w'=.ok (.pointer (some ⟨h,k,none⟩)) w':=by
 obtain ⟨i0,hi,hz0,hz1,hz2⟩:=info_parts infoC;have he:Tryz.prog.elem 33 =43 :=by have:=Tryz.underlying33;simp [Program.elem,this]
 rw [run_indexAt_slice w' 33 _ n c .i64 k (by rw [he];exact Tryz.underlying33),if_pos ⟨by omega,by omega⟩,he]
 simp [sizeOf,typeInfo,hi,hz1,Result.andThen,Addr.add]
 try (intro h;exact h.symm)
end
section
open Go.RowKit
structure VecM (w:World) (b n:Nat) (r:Nat→Cx) (M:List Cx):Prop where
 len:M.length=n
 row:w.heap[b]? =some (.cells (M.map mkC).toArray 43 (0,0))
 num:∀k,k < n→ck (M.getD k (0,0))=r k
def VecR (w:World) (b n:Nat) (r:Nat→Cx):Prop:=∃M,VecM w b n r M
theorem VecM.below {w w':World} {b n:Nat} {r:Nat→Cx} {M:List Cx} (h:VecM w b n r M) (hb:Below w.heap.size w w'):VecM w' b n r M:=⟨h.len,heap_next hb h.row,h.num⟩
theorem VecR.below {w w':World} {b n:Nat} {r:Nat→Cx} (h:VecR w b n r) (hb:Below w.heap.size w w'):VecR w' b n r:=by
 obtain ⟨M,hM⟩:=h;exact ⟨M,hM.below hb⟩
theorem VecM.put {w:World} {b n k:Nat} {r:Nat→Cx} {M:List Cx} (h:VecM w b n r M) (hk:k < n) (z:Cx):VecM (w.setCell ⟨b,k,none⟩ (mkC z)) b n (upd r k (ck z)) (M.set k z):=by
 refine ⟨by rw [List.length_set,h.len],?_,fun j hj=> ?_⟩
 · have h4:=blk_set1 (o:=k) h.row (mkC z);rw [List.setIfInBounds_toArray,←List.map_set] at h4;exact h4
 · by_cases e:j=k
   · subst e;rw [upd_same,List.getD_eq_getElem?_getD,List.getElem?_set_self (by rw [h.len];exact hk)];rfl
   · rw [upd_ne _ _ e,←h.num j hj,List.getD_eq_getElem?_getD,List.getD_eq_getElem?_getD,List.getElem?_set_ne (Ne.symm e)]
def RetPut (b n:Nat) (S:(Nat→Cx) × Bool) (w:World) (en:Ending) (w':World):Prop:=en=.returned (.bool S.2)∧VecR w' b n S.1∧w.grownBy w' (some b)
theorem putsub_any (p:Value) (l:List El) (b n:Nat) (r:Nat→Cx) (t:ByteArray) (s1 s2:Nat) (w:World) (hp:NN w p l) (hv:VecR w b n r) (ht:t.size≤maxLen) (hn:(nds l).length≤n) (hn2:n≤4096):
 Calls Tryz.prog 48 #[p,.slice (some ⟨b,0,none⟩) n n,.agg #[.string t,.func (.func 49) #[] #[]],.complex .f64 s1 s2] w (RetPut b n (putS l r t fun z=> csub z (fc s1,fc s2)) w):=by
 have hb1:=(Below.refl w.heap.size w).alloc (Nat.le_refl _) (.cells #[.string t,.func (.func 49) #[] #[]] 103);have HBX:=hid (heap_alloc_new w (.cells #[.string t,.func (.func 49) #[] #[]] 103));have HP:=hid (hp.below hb1 (Nat.le_refl _));have HVR:=hid (hv.below hb1);have HG:=hid (grown_of_below hb1 (some b));have HT:=hid ht;have HN:=hid hn;clear hp hv hb1 ht hn
 by_cases hh:has (nds l) t=true
 · have hplt:plI (nds l) t < (nds l).length:=by
    unfold plI;rw [if_pos hh];have:(nds l).findIdx (fun u=> u.toList==t.toList) < (nds l).length:=by
     rw [List.findIdx_lt_length];have h1:=hh;unfold has at h1
     simpa using h1
    omega
   obtain ⟨k,hk⟩:∃k:Nat,plI (nds l) t=(k:Int):=by
    unfold plI;rw [if_pos hh];exact ⟨_,rfl⟩
   have HK:=hid (show k < n by rw [hk] at hplt;have:=HN.out;omega);have HS:=hid (show putS l r t (fun z=> csub z (fc s1,fc s2))=(upd r k (csub (r k) (fc s1,fc s2)),cfin (csub (r k) (fc s1,fc s2))) by unfold putS;rw [if_pos hh,hk];simp [upd_same]);have hat:∀w',(Instr.indexAt 33 (.slice (some ⟨b,0,none⟩) n n) (.int .i64 k)).run Tryz.prog w'=.ok (.pointer (some ⟨b,k,none⟩)) w':=fun w'=> idx_at HK.out w'
   have HKK:=hid hk;clear hplt hk;rw [HS.out];go_enter Tryz.func48,Tryz.ntmps48;go_upto_region 1 with fail;generalize w.alloc (.cells #[.string t,.func (.func 49) #[] #[]] 103)=w1 at *;generalize w.heap.size=eb at *;have e0:=(cells_ofS HBX.out).1 0 _ rfl;go_upto_region 4 with (go_at_call 80;refine (nplace_any _ l t _ HP.out HT.out).mono ?_;rintro e wn ⟨rfl,rfl⟩;rw [hh,HKK.out]);clear e0 hh;obtain ⟨M,hM⟩:=HVR.out;have HM:=hid hM;have HZC:=hid (row_at (k:=k) (M:=M) (by rw [hM.len];exact HK.out));have HZN:=hid (hM.num k HK.out);clear hM HVR;generalize M.getD k (0,0)=z at *;obtain ⟨z1,z2⟩:=z;refine wp_region_any (by kernel_rfl) ?_;change wpAny _ _ _ _ _ _ _ (World.drew _);refine wpAny_makersD [⟨some 20,0, []⟩,⟨some 21,1, []⟩,⟨some 22,2, []⟩,⟨some 23,3, []⟩,⟨some 24,4, []⟩,⟨some 25,5, []⟩,⟨some 26,6, []⟩,⟨some 27,7, []⟩,⟨some 28,8, []⟩,⟨some 29,9, []⟩]
    (fun w'=> w'.heap[eb]? =some (.cells #[.string t,.func (.func 49) #[] #[]] 103 (0,0))∧VecM w' b n r M)
    (fun oq v _ _ _ _=> match oq with | 0=> v=.slice (some ⟨b,0,none⟩) n n | 1=> v=.int .i64 k | 2=> v=.pointer (some ⟨eb,1,none⟩) | 3=> v=.func (.func 49) #[] #[] | 4=> v=.slice (some ⟨b,0,none⟩) n n | 5=> v=.int .i64 k | 6=> v=.pointer (some ⟨b,k,none⟩) | 7=> v=.complex .f64 z1 z2 | 8=> v=.complex .f64 s1 s2 | 9=> ∃r1 r2,v=Value.complex .f64 r1 r2∧ck (r1,r2)=csub (fc z1,fc z2) (fc s1,fc s2) | _=> True) (by kernel_rfl) ?hSp (fun _ _ hb h=> ⟨heap_next hb h.1,h.2.below hb⟩) (fun _ _ _ _ _ _ _ _ _ h=> h) ?hopp ?hendp
   case hSp=> exact ⟨heap_next (Below.refl _ _).drew HBX.out,HM.out.below (Below.refl _ _).drew⟩
   case hopp=>
    delta Owed
    simp only [fillD,Act.put,List.setIfInBounds_toArray,lz,ls];refine Each.cons rfl ?_ (Each.cons rfl ?_ (Each.cons rfl ?_ (Each.cons rfl ?_ (Each.cons rfl ?_ (Each.cons rfl ?_ (Each.cons rfl ?_ (Each.cons rfl ?_ (Each.cons rfl ?_ (Each.cons rfl ?_ Each.nil)))))))))
    all_goals intro vs w2 hb2 hS2 hR2 K hK;try simp only [lz,ls] at hK⊢
    · go_simp;exact shP hK
    · go_simp;exact shP hK
    · go_simp;exact shP hK
    · have h2:vs 2=_:=exR (hR2 2 (by kernel_rfl)) (fun _ _ h=> h);have k1:=(cells_ofS hS2.1).1 1 _ rfl;have kz:=(cells_ofS hS2.2.row).1 k _ HZC.out;simp only [h2] at hK⊢;go_simp;exact shP hK
    · go_simp;exact shP hK
    · go_simp;exact shP hK
    · have h4:vs 4=_:=exR (hR2 4 (by kernel_rfl)) (fun _ _ h=> h);have h5:vs 5=_:=exR (hR2 5 (by kernel_rfl)) (fun _ _ h=> h);have k1:=(cells_ofS hS2.1).1 1 _ rfl;have kz:=(cells_ofS hS2.2.row).1 k _ HZC.out;simp only [h4,h5] at hK⊢;go_simp;exact shP hK
    · have h6:vs 6=_:=exR (hR2 6 (by kernel_rfl)) (fun _ _ h=> h);have k1:=(cells_ofS hS2.1).1 1 _ rfl;have kz:=(cells_ofS hS2.2.row).1 k _ HZC.out;simp only [h6] at hK⊢;go_simp;exact shP hK
    · go_simp;exact shP hK
    · have h3:vs 3=_:=exR (hR2 3 (by kernel_rfl)) (fun _ _ h=> h);have h7:vs 7=_:=exR (hR2 7 (by kernel_rfl)) (fun _ _ h=> h);have h8:vs 8=_:=exR (hR2 8 (by kernel_rfl)) (fun _ _ h=> h);simp only [h3,h7,h8] at hK⊢;rw [if_pos (by rfl)];go_wp2_with (go_at_call 49;refine (psub_any z1 z2 s1 s2 _).mono ?_;rintro e w3 ⟨v,nn,rfl,he,r1,r2,rfl,hzz⟩;subst he);exact hK.out _ _ (below_n (Below.refl _ _) nn) ⟨r1,r2,rfl,hzz⟩
   case hendp=>
    intro vs wx lo hiv hbx hSx hRx hdx;have h0:vs 0=_:=(hRx 0 (by kernel_rfl)).1;have h1:vs 1=_:=(hRx 1 (by kernel_rfl)).1;have h2:vs 2=_:=(hRx 2 (by kernel_rfl)).1;have h3:vs 3=_:=(hRx 3 (by kernel_rfl)).1;have h4:vs 4=_:=(hRx 4 (by kernel_rfl)).1;have h5:vs 5=_:=(hRx 5 (by kernel_rfl)).1;have h6:vs 6=_:=(hRx 6 (by kernel_rfl)).1;have h7:vs 7=_:=(hRx 7 (by kernel_rfl)).1;have h8:vs 8=_:=(hRx 8 (by kernel_rfl)).1;have H9:=(hRx 9 (by kernel_rfl)).1;obtain ⟨r1,r2,h9,hz9⟩:=H9;simp only [fillD,Act.put,List.setIfInBounds_toArray,lz,ls,h0,h1,h2,h3,h4,h5,h6,h7,h8,h9];have hb:=below_drew_left hbx;have HZZ:=hid hz9;have HD:=hid (HM.out.below hb);have HG2:=hid (grown_trans HG.out (grown_of_below hb (some b)));clear hz9 hbx hRx hdx hSx hb HG HM;refine wpAny_one (i:=10) (by kernel_rfl) rfl (fun K hK=> ?_);go_simp;refine hK.out _ _ ?_;clear hK;have fz:=(cells_ofS HD.out.row).2 k;have cz:=(cells_ofS HD.out.row).1 k _ HZC.out;refine wpAny_one (i:=11) (by kernel_rfl) rfl (fun K hK=> ?_);go_simp;refine hK.out _ _ ?_;clear hK fz cz;have HD3:Hid (VecM (wx.setCell ⟨b,k,none⟩ (.complex .f64 r1 r2)) b n (upd r k (ck (r1,r2))) (M.set k (r1,r2))):=hid (HD.out.put HK.out (r1,r2));have HG3:=hid (grown_trans HG2.out (set1_grown wx b k (.complex .f64 r1 r2)));clear HD HG2;have HEQ:=hid (show ck (r1,r2)=csub (r k) (fc s1,fc s2) by rw [←HZN.out];exact HZZ.out);generalize wx.setCell ⟨b,k,none⟩ (.complex .f64 r1 r2)=w3 at *;refine wpAny_done (by kernel_rfl) ?_ _;have z3:w3.cell? ⟨b,k,none⟩=some (.complex .f64 r1 r2):=by
     have h1:=(cells_ofS HD3.out.row).1 k _ (row_at (by rw [HD3.out.len];exact HK.out));rw [List.getD_eq_getElem?_getD,List.getElem?_set_self (by have:=HD3.out.len;rw [List.length_set] at this;rw [this];exact HK.out)] at h1;exact h1
    go_wp2_with (go_at_call 47;refine (pfin_any r1 r2 _).mono ?_;rintro e w4 ⟨v,nn4,rfl,he,rfl⟩;have hb4:Below w3.heap.size w3 w4:=(by rw [he];exact below_n (Below.refl _ _) nn4);have HD5:=hid (HD3.out.below hb4);have HG5:=hid (grown_trans HG3.out (grown_of_below hb4 (some b)));clear HD3 HG3 he hb4 z3)
    (try rw [Exit.noGoto_ret])
    go_ret;refine ⟨by rw [←HEQ.out];rfl,⟨M.set k (r1,r2),?_⟩,HG5.out⟩;rw [←HEQ.out];exact HD5.out
 · have hf:has (nds l) t=false:=by simpa using hh
   have HS:=hid (show putS l r t (fun z=> csub z (fc s1,fc s2))=(r,true) by unfold putS;rw [if_neg hh]);clear hh;rw [HS.out];go_enter Tryz.func48,Tryz.ntmps48;go_upto_region 1 with fail;generalize w.alloc (.cells #[.string t,.func (.func 49) #[] #[]] 103)=w1 at *;generalize w.heap.size=eb at *;have e0:=(cells_ofS HBX.out).1 0 _ rfl;go_wp2_with (go_at_call 80;refine (nplace_any _ l t _ HP.out HT.out).mono ?_;rintro e wn ⟨rfl,rfl⟩;rw [hf])
   (try rw [Exit.noGoto_ret])
   go_ret;exact ⟨rfl,HVR.out,HG.out⟩
theorem putadd_any (p:Value) (l:List El) (b n:Nat) (r:Nat→Cx) (t:ByteArray) (s1 s2:Nat) (w:World) (hp:NN w p l) (hv:VecR w b n r) (ht:t.size≤maxLen) (hn:(nds l).length≤n) (hn2:n≤4096):
 Calls Tryz.prog 48 #[p,.slice (some ⟨b,0,none⟩) n n,.agg #[.string t,.func (.func 50) #[] #[]],.complex .f64 s1 s2] w (RetPut b n (putS l r t fun z=> cadd z (fc s1,fc s2)) w):=by
 have hb1:=(Below.refl w.heap.size w).alloc (Nat.le_refl _) (.cells #[.string t,.func (.func 50) #[] #[]] 103);have HBX:=hid (heap_alloc_new w (.cells #[.string t,.func (.func 50) #[] #[]] 103));have HP:=hid (hp.below hb1 (Nat.le_refl _));have HVR:=hid (hv.below hb1);have HG:=hid (grown_of_below hb1 (some b));have HT:=hid ht;have HN:=hid hn;clear hp hv hb1 ht hn
 by_cases hh:has (nds l) t=true
 · have hplt:plI (nds l) t < (nds l).length:=by
    unfold plI;rw [if_pos hh];have:(nds l).findIdx (fun u=> u.toList==t.toList) < (nds l).length:=by
     rw [List.findIdx_lt_length];have h1:=hh;unfold has at h1
     simpa using h1
    omega
   obtain ⟨k,hk⟩:∃k:Nat,plI (nds l) t=(k:Int):=by
    unfold plI;rw [if_pos hh];exact ⟨_,rfl⟩
   have HK:=hid (show k < n by rw [hk] at hplt;have:=HN.out;omega);have HS:=hid (show putS l r t (fun z=> cadd z (fc s1,fc s2))=(upd r k (cadd (r k) (fc s1,fc s2)),cfin (cadd (r k) (fc s1,fc s2))) by unfold putS;rw [if_pos hh,hk];simp [upd_same]);have hat:∀w',(Instr.indexAt 33 (.slice (some ⟨b,0,none⟩) n n) (.int .i64 k)).run Tryz.prog w'=.ok (.pointer (some ⟨b,k,none⟩)) w':=fun w'=> idx_at HK.out w'
   have HKK:=hid hk;clear hplt hk;rw [HS.out];go_enter Tryz.func48,Tryz.ntmps48;go_upto_region 1 with fail;generalize w.alloc (.cells #[.string t,.func (.func 50) #[] #[]] 103)=w1 at *;generalize w.heap.size=eb at *;have e0:=(cells_ofS HBX.out).1 0 _ rfl;go_upto_region 4 with (go_at_call 80;refine (nplace_any _ l t _ HP.out HT.out).mono ?_;rintro e wn ⟨rfl,rfl⟩;rw [hh,HKK.out]);clear e0 hh;obtain ⟨M,hM⟩:=HVR.out;have HM:=hid hM;have HZC:=hid (row_at (k:=k) (M:=M) (by rw [hM.len];exact HK.out));have HZN:=hid (hM.num k HK.out);clear hM HVR;generalize M.getD k (0,0)=z at *;obtain ⟨z1,z2⟩:=z;refine wp_region_any (by kernel_rfl) ?_;change wpAny _ _ _ _ _ _ _ (World.drew _);refine wpAny_makersD [⟨some 20,0, []⟩,⟨some 21,1, []⟩,⟨some 22,2, []⟩,⟨some 23,3, []⟩,⟨some 24,4, []⟩,⟨some 25,5, []⟩,⟨some 26,6, []⟩,⟨some 27,7, []⟩,⟨some 28,8, []⟩,⟨some 29,9, []⟩]
    (fun w'=> w'.heap[eb]? =some (.cells #[.string t,.func (.func 50) #[] #[]] 103 (0,0))∧VecM w' b n r M)
    (fun oq v _ _ _ _=> match oq with | 0=> v=.slice (some ⟨b,0,none⟩) n n | 1=> v=.int .i64 k | 2=> v=.pointer (some ⟨eb,1,none⟩) | 3=> v=.func (.func 50) #[] #[] | 4=> v=.slice (some ⟨b,0,none⟩) n n | 5=> v=.int .i64 k | 6=> v=.pointer (some ⟨b,k,none⟩) | 7=> v=.complex .f64 z1 z2 | 8=> v=.complex .f64 s1 s2 | 9=> ∃r1 r2,v=Value.complex .f64 r1 r2∧ck (r1,r2)=cadd (fc z1,fc z2) (fc s1,fc s2) | _=> True) (by kernel_rfl) ?hSp (fun _ _ hb h=> ⟨heap_next hb h.1,h.2.below hb⟩) (fun _ _ _ _ _ _ _ _ _ h=> h) ?hopp ?hendp
   case hSp=> exact ⟨heap_next (Below.refl _ _).drew HBX.out,HM.out.below (Below.refl _ _).drew⟩
   case hopp=>
    delta Owed
    simp only [fillD,Act.put,List.setIfInBounds_toArray,lz,ls];refine Each.cons rfl ?_ (Each.cons rfl ?_ (Each.cons rfl ?_ (Each.cons rfl ?_ (Each.cons rfl ?_ (Each.cons rfl ?_ (Each.cons rfl ?_ (Each.cons rfl ?_ (Each.cons rfl ?_ (Each.cons rfl ?_ Each.nil)))))))))
    all_goals intro vs w2 hb2 hS2 hR2 K hK;try simp only [lz,ls] at hK⊢
    · go_simp;exact shP hK
    · go_simp;exact shP hK
    · go_simp;exact shP hK
    · have h2:vs 2=_:=exR (hR2 2 (by kernel_rfl)) (fun _ _ h=> h);have k1:=(cells_ofS hS2.1).1 1 _ rfl;have kz:=(cells_ofS hS2.2.row).1 k _ HZC.out;simp only [h2] at hK⊢;go_simp;exact shP hK
    · go_simp;exact shP hK
    · go_simp;exact shP hK
    · have h4:vs 4=_:=exR (hR2 4 (by kernel_rfl)) (fun _ _ h=> h);have h5:vs 5=_:=exR (hR2 5 (by kernel_rfl)) (fun _ _ h=> h);have k1:=(cells_ofS hS2.1).1 1 _ rfl;have kz:=(cells_ofS hS2.2.row).1 k _ HZC.out;simp only [h4,h5] at hK⊢;go_simp;exact shP hK
    · have h6:vs 6=_:=exR (hR2 6 (by kernel_rfl)) (fun _ _ h=> h);have k1:=(cells_ofS hS2.1).1 1 _ rfl;have kz:=(cells_ofS hS2.2.row).1 k _ HZC.out;simp only [h6] at hK⊢;go_simp;exact shP hK
    · go_simp;exact shP hK
    · have h3:vs 3=_:=exR (hR2 3 (by kernel_rfl)) (fun _ _ h=> h);have h7:vs 7=_:=exR (hR2 7 (by kernel_rfl)) (fun _ _ h=> h);have h8:vs 8=_:=exR (hR2 8 (by kernel_rfl)) (fun _ _ h=> h);simp only [h3,h7,h8] at hK⊢;rw [if_pos (by rfl)];go_wp2_with (go_at_call 50;refine (padd_any z1 z2 s1 s2 _).mono ?_;rintro e w3 ⟨v,nn,rfl,he,r1,r2,rfl,hzz⟩;subst he);exact hK.out _ _ (below_n (Below.refl _ _) nn) ⟨r1,r2,rfl,hzz⟩
   case hendp=>
    intro vs wx lo hiv hbx hSx hRx hdx;have h0:vs 0=_:=(hRx 0 (by kernel_rfl)).1;have h1:vs 1=_:=(hRx 1 (by kernel_rfl)).1;have h2:vs 2=_:=(hRx 2 (by kernel_rfl)).1;have h3:vs 3=_:=(hRx 3 (by kernel_rfl)).1;have h4:vs 4=_:=(hRx 4 (by kernel_rfl)).1;have h5:vs 5=_:=(hRx 5 (by kernel_rfl)).1;have h6:vs 6=_:=(hRx 6 (by kernel_rfl)).1;have h7:vs 7=_:=(hRx 7 (by kernel_rfl)).1;have h8:vs 8=_:=(hRx 8 (by kernel_rfl)).1;have H9:=(hRx 9 (by kernel_rfl)).1;obtain ⟨r1,r2,h9,hz9⟩:=H9;simp only [fillD,Act.put,List.setIfInBounds_toArray,lz,ls,h0,h1,h2,h3,h4,h5,h6,h7,h8,h9];have hb:=below_drew_left hbx;have HZZ:=hid hz9;have HD:=hid (HM.out.below hb);have HG2:=hid (grown_trans HG.out (grown_of_below hb (some b)));clear hz9 hbx hRx hdx hSx hb HG HM;refine wpAny_one (i:=10) (by kernel_rfl) rfl (fun K hK=> ?_);go_simp;refine hK.out _ _ ?_;clear hK;have fz:=(cells_ofS HD.out.row).2 k;have cz:=(cells_ofS HD.out.row).1 k _ HZC.out;refine wpAny_one (i:=11) (by kernel_rfl) rfl (fun K hK=> ?_);go_simp;refine hK.out _ _ ?_;clear hK fz cz;have HD3:Hid (VecM (wx.setCell ⟨b,k,none⟩ (.complex .f64 r1 r2)) b n (upd r k (ck (r1,r2))) (M.set k (r1,r2))):=hid (HD.out.put HK.out (r1,r2));have HG3:=hid (grown_trans HG2.out (set1_grown wx b k (.complex .f64 r1 r2)));clear HD HG2;have HEQ:=hid (show ck (r1,r2)=cadd (r k) (fc s1,fc s2) by rw [←HZN.out];exact HZZ.out);generalize wx.setCell ⟨b,k,none⟩ (.complex .f64 r1 r2)=w3 at *;refine wpAny_done (by kernel_rfl) ?_ _;have z3:w3.cell? ⟨b,k,none⟩=some (.complex .f64 r1 r2):=by
     have h1:=(cells_ofS HD3.out.row).1 k _ (row_at (by rw [HD3.out.len];exact HK.out));rw [List.getD_eq_getElem?_getD,List.getElem?_set_self (by have:=HD3.out.len;rw [List.length_set] at this;rw [this];exact HK.out)] at h1;exact h1
    go_wp2_with (go_at_call 47;refine (pfin_any r1 r2 _).mono ?_;rintro e w4 ⟨v,nn4,rfl,he,rfl⟩;have hb4:Below w3.heap.size w3 w4:=(by rw [he];exact below_n (Below.refl _ _) nn4);have HD5:=hid (HD3.out.below hb4);have HG5:=hid (grown_trans HG3.out (grown_of_below hb4 (some b)));clear HD3 HG3 he hb4 z3)
    (try rw [Exit.noGoto_ret])
    go_ret;refine ⟨by rw [←HEQ.out];rfl,⟨M.set k (r1,r2),?_⟩,HG5.out⟩;rw [←HEQ.out];exact HD5.out
 · have hf:has (nds l) t=false:=by simpa using hh
   have HS:=hid (show putS l r t (fun z=> cadd z (fc s1,fc s2))=(r,true) by unfold putS;rw [if_neg hh]);clear hh;rw [HS.out];go_enter Tryz.func48,Tryz.ntmps48;go_upto_region 1 with fail;generalize w.alloc (.cells #[.string t,.func (.func 50) #[] #[]] 103)=w1 at *;generalize w.heap.size=eb at *;have e0:=(cells_ofS HBX.out).1 0 _ rfl;go_wp2_with (go_at_call 80;refine (nplace_any _ l t _ HP.out HT.out).mono ?_;rintro e wn ⟨rfl,rfl⟩;rw [hf])
   (try rw [Exit.noGoto_ret])
   go_ret;exact ⟨rfl,HVR.out,HG.out⟩
end
section
open Go.RowKit
def zrow (n:Nat):Array Value:=((List.replicate n (0,0)).map mkC).toArray
theorem zrow_made (n:Nat):madeCells (Value.complex .f64 0 0).cells (n * 1)=zrow n:=by
 apply Array.ext
 · simp [madeCells,zrow]
 · intro i h1 h2
   simp [madeCells,zrow,Value.cells,mkC,Nat.mod_one]
theorem mk_many (n:Nat) (w:World) (hn:n≤4096):(Instr.makeSlice 33 (.int .i64 n) (.int .i64 n)).run Tryz.prog w=.ok (.slice (some ⟨w.heap.size,0,none⟩) n n) (w.alloc (.cells (zrow n) 43)):=by
 obtain ⟨i0,hi,hz0,hz1,hz2⟩:=info_parts infoC;have h:=run_make (P:=Tryz.prog) w 33 43 i0 (.complex .f64 0 0) Tryz.underlying33 hi hz0 .i64 .i64 n n (by omega) (Int.le_refl _) (by rw [hz2];omega) (by omega);rw [h,Int.toNat_natCast,hz1,zrow_made]
end
end Go.Proofs.YtaegmlhfecfgkaaGreatDoor
