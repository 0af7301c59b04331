/- a part of the proof of the last text -/
import Derived.Test.YtdepiggjneoopaaGreatDoorZMGrP2
import Derived.Laws.EntriesVeiled
namespace Go.Proofs.YtdepiggjneoopaaGreatDoor
set_option linter.all false
set_option maxHeartbeats 4000000
set_option maxRecDepth 100000
section
open Go.RowKit
theorem gjoins_any (k:Int) (w:World):
 Calls Tryz.prog 146 #[.int .u8 k] w fun e w'=> e=.returned (.bool (k !=4 && k !=6))∧w'=w:=by
 by_cases h4:k=4
 · have hn:(k !=4)=false:=by rw [h4];rfl
   clear h4;go_enter Tryz.func146,Tryz.ntmps146;go_wp2;go_ret;exact ⟨by rw [hn];rfl,rfl⟩
 · have hn:(k !=4)=true:=by rw [bne_iff_ne];exact h4
   by_cases h6:k=6
   · have hm:(k !=6)=false:=by rw [h6];rfl
     clear h4 h6;go_enter Tryz.func146,Tryz.ntmps146;go_wp2;go_ret;exact ⟨by rw [hn,hm];rfl,rfl⟩
   · have hm:(k !=6)=true:=by rw [bne_iff_ne];exact h6
     clear h4 h6;go_enter Tryz.func146,Tryz.ntmps146;go_wp2;go_ret;exact ⟨by rw [hn,hm];rfl,rfl⟩
theorem upK_yes {l:List El} {k:Nat} {x:El} (h:l[k]? =some x) (hj:joinsE x=true):upK l (k+1)=joinU (upK l k) (gIx l x.a) (gIx l x.b):=by simp only [upK,h,hj,if_true]
theorem upK_no {l:List El} {k:Nat} {x:El} (h:l[k]? =some x) (hj:joinsE x=false):upK l (k+1)=upK l k:=by simp only [upK,h,hj,Bool.false_eq_true,if_false]
theorem upK_fine (l:List El) (k:Nat):Fine (upK l k):=(upK_len l k).1.fine
theorem upK_length (l:List El) (k:Nat):(upK l k).length=(gnds l).length:=by rw [(upK_len l k).2,zDe]
theorem gall_any (p:Value) (l:List El) (w:World) (hp:NN w p l) (hl:l.length≤100000) (aY:∀x∈l,x.Ok):
 Calls Tryz.prog 126 #[p] w (RetSets l (upK l l.length) w):=by
 obtain ⟨ie,dJ,kG,gX,pA⟩:=info_parts zEo;have HP:=hid hp;have cH:=hid aY;have cK:=hid hl;clear hp aY;go_enter Tryz.func126,Tryz.ntmps126;go_upto_region 2 with (go_at_call 145;refine (gof_any p l _ HP.out hl cH.out).mono ?_;rintro e w1 ⟨g,mb,vU,rfl,hh,hb⟩;have HH:=hid hh;have HB:=hid hb;have gE:=hid (HP.out.below hb (Nat.le_refl _));clear hh hb HP);have HVU:=hid (show∀r,vU.ownBlock=some r→r < w1.heap.size from fun r e=> (World.ownsRow.lt HH.out.ou r e).2);go_wp2_with (go_at_call 9;refine (zDb p l _ gE.out cK.out).mono ?_;rintro e w2 ⟨v0,xs,rfl,aC,rfl,hb⟩;obtain ⟨a0,c0,rfl⟩:=(IsSl.of_own aC).form;have HE:=hid aC;have HH2:=hid (HH.out.later hb);have aG:=hid (zAd HB.out hb);have HD:=hid (show∀r,vU.ownBlock=some r→(Value.slice a0 l.length c0).ownBlock≠some r from fun r e e2=> by have h1:=HVU.out r e;have h2:=(World.ownsRow.lt aC r e2).1;omega);clear aC hb HH HB gE)
 go_loopw [11] (fun i wr=> ∃k:Nat,k≤l.length∧i=.int .i64 k∧SetsAt w.heap.size wr g mb vU (gnds l) (upK l k)∧wr.ownsRow w1.heap.size 35 8 (.slice a0 l.length c0) l.length (l.flatMap ea)∧Below w.heap.size w wr) (fun i _=> l.length - (intOf i).toNat)
 case atStart=> exact ⟨0,Nat.zero_le _,rfl,by have h:=HH2.out;rw [zDe] at h;exact h,HE.out,aG.out⟩
 case round=>
  obtain ⟨k,hk,rfl,hh,he,hb⟩:=hrel;have HA:=hid hh;have HO:=hid he;have HB:=hid hb;clear hh he hb HH2 HE aG
  by_cases aM:k < l.length
  · obtain ⟨g1,o1,x,aZ,hg,hx,aA⟩:=IsSl.atF Tryz.underlying31 dJ gX ea_len (IsSl.of_own HO.out) rfl aM;have HX:=hid hx;have eN:=hid (cH.out x (List.mem_of_getElem? hx));have e0:wr.cell? ⟨g1,o1,none⟩=some (.int .u8 x.kind):=aA 0 _ rfl;have e1:wr.cell? ⟨g1,o1+1,none⟩=some (.string x.name):=aA 1 _ rfl;have e2:wr.cell? ⟨g1,o1+2,none⟩=some (.string x.a):=aA 2 _ rfl;have e3:wr.cell? ⟨g1,o1+3,none⟩=some (.string x.b):=aA 3 _ rfl;have e4:wr.cell? ⟨g1,o1+4,none⟩=some (.string x.c):=aA 4 _ rfl;have e5:wr.cell? ⟨g1,o1+5,none⟩=some (.string x.d):=aA 5 _ rfl;have e6:wr.cell? ⟨g1,o1+6,none⟩=some (.float .f64 x.val):=aA 6 _ rfl;have e7:wr.cell? ⟨g1,o1+7,none⟩=some (.int .i64 x.ph):=aA 7 _ rfl;clear aA hg hx;go_upto_region 5 with fail;have aI:=(Below.refl wr.heap.size wr).alloc (Nat.le_refl _) (.cells #[.int .u8 x.kind,.string x.name,.string x.a,.string x.b,.string x.c,.string x.d,.float .f64 x.val,.int .i64 x.ph] 35);have dO:=hid (heap_alloc_new wr (.cells #[.int .u8 x.kind,.string x.name,.string x.a,.string x.b,.string x.c,.string x.d,.float .f64 x.val,.int .i64 x.ph] 35));have qI:=hid (HA.out.later aI);have tV:=hid (zBf HO.out (zAe aI none));have aL:=hid (zAd HB.out aI);clear aI e0 e1 e2 e3 e4 e5 e6 e7 aZ HA HO HB;generalize wr.alloc (.cells #[.int .u8 x.kind,.string x.name,.string x.a,.string x.b,.string x.c,.string x.d,.float .f64 x.val,.int .i64 x.ph] 35)=w5 at *;generalize wr.heap.size=eb at *;have b0:=(zAb dO.out).1 0 _ rfl;have b2:=(zAb dO.out).1 2 _ rfl;have b3:=(zAb dO.out).1 3 _ rfl;cases hj:joinsE x
    · have iQ:=hid hj;have pZ:(x.kind !=4 && x.kind !=6)=false:=hj;clear hj;go_wp2_with (go_at_call 146;refine (gjoins_any x.kind _).mono ?_;rintro e w6 ⟨rfl,rfl⟩;rw [pZ]);go_roundw
      case rel=> exact ⟨k+1,by omega,by go_num,by rw [upK_no HX.out iQ.out];exact qI.out,tV.out,aL.out⟩
      case measure=> simp [intOf];omega
    · have HJY:=hid hj;have pZ:(x.kind !=4 && x.kind !=6)=true:=hj;clear hj;go_wp2_with (first | (go_at_call 146;refine (gjoins_any x.kind _).mono ?_;rintro e w6 ⟨rfl,rfl⟩;rw [pZ]) | (go_at_call 147;refine (gjoin_any w.heap.size g mb vU l (upK l k) x.a x.b _ qI.out aL.out.size (upK_fine l k) (upK_length l k) cK.out eN.out.a eN.out.b).mono ?_;rintro e w7 ⟨⟨bb,rfl⟩,hh,aF⟩;have HA7:=hid hh;have HO7:=hid (zCn tV.out aF (fun r e e2=> HD.out r e2 e));have cT:=hid (aL.out.grown aF aL.out.size (fun r e=> (World.ownsRow.lt qI.out.ou r e).1));clear hh aF qI tV aL b0 b2 b3 dO));go_roundw
      case rel=> exact ⟨k+1,by omega,by go_num,by rw [upK_yes HX.out HJY.out];exact HA7.out,HO7.out,cT.out⟩
      case measure=> simp [intOf];omega
  · obtain rfl:k=l.length:=by omega
    go_wp2;go_ret;exact ⟨g,mb,vU,rfl,HA.out,HB.out⟩
end
section
open Go.RowKit
theorem bad1_ne {l:List El} {k:Nat} {x:El}:bad1 l k x≠1:=by
 have h:zAv x≠1:=by
  unfold zAv
  repeat' split
  all_goals decide
 unfold bad1
 repeat' split
 · decide
 · decide
 · exact h
theorem firstBad_ne {l:List El}:∀ (r:List El) (k:Nat) (q:Nat × Int),zBt l k r=some q→q.2≠1
 | [],_,_,h=> by simp [zBt] at h
 | x::r,k,q,h=> by
  unfold zBt at h
  split at h
  · exact firstBad_ne r _ q h
  · obtain rfl:=Option.some.inj h;exact bad1_ne
theorem ofL_ne (l:List El):(ofL l).2.1≠1:=by
 unfold ofL
 split
 · decide
 · split
   · rename_i k x hf;exact firstBad_ne l 0 (k,x) hf
   · split <;> decide
end
section
open Go.RowKit
def zeroE:El:=⟨0,⟨#[]⟩,⟨#[]⟩,⟨#[]⟩,⟨#[]⟩,⟨#[]⟩,0,0⟩
theorem zeroE_ok:zeroE.Ok:=by constructor <;> decide
theorem gnone_any (p:Value) (l:List El) (w:World) (hp:NN w p l) (hl:l.length≤100000) (aY:∀y∈l,y.Ok):
 Calls Tryz.prog 125 #[p] w fun e w'=> e=.returned (.bool (zBp p))∧Below w.heap.size w w':=by
 obtain ⟨pa,rfl⟩:∃pa:Option Addr,p=.pointer pa:=by
  obtain ⟨pa,h,_⟩:=nn_form hp;exact ⟨pa,h⟩
 cases pa with
 | none=>
  go_enter Tryz.func125,Tryz.ntmps125;go_wp2;go_ret;exact ⟨rfl,Below.refl _ _⟩
 | some pa=>
  have HP:=hid hp;have cH:=hid aY;have fR:=hid (ofL_ne (l++ [zeroE]));clear hp aY;go_enter Tryz.func125,Tryz.ntmps125;go_upto_region 4 with (go_at_call 98;refine (nwith_any pa l zeroE _ HP.out hl cH.out zeroE_ok).mono ?_;rintro e w1 ⟨⟨p',rfl⟩,hb⟩;have HB:=hid hb;clear hb);obtain ⟨f,hf⟩:∃f,(ofL (l++ [zeroE])).2=f:=⟨_,rfl⟩;rw [show (ofL (l++ [zeroE])).2=f from hf] at fR⊢;clear hf;obtain ⟨fa,fb⟩:=f;have aK:(fa==1)=false:=by have:=fR.out;simpa using this
  have aG:=hid (zAd HB.out ((Below.refl w1.heap.size w1).alloc (Nat.le_refl _) (.cells #[.int .i64 fa,.int .i64 fb] 38)));have hX:=hid (heap_alloc_new w1 (.cells #[.int .i64 fa,.int .i64 fb] 38));clear HB fR;dsimp only;generalize w1.alloc (.cells #[.int .i64 fa,.int .i64 fb] 38)=w2 at *;have b0:=(zAb hX.out).1 0 _ rfl;go_wp2;go_ret;exact ⟨rfl,aG.out⟩
theorem ggrounded_any (p:Value) (l:List El) (w:World) (hp:NN w p l) (hl:l.length≤100000) (aY:∀x∈l,x.Ok):
 Calls Tryz.prog 99 #[p] w (RetF (grdS (zBp p) l) w):=by
 have cN:=(Below.refl w.heap.size w).alloc (Nat.le_refl _) (.cells #[.int .i64 0,.int .i64 0] 38);have HQ:=hid (hp.below cN (Nat.le_refl _));have bC:=hid cN;have HZ:=hid (heap_alloc_new w (.cells #[.int .i64 0,.int .i64 0] 38));have cK:=hid hl;have cH:=hid aY;have wH:=nds_len l;have HNL:=hid (show (nds l).length≤400000 by omega);clear hp cN wH aY;cases hn:zBp p
 · have HN:=hid hn;clear hn;go_enter Tryz.func99,Tryz.ntmps99;go_upto_region 1 with fail;generalize w.alloc (.cells #[.int .i64 0,.int .i64 0] 38)=w0 at *;go_upto_region 4 with (first | (go_at_call 125;refine (gnone_any p l _ HQ.out cK.out cH.out).mono ?_;rintro e wn ⟨rfl,hb⟩;rw [HN.out];have iO:=hid (HQ.out.below hb (Nat.le_refl _));have aG:=hid (zAd bC.out hb);have zT:=hid (zAi hb HZ.out);clear hb HQ bC HZ) | (go_at_call 126;refine (gall_any p l _ iO.out cK.out cH.out).mono ?_;rintro e w1 ⟨g,mb,vU,rfl,hh,hb⟩;have HH:=hid hh;have HQ3:=hid (iO.out.below hb (Nat.le_refl _));have aT:=hid (zAd aG.out hb);have wS:=hid (zAi hb zT.out);clear hh hb iO aG zT));go_wp2_with (go_at_call 106;refine (zDi p l _ HQ3.out cK.out).mono ?_;rintro e w2 ⟨v3,xs,rfl,bA,rfl,hb⟩;obtain ⟨a3,c3,rfl⟩:=(IsSl.of_own bA).form;have HH2:=hid (HH.out.later hb);have bI:=hid (zAd aT.out hb);have iL:=hid (zAi hb wS.out);clear bA hb HH HQ3 aT wS);have wV:=hid (upK_length l l.length);have HF:=hid (upK_fine l l.length);obtain ⟨N,hN⟩:∃N,(nds l).length=N:=⟨_,rfl⟩;have kT:=hid hN;have zA:=HNL.out;rw [hN] at zA;rw [hN];clear hN
   go_loopw [13] (fun i wr=> ∃k:Nat,k≤N∧i=.int .i64 k∧wr=w2∧∀j,j < k→(zBa (upK l l.length) (j+1) !=0)=false) (fun i _=> N - (intOf i).toNat)
   case atStart=> exact ⟨0,Nat.zero_le _,rfl,rfl,fun j hj=> absurd hj (Nat.not_lt_zero _)⟩
   case round=>
    obtain ⟨k,hk,rfl,rfl,lW⟩:=hrel;have gF:=hid lW;clear lW;have z0:=(zAb iL.out).1 0 _ rfl;have z1:=(zAb iL.out).1 1 _ rfl;have f0:=(zAb iL.out).2 0;have f1:=(zAb iL.out).2 1
    by_cases aM:k < N
    · obtain ⟨r,hr⟩:∃r,zBa (upK l l.length) (k+1)=r:=⟨_,rfl⟩;have HR:=hid hr;clear hr
      by_cases he:r=0
      · have HE:=hid he;have aK:((r:Int) !=0)=false:=by rw [he];rfl
        clear he;go_wp2_with (go_at_call 127;refine (groot_any _ g mb vU (gnds l) (upK l l.length) (k+1) _ HH2.out HF.out (by rw [wV.out,zDe,kT.out];omega) (by rw [wV.out,zDe,kT.out];omega)).mono ?_;rintro e w5 ⟨rfl,rfl⟩;rw [HR.out]);go_roundw
        case rel=> exact ⟨k+1,by omega,by go_num,by first | rfl | trivial,fun j hj=> by
         by_cases e:j=k
         · subst e;rw [HR.out,HE.out];rfl
         · exact gF.out j (by omega)⟩
        case measure=> simp [intOf];omega
      · have HE:=hid he;have aK:((r:Int) !=0)=true:=by rw [bne_iff_ne];omega
        clear he;have HS:=hid (show grdS false l=(11,(k:Int)) by
         unfold grdS;rw [if_neg (by simp)];unfold grdU;rw [find_yes (k:=k) (by rw [kT.out];exact aM) gF.out (by rw [HR.out,bne_iff_ne];exact HE.out)])
        go_wp2_with (go_at_call 127;refine (groot_any _ g mb vU (gnds l) (upK l l.length) (k+1) _ HH2.out HF.out (by rw [wV.out,zDe,kT.out];omega) (by rw [wV.out,zDe,kT.out];omega)).mono ?_;rintro e w5 ⟨rfl,rfl⟩;rw [HR.out])
        (try simp only [Exit.inBlock,Exit.then])
        refine bodyPost_ret (v:=.agg #[.int .i64 11,.int .i64 k]) ?_ rfl ⟨by rw [HS.out],?_⟩
        · rw [zDo rfl];go_simp
        · repeat (first | with_reducible exact bI.out | with_reducible refine Below.setCell ?_ (by dsimp only;omega) _)
    · obtain rfl:k=N:=by omega
      have HS:=hid (show grdS false l=(0,0) by
       unfold grdS;rw [if_neg (by simp)];unfold grdU;rw [find_not (fun j hj=> gF.out j (by rw [kT.out] at hj;exact hj))])
      go_wp2;refine bodyPost_ret (v:=.agg #[.int .i64 0,.int .i64 0]) ?_ rfl ⟨by rw [HS.out],?_⟩
      · rw [zDo rfl];go_simp
      · repeat (first | with_reducible exact bI.out | with_reducible refine Below.setCell ?_ (by dsimp only;omega) _)
 · have HN:=hid hn;clear hn;go_enter Tryz.func99,Tryz.ntmps99;go_upto_region 1 with fail;generalize w.alloc (.cells #[.int .i64 0,.int .i64 0] 38)=w0 at *;go_upto_region 2 with (go_at_call 125;refine (gnone_any p l _ HQ.out cK.out cH.out).mono ?_;rintro e wn ⟨rfl,hb⟩;rw [HN.out];have aG:=hid (zAd bC.out hb);have zT:=hid (zAi hb HZ.out);clear hb HQ bC HZ);have z0:=(zAb zT.out).1 0 _ rfl;have z1:=(zAb zT.out).1 1 _ rfl;have f0:=(zAb zT.out).2 0;have f1:=(zAb zT.out).2 1;go_wp2;refine bodyPost_ret (v:=.agg #[.int .i64 1,.int .i64 (-1)]) ?_ rfl ⟨by unfold grdS;rw [if_pos rfl],?_⟩
   · rw [zDo rfl];go_simp
   · repeat (first | with_reducible exact aG.out | with_reducible refine Below.setCell ?_ (by dsimp only;omega) _)
end
section
open Go.RowKit
def putS (l:List El) (r:Nat→Cx) (s:ByteArray) (f:Cx→Cx):(Nat→Cx) × Bool:=
 if has (nds l) s=true then (upd r (plI (nds l) s).toNat (f (r (plI (nds l) s).toNat)),cfin (f (r (plI (nds l) s).toNat))) else (r,true)
def Uniq (l:List El):Prop:=∀ (k:Nat) (x:El),l[k]? =some x→zEn (l.take k) x.name=false
theorem brs_app (a b:List El):brs (a++b)=brs a++brs b:=by simp [brs]
theorem has_brs {l:List El} {s:ByteArray} (h:zEn l s=false):has (brs l) s=false:=by
 unfold has brs zEn at *;rw [List.any_eq_false] at *;intro t ht;obtain ⟨x,hx,rfl⟩:=List.mem_map.1 ht;exact h x (List.mem_filter.1 hx).1
theorem br_index {l:List El} (hu:Uniq l) {k:Nat} {x:El} (hx:l[k]? =some x) (hb:isBr x=true):has (brs l) x.name=true∧plI (brs l) x.name=((brs (l.take k)).length:Int):=by
 obtain ⟨hk,e⟩:=List.getElem?_eq_some_iff.1 hx;have qS:brs l=brs (l.take k)++(x.name::brs (l.drop (k+1))):=by
  conv=> lhs;rw [←List.take_append_drop k l,brs_app,List.drop_eq_getElem_cons hk,e]
  congr 1
  unfold brs;rw [List.filter_cons,if_pos hb];rfl
 refine plI_at (k:=(brs (l.take k)).length) (t:=x.name) ?_ ?_ (by simp)
 · rw [qS,List.take_left' rfl];exact has_brs (hu k x hx)
 · rw [qS,List.getElem?_append_right (Nat.le_refl _),Nat.sub_self];rfl
theorem brs_take_succ {l:List El} {k:Nat} {x:El} (hx:l[k]? =some x):(brs (l.take (k+1))).length=(brs (l.take k)).length+(if isBr x=true then 1 else 0):=by
 cases h:isBr x with
 | true=> rw [brs_yes hx h];simp
 | false=> rw [brs_no hx h];simp
end
section
open Go.RowKit
structure Grown2 (w w':World) (g h:Nat):Prop where
 os:w'.os=w.os
 tape:w'.tape=w.tape
 output:w'.output=w.output
 size:w.heap.size≤w'.heap.size
 block:∀k,k < w.heap.size→k≠g→k≠h→w'.heap[k]? =w.heap[k]?
theorem Grown2.trans {w w1 w2:World} {g h:Nat} (a:Grown2 w w1 g h) (b:Grown2 w1 w2 g h):Grown2 w w2 g h:=
 ⟨b.os.trans a.os,b.tape.trans a.tape,b.output.trans a.output,Nat.le_trans a.size b.size,fun k hk h1 h2=> (b.block k (Nat.lt_of_lt_of_le hk a.size) h1 h2).trans (a.block k hk h1 h2)⟩
theorem Grown2.heap {w w':World} {g h b:Nat} {o:Obj} (hg:Grown2 w w' g h) (h1:b≠g) (h2:b≠h) (hb:w.heap[b]? =some o):w'.heap[b]? =some o:=
 (hg.block b (Array.getElem?_eq_some_iff.1 hb).1 h1 h2).trans hb
theorem Grown2.below {w w':World} {g h B:Nat} (hg:Grown2 w w' g h) (h1:B≤g) (h2:B≤h) (hB:B≤w.heap.size):Below B w w':=
 ⟨hg.os,hg.tape,hg.output,hg.size,fun k hk=> hg.block k (Nat.lt_of_lt_of_le hk hB) (by omega) (by omega)⟩
theorem row_at {M:List Cx} {k:Nat} (h:k < M.length):(M.map mkC).toArray[k]? =some (mkC (M.getD k (0,0))):=by
 rw [List.getElem?_toArray,List.getElem?_map,List.getD_eq_getElem?_getD,List.getElem?_eq_getElem h];rfl
end
section
open Go.RowKit
theorem zEy {h n c k:Nat} (hk:k < n) (w':World):(Instr.indexAt 41 (.slice (some ⟨h,0,none⟩) n c) (.int .i64 k)).run Tryz.prog w'=.ok (.pointer (some ⟨h,k,none⟩)) w':=by
 obtain ⟨i0,hi,cG,bD,cB⟩:=info_parts zFh;have he:Tryz.prog.elem 41 =48 :=by have:=Tryz.underlying41;simp [Program.elem,this]
 rw [run_indexAt_slice w' 41 _ n c .i64 k (by rw [he];exact Tryz.underlying41),if_pos ⟨by omega,by omega⟩,he]
 simp [sizeOf,typeInfo,hi,bD,Result.andThen,Addr.add]
 try (intro h;exact h.symm)
end
section
open Go.RowKit
structure VecM (w:World) (b n:Nat) (r:Nat→Cx) (M:List Cx):Prop where
 len:M.length=n
 row:w.heap[b]? =some (.cells (M.map mkC).toArray 48 (0,0))
 num:∀k,k < n→ck (M.getD k (0,0))=r k
def VecR (w:World) (b n:Nat) (r:Nat→Cx):Prop:=∃M,VecM w b n r M
theorem VecM.below {w w':World} {b n:Nat} {r:Nat→Cx} {M:List Cx} (h:VecM w b n r M) (hb:Below w.heap.size w w'):VecM w' b n r M:=⟨h.len,zAi hb h.row,h.num⟩
theorem VecR.below {w w':World} {b n:Nat} {r:Nat→Cx} (h:VecR w b n r) (hb:Below w.heap.size w w'):VecR w' b n r:=by
 obtain ⟨M,hM⟩:=h;exact ⟨M,hM.below hb⟩
theorem VecM.put {w:World} {b n k:Nat} {r:Nat→Cx} {M:List Cx} (h:VecM w b n r M) (hk:k < n) (z:Cx):VecM (w.setCell ⟨b,k,none⟩ (mkC z)) b n (upd r k (ck z)) (M.set k z):=by
 refine ⟨by rw [List.length_set,h.len],?_,fun j hj=> ?_⟩
 · have h4:=zAy (o:=k) h.row (mkC z);rw [List.setIfInBounds_toArray,←List.map_set] at h4;exact h4
 · by_cases e:j=k
   · subst e;rw [zAm,List.getD_eq_getElem?_getD,List.getElem?_set_self (by rw [h.len];exact hk)];rfl
   · rw [zAp _ _ e,←h.num j hj,List.getD_eq_getElem?_getD,List.getD_eq_getElem?_getD,List.getElem?_set_ne (Ne.symm e)]
def RetPut (b n:Nat) (S:(Nat→Cx) × Bool) (w:World) (en:Ending) (w':World):Prop:=en=.returned (.bool S.2)∧VecR w' b n S.1∧w.grownBy w' (some b)
theorem putsub_any (p:Value) (l:List El) (b n:Nat) (r:Nat→Cx) (t:ByteArray) (s1 s2:Nat) (w:World) (hp:NN w p l) (hv:VecR w b n r) (ht:t.size≤maxLen) (hn:(nds l).length≤n) (oE:n≤4096):
 Calls Tryz.prog 65 #[p,.slice (some ⟨b,0,none⟩) n n,.agg #[.string t,.func (.func 45) #[] #[]],.complex .f64 s1 s2] w (RetPut b n (putS l r t fun z=> csub z (fc s1,fc s2)) w):=by
 have aI:=(Below.refl w.heap.size w).alloc (Nat.le_refl _) (.cells #[.string t,.func (.func 45) #[] #[]] 122);have bS:=hid (heap_alloc_new w (.cells #[.string t,.func (.func 45) #[] #[]] 122));have HP:=hid (hp.below aI (Nat.le_refl _));have uZ:=hid (hv.below aI);have HG:=hid (zAe aI (some b));have HT:=hid ht;have HN:=hid hn;clear hp hv aI ht hn
 by_cases hh:has (nds l) t=true
 · have qU:plI (nds l) t < (nds l).length:=by
    unfold plI;rw [if_pos hh];have:(nds l).findIdx (fun u=> u.toList==t.toList) < (nds l).length:=by
     rw [List.findIdx_lt_length];have h1:=hh;unfold has at h1
     simpa using h1
    omega
   obtain ⟨k,hk⟩:∃k:Nat,plI (nds l) t=(k:Int):=by
    unfold plI;rw [if_pos hh];exact ⟨_,rfl⟩
   have HK:=hid (show k < n by rw [hk] at qU;have:=HN.out;omega);have HS:=hid (show putS l r t (fun z=> csub z (fc s1,fc s2))=(upd r k (csub (r k) (fc s1,fc s2)),cfin (csub (r k) (fc s1,fc s2))) by unfold putS;rw [if_pos hh,hk];simp [zAm]);have eD:∀w',(Instr.indexAt 41 (.slice (some ⟨b,0,none⟩) n n) (.int .i64 k)).run Tryz.prog w'=.ok (.pointer (some ⟨b,k,none⟩)) w':=fun w'=> zEy HK.out w'
   have vK:=hid hk;clear qU hk;rw [HS.out];go_enter Tryz.func65,Tryz.ntmps65;go_upto_region 1 with fail;generalize w.alloc (.cells #[.string t,.func (.func 45) #[] #[]] 122)=w1 at *;generalize w.heap.size=eb at *;have e0:=(zAb bS.out).1 0 _ rfl;go_upto_region 4 with (go_at_call 74;refine (zCy _ l t _ HP.out HT.out).mono ?_;rintro e wn ⟨rfl,rfl⟩;rw [hh,vK.out]);clear e0 hh;obtain ⟨M,hM⟩:=uZ.out;have HM:=hid hM;have uT:=hid (row_at (k:=k) (M:=M) (by rw [hM.len];exact HK.out));have HZN:=hid (hM.num k HK.out);clear hM uZ;generalize M.getD k (0,0)=z at *;obtain ⟨z1,z2⟩:=z;refine wp_region_any (by kernel_rfl) ?_;change wpAny _ _ _ _ _ _ _ (World.drew _);refine zAx [⟨some 20,0, []⟩,⟨some 21,1, []⟩,⟨some 22,2, []⟩,⟨some 23,3, []⟩,⟨some 24,4, []⟩,⟨some 25,5, []⟩,⟨some 26,6, []⟩,⟨some 27,7, []⟩,⟨some 28,8, []⟩,⟨some 29,9, []⟩]
    (fun w'=> w'.heap[eb]? =some (.cells #[.string t,.func (.func 45) #[] #[]] 122 (0,0))∧VecM w' b n r M)
    (fun oq v _ _ _ _=> match oq with | 0=> v=.slice (some ⟨b,0,none⟩) n n | 1=> v=.int .i64 k | 2=> v=.pointer (some ⟨eb,1,none⟩) | 3=> v=.func (.func 45) #[] #[] | 4=> v=.slice (some ⟨b,0,none⟩) n n | 5=> v=.int .i64 k | 6=> v=.pointer (some ⟨b,k,none⟩) | 7=> v=.complex .f64 z1 z2 | 8=> v=.complex .f64 s1 s2 | 9=> ∃r1 r2,v=Value.complex .f64 r1 r2∧ck (r1,r2)=csub (fc z1,fc z2) (fc s1,fc s2) | _=> True) (by kernel_rfl) ?hSp (fun _ _ hb h=> ⟨zAi hb h.1,h.2.below hb⟩) (fun _ _ _ _ _ _ _ _ _ h=> h) ?yS ?rB
   case hSp=> exact ⟨zAi (Below.refl _ _).drew bS.out,HM.out.below (Below.refl _ _).drew⟩
   case yS=>
    delta Owed
    simp only [zBb,Act.put,List.setIfInBounds_toArray,lz,ls];refine Each.cons rfl ?_ (Each.cons rfl ?_ (Each.cons rfl ?_ (Each.cons rfl ?_ (Each.cons rfl ?_ (Each.cons rfl ?_ (Each.cons rfl ?_ (Each.cons rfl ?_ (Each.cons rfl ?_ (Each.cons rfl ?_ Each.nil)))))))))
    all_goals intro vs w2 aV hS2 hR2 K hK;try simp only [lz,ls] at hK⊢
    · go_simp;exact shP hK
    · go_simp;exact shP hK
    · go_simp;exact shP hK
    · have h2:vs 2=_:=exR (hR2 2 (by kernel_rfl)) (fun _ _ h=> h);have k1:=(zAb hS2.1).1 1 _ rfl;have kz:=(zAb hS2.2.row).1 k _ uT.out;simp only [h2] at hK⊢;go_simp;exact shP hK
    · go_simp;exact shP hK
    · go_simp;exact shP hK
    · have h4:vs 4=_:=exR (hR2 4 (by kernel_rfl)) (fun _ _ h=> h);have h5:vs 5=_:=exR (hR2 5 (by kernel_rfl)) (fun _ _ h=> h);have k1:=(zAb hS2.1).1 1 _ rfl;have kz:=(zAb hS2.2.row).1 k _ uT.out;simp only [h4,h5] at hK⊢;go_simp;exact shP hK
    · have h6:vs 6=_:=exR (hR2 6 (by kernel_rfl)) (fun _ _ h=> h);have k1:=(zAb hS2.1).1 1 _ rfl;have kz:=(zAb hS2.2.row).1 k _ uT.out;simp only [h6] at hK⊢;go_simp;exact shP hK
    · go_simp;exact shP hK
    · have h3:vs 3=_:=exR (hR2 3 (by kernel_rfl)) (fun _ _ h=> h);have h7:vs 7=_:=exR (hR2 7 (by kernel_rfl)) (fun _ _ h=> h);have h8:vs 8=_:=exR (hR2 8 (by kernel_rfl)) (fun _ _ h=> h);simp only [h3,h7,h8] at hK⊢;rw [if_pos (by rfl)];go_wp2_with (go_at_call 45;refine (psub_any z1 z2 s1 s2 _).mono ?_;rintro e w3 ⟨v,nn,rfl,he,r1,r2,rfl,aP⟩;subst he);exact hK.out _ _ (zAg (Below.refl _ _) nn) ⟨r1,r2,rfl,aP⟩
   case rB=>
    intro vs wx lo iB bK hSx hRx dN;have h0:vs 0=_:=(hRx 0 (by kernel_rfl)).1;have h1:vs 1=_:=(hRx 1 (by kernel_rfl)).1;have h2:vs 2=_:=(hRx 2 (by kernel_rfl)).1;have h3:vs 3=_:=(hRx 3 (by kernel_rfl)).1;have h4:vs 4=_:=(hRx 4 (by kernel_rfl)).1;have h5:vs 5=_:=(hRx 5 (by kernel_rfl)).1;have h6:vs 6=_:=(hRx 6 (by kernel_rfl)).1;have h7:vs 7=_:=(hRx 7 (by kernel_rfl)).1;have h8:vs 8=_:=(hRx 8 (by kernel_rfl)).1;have H9:=(hRx 9 (by kernel_rfl)).1;obtain ⟨r1,r2,h9,hz9⟩:=H9;simp only [zBb,Act.put,List.setIfInBounds_toArray,lz,ls,h0,h1,h2,h3,h4,h5,h6,h7,h8,h9];have hb:=zAt bK;have pF:=hid hz9;have HD:=hid (HM.out.below hb);have eM:=hid (zAf HG.out (zAe hb (some b)));clear hz9 bK hRx dN hSx hb HG HM;refine zAr (i:=10) (by kernel_rfl) rfl (fun K hK=> ?_);go_simp;refine hK.out _ _ ?_;clear hK;have fz:=(zAb HD.out.row).2 k;have cz:=(zAb HD.out.row).1 k _ uT.out;refine zAr (i:=11) (by kernel_rfl) rfl (fun K hK=> ?_);go_simp;refine hK.out _ _ ?_;clear hK fz cz;have kA:Hid (VecM (wx.setCell ⟨b,k,none⟩ (.complex .f64 r1 r2)) b n (upd r k (ck (r1,r2))) (M.set k (r1,r2))):=hid (HD.out.put HK.out (r1,r2));have eL:=hid (zAf eM.out (zAn wx b k (.complex .f64 r1 r2)));clear HD eM;have uB:=hid (show ck (r1,r2)=csub (r k) (fc s1,fc s2) by rw [←HZN.out];exact pF.out);generalize wx.setCell ⟨b,k,none⟩ (.complex .f64 r1 r2)=w3 at *;refine wpAny_done (by kernel_rfl) ?_ _;have z3:w3.cell? ⟨b,k,none⟩=some (.complex .f64 r1 r2):=by
     have h1:=(zAb kA.out.row).1 k _ (row_at (by rw [kA.out.len];exact HK.out));rw [List.getD_eq_getElem?_getD,List.getElem?_set_self (by have:=kA.out.len;rw [List.length_set] at this;rw [this];exact HK.out)] at h1;exact h1
    go_wp2_with (go_at_call 41;refine (zBk r1 r2 _).mono ?_;rintro e w4 ⟨v,nn4,rfl,he,rfl⟩;have cI:Below w3.heap.size w3 w4:=(by rw [he];exact zAg (Below.refl _ _) nn4);have sQ:=hid (kA.out.below cI);have HG5:=hid (zAf eL.out (zAe cI (some b)));clear kA eL he cI z3)
    (try rw [Exit.noGoto_ret])
    go_ret;refine ⟨by rw [←uB.out];rfl,⟨M.set k (r1,r2),?_⟩,HG5.out⟩;rw [←uB.out];exact sQ.out
 · have hf:has (nds l) t=false:=by simpa using hh
   have HS:=hid (show putS l r t (fun z=> csub z (fc s1,fc s2))=(r,true) by unfold putS;rw [if_neg hh]);clear hh;rw [HS.out];go_enter Tryz.func65,Tryz.ntmps65;go_upto_region 1 with fail;generalize w.alloc (.cells #[.string t,.func (.func 45) #[] #[]] 122)=w1 at *;generalize w.heap.size=eb at *;have e0:=(zAb bS.out).1 0 _ rfl;go_wp2_with (go_at_call 74;refine (zCy _ l t _ HP.out HT.out).mono ?_;rintro e wn ⟨rfl,rfl⟩;rw [hf])
   (try rw [Exit.noGoto_ret])
   go_ret;exact ⟨rfl,uZ.out,HG.out⟩
theorem putadd_any (p:Value) (l:List El) (b n:Nat) (r:Nat→Cx) (t:ByteArray) (s1 s2:Nat) (w:World) (hp:NN w p l) (hv:VecR w b n r) (ht:t.size≤maxLen) (hn:(nds l).length≤n) (oE:n≤4096):
 Calls Tryz.prog 65 #[p,.slice (some ⟨b,0,none⟩) n n,.agg #[.string t,.func (.func 66) #[] #[]],.complex .f64 s1 s2] w (RetPut b n (putS l r t fun z=> cadd z (fc s1,fc s2)) w):=by
 have aI:=(Below.refl w.heap.size w).alloc (Nat.le_refl _) (.cells #[.string t,.func (.func 66) #[] #[]] 122);have bS:=hid (heap_alloc_new w (.cells #[.string t,.func (.func 66) #[] #[]] 122));have HP:=hid (hp.below aI (Nat.le_refl _));have uZ:=hid (hv.below aI);have HG:=hid (zAe aI (some b));have HT:=hid ht;have HN:=hid hn;clear hp hv aI ht hn
 by_cases hh:has (nds l) t=true
 · have qU:plI (nds l) t < (nds l).length:=by
    unfold plI;rw [if_pos hh];have:(nds l).findIdx (fun u=> u.toList==t.toList) < (nds l).length:=by
     rw [List.findIdx_lt_length];have h1:=hh;unfold has at h1
     simpa using h1
    omega
   obtain ⟨k,hk⟩:∃k:Nat,plI (nds l) t=(k:Int):=by
    unfold plI;rw [if_pos hh];exact ⟨_,rfl⟩
   have HK:=hid (show k < n by rw [hk] at qU;have:=HN.out;omega);have HS:=hid (show putS l r t (fun z=> cadd z (fc s1,fc s2))=(upd r k (cadd (r k) (fc s1,fc s2)),cfin (cadd (r k) (fc s1,fc s2))) by unfold putS;rw [if_pos hh,hk];simp [zAm]);have eD:∀w',(Instr.indexAt 41 (.slice (some ⟨b,0,none⟩) n n) (.int .i64 k)).run Tryz.prog w'=.ok (.pointer (some ⟨b,k,none⟩)) w':=fun w'=> zEy HK.out w'
   have vK:=hid hk;clear qU hk;rw [HS.out];go_enter Tryz.func65,Tryz.ntmps65;go_upto_region 1 with fail;generalize w.alloc (.cells #[.string t,.func (.func 66) #[] #[]] 122)=w1 at *;generalize w.heap.size=eb at *;have e0:=(zAb bS.out).1 0 _ rfl;go_upto_region 4 with (go_at_call 74;refine (zCy _ l t _ HP.out HT.out).mono ?_;rintro e wn ⟨rfl,rfl⟩;rw [hh,vK.out]);clear e0 hh;obtain ⟨M,hM⟩:=uZ.out;have HM:=hid hM;have uT:=hid (row_at (k:=k) (M:=M) (by rw [hM.len];exact HK.out));have HZN:=hid (hM.num k HK.out);clear hM uZ;generalize M.getD k (0,0)=z at *;obtain ⟨z1,z2⟩:=z;refine wp_region_any (by kernel_rfl) ?_;change wpAny _ _ _ _ _ _ _ (World.drew _);refine zAx [⟨some 20,0, []⟩,⟨some 21,1, []⟩,⟨some 22,2, []⟩,⟨some 23,3, []⟩,⟨some 24,4, []⟩,⟨some 25,5, []⟩,⟨some 26,6, []⟩,⟨some 27,7, []⟩,⟨some 28,8, []⟩,⟨some 29,9, []⟩]
    (fun w'=> w'.heap[eb]? =some (.cells #[.string t,.func (.func 66) #[] #[]] 122 (0,0))∧VecM w' b n r M)
    (fun oq v _ _ _ _=> match oq with | 0=> v=.slice (some ⟨b,0,none⟩) n n | 1=> v=.int .i64 k | 2=> v=.pointer (some ⟨eb,1,none⟩) | 3=> v=.func (.func 66) #[] #[] | 4=> v=.slice (some ⟨b,0,none⟩) n n | 5=> v=.int .i64 k | 6=> v=.pointer (some ⟨b,k,none⟩) | 7=> v=.complex .f64 z1 z2 | 8=> v=.complex .f64 s1 s2 | 9=> ∃r1 r2,v=Value.complex .f64 r1 r2∧ck (r1,r2)=cadd (fc z1,fc z2) (fc s1,fc s2) | _=> True) (by kernel_rfl) ?hSp (fun _ _ hb h=> ⟨zAi hb h.1,h.2.below hb⟩) (fun _ _ _ _ _ _ _ _ _ h=> h) ?yS ?rB
   case hSp=> exact ⟨zAi (Below.refl _ _).drew bS.out,HM.out.below (Below.refl _ _).drew⟩
   case yS=>
    delta Owed
    simp only [zBb,Act.put,List.setIfInBounds_toArray,lz,ls];refine Each.cons rfl ?_ (Each.cons rfl ?_ (Each.cons rfl ?_ (Each.cons rfl ?_ (Each.cons rfl ?_ (Each.cons rfl ?_ (Each.cons rfl ?_ (Each.cons rfl ?_ (Each.cons rfl ?_ (Each.cons rfl ?_ Each.nil)))))))))
    all_goals intro vs w2 aV hS2 hR2 K hK;try simp only [lz,ls] at hK⊢
    · go_simp;exact shP hK
    · go_simp;exact shP hK
    · go_simp;exact shP hK
    · have h2:vs 2=_:=exR (hR2 2 (by kernel_rfl)) (fun _ _ h=> h);have k1:=(zAb hS2.1).1 1 _ rfl;have kz:=(zAb hS2.2.row).1 k _ uT.out;simp only [h2] at hK⊢;go_simp;exact shP hK
    · go_simp;exact shP hK
    · go_simp;exact shP hK
    · have h4:vs 4=_:=exR (hR2 4 (by kernel_rfl)) (fun _ _ h=> h);have h5:vs 5=_:=exR (hR2 5 (by kernel_rfl)) (fun _ _ h=> h);have k1:=(zAb hS2.1).1 1 _ rfl;have kz:=(zAb hS2.2.row).1 k _ uT.out;simp only [h4,h5] at hK⊢;go_simp;exact shP hK
    · have h6:vs 6=_:=exR (hR2 6 (by kernel_rfl)) (fun _ _ h=> h);have k1:=(zAb hS2.1).1 1 _ rfl;have kz:=(zAb hS2.2.row).1 k _ uT.out;simp only [h6] at hK⊢;go_simp;exact shP hK
    · go_simp;exact shP hK
    · have h3:vs 3=_:=exR (hR2 3 (by kernel_rfl)) (fun _ _ h=> h);have h7:vs 7=_:=exR (hR2 7 (by kernel_rfl)) (fun _ _ h=> h);have h8:vs 8=_:=exR (hR2 8 (by kernel_rfl)) (fun _ _ h=> h);simp only [h3,h7,h8] at hK⊢;rw [if_pos (by rfl)];go_wp2_with (go_at_call 66;refine (padd_any z1 z2 s1 s2 _).mono ?_;rintro e w3 ⟨v,nn,rfl,he,r1,r2,rfl,aP⟩;subst he);exact hK.out _ _ (zAg (Below.refl _ _) nn) ⟨r1,r2,rfl,aP⟩
   case rB=>
    intro vs wx lo iB bK hSx hRx dN;have h0:vs 0=_:=(hRx 0 (by kernel_rfl)).1;have h1:vs 1=_:=(hRx 1 (by kernel_rfl)).1;have h2:vs 2=_:=(hRx 2 (by kernel_rfl)).1;have h3:vs 3=_:=(hRx 3 (by kernel_rfl)).1;have h4:vs 4=_:=(hRx 4 (by kernel_rfl)).1;have h5:vs 5=_:=(hRx 5 (by kernel_rfl)).1;have h6:vs 6=_:=(hRx 6 (by kernel_rfl)).1;have h7:vs 7=_:=(hRx 7 (by kernel_rfl)).1;have h8:vs 8=_:=(hRx 8 (by kernel_rfl)).1;have H9:=(hRx 9 (by kernel_rfl)).1;obtain ⟨r1,r2,h9,hz9⟩:=H9;simp only [zBb,Act.put,List.setIfInBounds_toArray,lz,ls,h0,h1,h2,h3,h4,h5,h6,h7,h8,h9];have hb:=zAt bK;have pF:=hid hz9;have HD:=hid (HM.out.below hb);have eM:=hid (zAf HG.out (zAe hb (some b)));clear hz9 bK hRx dN hSx hb HG HM;refine zAr (i:=10) (by kernel_rfl) rfl (fun K hK=> ?_);go_simp;refine hK.out _ _ ?_;clear hK;have fz:=(zAb HD.out.row).2 k;have cz:=(zAb HD.out.row).1 k _ uT.out;refine zAr (i:=11) (by kernel_rfl) rfl (fun K hK=> ?_);go_simp;refine hK.out _ _ ?_;clear hK fz cz;have kA:Hid (VecM (wx.setCell ⟨b,k,none⟩ (.complex .f64 r1 r2)) b n (upd r k (ck (r1,r2))) (M.set k (r1,r2))):=hid (HD.out.put HK.out (r1,r2));have eL:=hid (zAf eM.out (zAn wx b k (.complex .f64 r1 r2)));clear HD eM;have uB:=hid (show ck (r1,r2)=cadd (r k) (fc s1,fc s2) by rw [←HZN.out];exact pF.out);generalize wx.setCell ⟨b,k,none⟩ (.complex .f64 r1 r2)=w3 at *;refine wpAny_done (by kernel_rfl) ?_ _;have z3:w3.cell? ⟨b,k,none⟩=some (.complex .f64 r1 r2):=by
     have h1:=(zAb kA.out.row).1 k _ (row_at (by rw [kA.out.len];exact HK.out));rw [List.getD_eq_getElem?_getD,List.getElem?_set_self (by have:=kA.out.len;rw [List.length_set] at this;rw [this];exact HK.out)] at h1;exact h1
    go_wp2_with (go_at_call 41;refine (zBk r1 r2 _).mono ?_;rintro e w4 ⟨v,nn4,rfl,he,rfl⟩;have cI:Below w3.heap.size w3 w4:=(by rw [he];exact zAg (Below.refl _ _) nn4);have sQ:=hid (kA.out.below cI);have HG5:=hid (zAf eL.out (zAe cI (some b)));clear kA eL he cI z3)
    (try rw [Exit.noGoto_ret])
    go_ret;refine ⟨by rw [←uB.out];rfl,⟨M.set k (r1,r2),?_⟩,HG5.out⟩;rw [←uB.out];exact sQ.out
 · have hf:has (nds l) t=false:=by simpa using hh
   have HS:=hid (show putS l r t (fun z=> cadd z (fc s1,fc s2))=(r,true) by unfold putS;rw [if_neg hh]);clear hh;rw [HS.out];go_enter Tryz.func65,Tryz.ntmps65;go_upto_region 1 with fail;generalize w.alloc (.cells #[.string t,.func (.func 66) #[] #[]] 122)=w1 at *;generalize w.heap.size=eb at *;have e0:=(zAb bS.out).1 0 _ rfl;go_wp2_with (go_at_call 74;refine (zCy _ l t _ HP.out HT.out).mono ?_;rintro e wn ⟨rfl,rfl⟩;rw [hf])
   (try rw [Exit.noGoto_ret])
   go_ret;exact ⟨rfl,uZ.out,HG.out⟩
end
end Go.Proofs.YtdepiggjneoopaaGreatDoor
