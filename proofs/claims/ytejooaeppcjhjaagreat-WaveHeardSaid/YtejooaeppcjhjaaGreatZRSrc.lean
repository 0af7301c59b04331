/- a part of the proof of the last text -/
import Derived.Test.YtejooaeppcjhjaaGreatZMRgt1
namespace Go.Proofs.YtejooaeppcjhjaaGreat
set_option linter.all false
set_option maxHeartbeats 4000000
set_option maxRecDepth 100000
open Go.RowKit
theorem rnone19_any (q:Value) (l:List El) (w:World) (hq:RN w q l):
 Calls Tryz.prog 164 #[q] w fun e w'=> e=.returned (.bool (zAw q))∧w'=w:=by
 rcases hq with ⟨rfl,rfl⟩ | ⟨g,v,rfl,h0,h1,_⟩
 · go_enter Tryz.func164,Tryz.ntmps164;go_wp2;go_ret;exact ⟨rfl,rfl⟩
 · go_enter Tryz.func164,Tryz.ntmps164;go_wp2;go_ret;exact ⟨rfl,rfl⟩
def RetVec (n:Nat) (w:World) (e:Ending) (w':World):Prop:=∃b,e=.returned (.slice (some ⟨b,0,none⟩) n n)∧VecR w' b n (fun _=> (fc 0,fc 0))∧w.heap.size≤b∧Below w.heap.size w w'
theorem rblank_any (q:Value) (l:List El) (n:Nat) (w:World) (hq:RN w q l) (hl:l.length≤100000) (hn:szL l=n) (hn64:n≤64):
 Calls Tryz.prog 165 #[q] w (RetVec n w):=by
 have hmk:=fun w'=> zHe n w' (by omega)
 have hwr:IntKind.i64.wrap (((nds l).length:Int)+((brs l).length:Int))=(n:Int):=by
  unfold szL at hn;rw [IntWalk.i64_in _ ⟨by omega,by omega⟩];omega
 have HQ:=hid hq;clear hq;go_enter Tryz.func165,Tryz.ntmps165;go_wp2_with (first | (go_at_call 22;refine (zCy q l _ HQ.out hl).mono ?_;rintro e w1 ⟨v,xs,rfl,hown,rfl,hb⟩;obtain ⟨a1,c1,rfl⟩:=(IsSl.of_own hown).form;have HB1:=hid hb;have HQ1:=hid (HQ.out.below hb (Nat.le_refl _));clear hown hb) | (go_at_call 67;refine (zHc q l _ HQ1.out hl).mono ?_;rintro e w2 ⟨v,xs,rfl,hown,rfl,hb⟩;obtain ⟨a2,c2,rfl⟩:=(IsSl.of_own hown).form;have HB2:=hid (zAd HB1.out hb);clear hown hb));go_ret;exact ⟨w2.heap.size,rfl,vec_new (heap_alloc_new _ _),HB2.out.size,zAd HB2.out ((Below.refl w2.heap.size w2).alloc (Nat.le_refl _) _)⟩
theorem el_cells19 {w:World} {a:Option Addr} {c g1 o1 k:Nat} {l:List El} {x:El} (ho:IsSl w 8 (.slice a l.length c) l.length (l.flatMap ea)) (hx:l[k]? =some x)
 (hidx:∀w',(Instr.indexAt 26 (.slice a l.length c) (.int .i64 k)).run Tryz.prog w'=.ok (.pointer (some ⟨g1,o1,none⟩)) w'):
 ∀ (q:Nat) (y:Value),(ea x)[q]? =some y→w.cell? ⟨g1,o1+q,none⟩=some y:=by
 obtain ⟨ie,hie,hi0,hi1,hi2⟩:=info_parts zFh;have hlt:=(List.getElem?_eq_some_iff.1 hx).1;obtain ⟨g2,o2,y,hidx2,hg,hy,hcell⟩:=IsSl.atF Tryz.underlying26 hie hi1 ea_len ho rfl hlt;obtain rfl:=Option.some.inj (hx.symm.trans hy);have h:=(hidx w).symm.trans (hidx2 w)
 injection h with h1 h2
 injection h1 with h3
 injection h3 with h4
 injection h4 with h5 h6
 subst h5 h6;exact hcell
theorem VecM.store {w:World} {b n k r1 r2:Nat} {r:Nat→Cx} {M:List Cx} {c:Cx} (h:VecM w b n r M) (hk:k < n) (hz:ck (r1,r2)=c):VecR (w.setCell ⟨b,k,none⟩ (.complex .f64 r1 r2)) b n (upd r k c):=by
 subst hz;exact ⟨_,h.put hk (r1,r2)⟩
theorem rgt4 {l:List El} {r:Nat→Cx} {x:El} {c:Cx} (hc:zBc x=0) (h4:x.kind=4) (hs:(srcS x).1=c):(rgtS l r x).1=(putS l (putS l r x.a fun z=> csub z c).1 x.b fun z=> cadd z c).1:=by
 have h0:(srcS x).2=0:=by rw [src_yes hc (by rw [h4];rfl)]
 unfold rgtS;rw [if_neg (fun h=> h h0),if_neg (by rw [h4];decide),hs]
theorem rgt5 {l:List El} {r:Nat→Cx} {x:El} {c:Cx} (hc:zBc x=0) (h5:x.kind=5) (hs:(srcS x).1=c):(rgtS l r x).1=upd r (brAt l x) c:=by
 have h0:(srcS x).2=0:=by rw [src_yes hc (by rw [h5];rfl)]
 unfold rgtS;rw [if_neg (fun h=> h h0),if_pos h5,hs]
theorem rgtO {l:List El} {r:Nat→Cx} {x:El} (hc:zBc x=0) (h4:¬x.kind=4) (h5:¬x.kind=5):(rgtS l r x).1=r:=by
 have h0:(srcS x).2=2:=by rw [src_no hc (by simp [h4,h5])]
 unfold rgtS;rw [if_pos (by rw [h0];decide)]
theorem put_yes {l:List El} {r:Nat→Cx} {s:ByteArray} {f:Cx→Cx} {k:Nat} (hh:has (nds l) s=true) (hk:plI (nds l) s=(k:Int)):(putS l r s f).1=upd r k (f (r k)):=by
 unfold putS;rw [if_pos hh,hk];rfl
theorem put_no {l:List El} {r:Nat→Cx} {s:ByteArray} {f:Cx→Cx} (hh:has (nds l) s=false):(putS l r s f).1=r:=by
 unfold putS;rw [if_neg (by rw [hh];decide)]
theorem pl_nat {l:List ByteArray} {s:ByteArray} (hh:has l s=true):∃k:Nat,plI l s=(k:Int)∧k < l.length:=
 ⟨(plI l s).toNat,by have:=plI_nn l s;omega,plI_lt' hh⟩
theorem brp_lt {l:List El} (hu:Uniq l) {k:Nat} {x:El} (hx:l[k]? =some x) (hb:isBr x=true):(brs (l.take k)).length < (brs l).length:=by
 obtain ⟨h1,h2⟩:=br_index hu hx hb;have:=plI_lt' h1;rw [h2] at this
 simpa using this
theorem ab_ne {x:El} (h:zBc x=0) (hk:isK x.kind=true):x.a≠x.b:=by
 intro e;have:zEt x=true:=by unfold zEt;rw [e];simp
 unfold zBc at h;rw [if_pos hk,this] at h
 split at h <;> simp at h
theorem isK_of {x:El} (h:zBc x=0):isK x.kind=true:=by
 unfold zBc at h
 split at h
 · assumption
 · simp at h
theorem rright_any (q:Value) (l:List El) (w:World) (hq:RN w q l) (hl:l.length≤100000) (hok:∀x∈l,x.Ok) (hck:∀x∈l,zBc x=0) (hu:Uniq l) (hsz:szL l≤64):
 Calls Tryz.prog 132 #[q] w (zGq (rgtE (zAw q) l) w):=by
 have hbw:=(Below.refl w.heap.size w).alloc (Nat.le_refl _) (.cells #[.int .i64 0,.int .i64 0] 32);have HP:=hid (hq.below hbw (Nat.le_refl _));have HBW:=hid hbw;have HZ:=hid (heap_alloc_new w (.cells #[.int .i64 0,.int .i64 0] 32));have HS1:=hid (show (w.alloc (.cells #[.int .i64 0,.int .i64 0] 32)).heap.size=w.heap.size+1 by simp);have HLE:=hid hl;have HOK:=hid hok;have HCK:=hid hck;have HU:=hid hu;have HSZ:=hid hsz;clear hq hbw hok hck hsz hu;cases hn:zAw q
 · have HN:=hid hn;clear hn;obtain ⟨n,hnn⟩:∃n,szL l=n:=⟨_,rfl⟩;have HNN:=hid hnn;have HN64:=hid (show n≤64 by rw [←hnn];exact HSZ.out);clear hnn;go_enter Tryz.func132,Tryz.ntmps132;go_upto_region 1 with fail;generalize w.alloc (.cells #[.int .i64 0,.int .i64 0] 32)=w0 at *;go_upto_region 4 with (first | (go_at_call 164;refine (rnone19_any q l _ HP.out).mono ?_;rintro e wn ⟨rfl,h⟩;subst h;rw [HN.out]) | (go_at_call 165;refine (rblank_any q l n _ HP.out HLE.out HNN.out HN64.out).mono ?_;rintro e w2 ⟨b,rfl,hv,hge,hb⟩;have HV2:=hid hv;have HBG:=hid (show w.heap.size+1≤b by have:=HS1.out;omega);have HP2:=hid (HP.out.below hb (Nat.le_refl _));have HB2:=hid (zAd HBW.out hb);have HZ2:=hid (zAm hb HZ.out);have HQ0:=hid (show∃wq:World,RN wq q l∧wq.heap.size≤b∧Below wq.heap.size wq w2 from ⟨_,HP.out,hge,hb⟩);clear hv hge hb HBW HZ HS1 HP));go_upto_region 5 with (go_at_call 22;refine (zCy q l _ HP2.out HLE.out).mono ?_;rintro e w3 ⟨v,xs,rfl,hown,rfl,hb⟩;obtain ⟨a3,c3,rfl⟩:=(IsSl.of_own hown).form;have HV3:=hid (HV2.out.below hb);have HP3:=hid (HP2.out.below hb (Nat.le_refl _));have HB3:=hid (zAd HB2.out hb);have HZ3:=hid (zAm hb HZ2.out);have HQ3:=hid (show∃wq:World,RN wq q l∧wq.heap.size≤b∧Below wq.heap.size wq w3 from (by obtain ⟨wq,h1,h2,h3⟩:=HQ0.out;exact ⟨wq,h1,h2,zAd h3 hb⟩));clear hown hb HV2 HP2 HB2 HZ2 HQ0);go_wp2_with (go_at_call 66;refine (zFk q l _ HP3.out (by have:=HLE.out;omega)).mono ?_;rintro e w4 ⟨v0,xs,rfl,hown,rfl,hb⟩;obtain ⟨a0,c0,rfl⟩:=(IsSl.of_own hown).form;have HE:=hid hown;have HV4:=hid (HV3.out.below hb);have HB4:=hid (zAd HB3.out hb);have HZ4:=hid (zAm hb HZ3.out);have HQ4:=hid (show∃wq:World,RN wq q l∧wq.heap.size≤b∧Below wq.heap.size wq w4 from (by obtain ⟨wq,h1,h2,h3⟩:=HQ3.out;exact ⟨wq,h1,h2,zAd h3 hb⟩));have HDB:=hid (show (Value.slice a0 l.length c0).ownBlock≠some b from fun e=> by obtain ⟨M,hM⟩:=HV3.out;have h1:=(World.ownsRow.lt hown b e).1;have h2:=(Array.getElem?_eq_some_iff.1 hM.row).1;omega);clear hown hb HV3 HP3 HB3 HZ3 HQ3)
   obtain ⟨ie,hie,hi0,hi1,hi2⟩:=info_parts zFh;have KO:=hid (show∀W:World,w4.grownBy W (some b)→W.ownsRow w3.heap.size 48 8 (.slice a0 l.length c0) l.length (l.flatMap ea) from fun W h=> zAz HE.out h (fun r e e2=> by cases e2;exact HDB.out e));have KB:=hid (show∀W:World,w4.grownBy W (some b)→Below w.heap.size w W from fun W h=> HB4.out.grown h HB4.out.size (fun r e=> by cases e;have:=HBG.out;omega));have KZ:=hid (show∀W:World,w4.grownBy W (some b)→W.heap[w.heap.size]? =some (.cells #[.int .i64 0,.int .i64 0] 32 (0,0)) from fun W h=> zAk h (by have:=HBG.out;omega) HZ4.out);have KQ:=hid (show∀W:World,w4.grownBy W (some b)→RN W q l from fun W h=> by obtain ⟨wq,h1,h2,h3⟩:=HQ4.out;exact h1.below (h3.grown h h3.size (fun r e=> by cases e;exact h2)) (Nat.le_refl _));have HND:=hid (show (nds l).length≤n by rw [←HNN.out];unfold szL;omega);have hbl:=brs_len l;have hnl:=zEc l;clear HE HB4 HZ4 HQ4 HDB
   go_loopw [5,7] (fun t5 i wr=> ∃k tb:Nat,k≤l.length∧i=.int .i64 k∧t5=.int .i64 tb∧tb=(nds l).length+(brs (l.take k)).length∧VecR wr b n (rgtK l k)∧w4.grownBy wr (some b)∧∀ (i:Nat) (x:El),i < k→l[i]? =some x→(rgtS l (rgtK l i) x).2=true) (fun _ i _=> l.length - (intOf i).toNat)
   case atStart=> exact ⟨0,(nds l).length,Nat.zero_le _,rfl,rfl,by simp [brs],HV4.out,World.grownBy.refl _ _,fun i x hi=> absurd hi (Nat.not_lt_zero _)⟩
   case round=>
    obtain ⟨k,tb,hk,rfl,rfl,htb,hv,hgr,hst⟩:=hrel;have HTB:=hid htb;have HV:=hid hv;have HG:=hid hgr;have HST:=hid hst;clear htb hv hgr hst HV4
    by_cases hlt:k < l.length
    · obtain ⟨g1,o1,x,hidx,hg,hx,hcell⟩:=IsSl.atF Tryz.underlying26 hie hi1 ea_len (IsSl.of_own (KO.out _ HG.out)) rfl hlt;have HX:=hid hx;have hxm:=List.mem_of_getElem? hx;have HXOK:=hid (HOK.out x hxm);have HXC:=hid (HCK.out x hxm);have HK1:=hid (show k+1≤l.length from hlt);have htl:=brs_take_len l k;have KC:=hid (show∀W:World,w4.grownBy W (some b)→∀ (q:Nat) (y:Value),(ea x)[q]? =some y→W.cell? ⟨g1,o1+q,none⟩=some y from fun W h=> el_cells19 (IsSl.of_own (KO.out W h)) HX.out hidx);clear hcell hg hx hxm;refine wp_gen3 ?_;intro QQ HQN HQR HQE;have e0:_=some (Value.int .u8 x.kind):=KC.out _ HG.out 0 _ rfl;have e1:=KC.out _ HG.out 1 _ rfl;have e2:=KC.out _ HG.out 2 _ rfl;have e3:=KC.out _ HG.out 3 _ rfl;have e4:=KC.out _ HG.out 4 _ rfl;have e5:=KC.out _ HG.out 5 _ rfl;have e6:=KC.out _ HG.out 6 _ rfl;have e7:=KC.out _ HG.out 7 _ rfl;rw [Nat.add_zero] at e0;go_upto_region 10 with (go_at_call 166;refine (rphasor19_any x _ HXOK.out).mono ?_;rintro e w6 ⟨v,rfl,hb,y1,y2,er,rfl,hz⟩;have HER:=hid (congrArg Prod.snd hz);have HY:=hid (congrArg Prod.fst hz);have HV6:=hid (HV.out.below hb);have HG6:=hid (zAf HG.out (zAe hb (some b)));clear hz hb HV HG e0 e1 e2 e3 e4 e5 e6 e7);have e2:=KC.out _ HG6.out 2 _ rfl;go_upto_region 11 with (go_at_call 32;refine (zEv q l x.a _ (KQ.out _ HG6.out) HLE.out).mono ?_;rintro e w7 ⟨rfl,hb⟩;have HV7:=hid (HV6.out.below hb);have HG7:=hid (zAf HG6.out (zAe hb (some b)));clear hb HV6 HG6 e2);have e3:=KC.out _ HG7.out 3 _ rfl;go_upto_region 12 with (go_at_call 32;refine (zEv q l x.b _ (KQ.out _ HG7.out) HLE.out).mono ?_;rintro e w8 ⟨rfl,hb⟩;have HV8:=hid (HV7.out.below hb);have HG8:=hid (zAf HG7.out (zAe hb (some b)));clear hb HV7 HG7 e3);have HB5:=hid (show x.kind=5→brAt l x < n from fun h=> by
       have h1:=brp_lt HU.out HX.out (show isBr x=true by unfold isBr;rw [h];rfl);obtain ⟨_,h2⟩:=br_index HU.out HX.out (show isBr x=true by unfold isBr;rw [h];rfl);unfold brAt;rw [h2,←HNN.out];unfold szL;simp;omega)
      have htbn:tb≤200000:=by have h1:=HTB.out;have h2:=HND.out;have h3:=HN64.out;have h4:=HK1.out;have h5:=HLE.out;omega
      by_cases hk4:x.kind=4
      · obtain rfl:er=0:=HER.out.trans (by rw [src_yes HXC.out (by rw [hk4];rfl)]);have HY4:=hid (show (srcS x).1=(fc y1,fc y2) from HY.out.symm);have HK4:=hid hk4;have HBRX:=hid (show¬isBr x=true by unfold isBr;rw [hk4];decide);have k4:(x.kind==4)=true:=by rw [hk4];rfl
        have k5:(x.kind==5)=false:=by rw [hk4];rfl
        have k7:(x.kind==7)=false:=by rw [hk4];rfl
        clear hk4;cases ha:has (nds l) x.a
        · have HNA:=hid ha;clear ha;cases hb2:has (nds l) x.b
          · have HNB:=hid hb2;clear hb2;have e0:w8.cell? ⟨g1,o1,none⟩=some (.int .u8 x.kind):=KC.out _ HG8.out 0 _ rfl;go_upto_region 22 with fail;clear e0;have HEQ:=hid (show (rgtS l (rgtK l k) x).1=(rgtK l k) from by rw [rgt4 HXC.out HK4.out HY4.out,put_no HNA.out,put_no HNB.out]);have HVF:Hid (VecR w8 b n (rgtS l (rgtK l k) x).1):=hid (by rw [HEQ.out];exact HV8.out);have HGF:=hid HG8.out;clear HV8 HG8 HEQ;generalize w8=wF at *;have HTN:=hid (show tb=(nds l).length+(brs (l.take (k+1))).length by rw [HTB.out,zCv HX.out,if_neg HBRX.out];omega)
            go_loopw [14] (fun i wr=> ∃j:Nat,j≤n∧i=.int .i64 j∧Below wF.heap.size wF wr∧∀q,q < j→cfin ((rgtS l (rgtK l k) x).1 q)=true) (fun i _=> n - (intOf i).toNat)
            case atStart=> exact ⟨0,Nat.zero_le _,rfl,Below.refl _ _,fun q hq=> absurd hq (Nat.not_lt_zero _)⟩
            case round=>
             obtain ⟨j,hj,rfl,hbj,hfj⟩:=hrel;have HVJ:=hid (HVF.out.below hbj);have HGJ:=hid (zAf HGF.out (zAe hbj (some b)));have HBJ:=hid hbj;have HFJ:=hid hfj;clear hbj hfj
             by_cases hjn:j < n
             · have HJ:=hid hjn;obtain ⟨MJ,hMJ⟩:=HVJ.out;have HZN:=hid (hMJ.num j hjn);have cz:=(zAa hMJ.row).1 j _ (zBy (by rw [hMJ.len];exact hjn));clear hMJ HVJ;generalize hzj:MJ.getD j (0,0)=zj at *;clear hzj;obtain ⟨za,zb⟩:=zj;have hat:∀w',(Instr.indexAt 70 (.slice (some ⟨b,0,none⟩) n n) (.int .i64 j)).run Tryz.prog w'=.ok (.pointer (some ⟨b,j,none⟩)) w':=fun w'=> zBq HJ.out w'
               cases hfn:cfin (fc za,fc zb)
               · have HFN:=hid (show cfin ((rgtS l (rgtK l k) x).1 j)=false by rw [←HZN.out];exact hfn);have HZR:=hid (KZ.out _ HGJ.out);have HBR:=hid (KB.out _ HGJ.out);go_upto_region 25 with (go_at_call 35;refine (zBp za zb _).mono ?_;rintro e wf ⟨v,nn,rfl,he,rfl⟩;rw [hfn];have hb:Below wr.heap.size wr wf:=(by rw [he];exact zAg (Below.refl _ _) nn);have HZF:=hid (zAm hb HZR.out);have HBF:=hid (zAd HBR.out hb);clear he hb);have z0:=(zAa HZF.out).1 0 _ rfl;have z1:=(zAa HZF.out).1 1 _ rfl;have f0:=(zAa HZF.out).2 0;have f1:=(zAa HZF.out).2 1;go_wp2_with fail
                 (try simp only [Exit.inBlock,Exit.then])
                 refine HQR _ _ ?_;refine bodyPost_ret (v:=.tuple #[.slice none 0 0,.agg #[.int .i64 6,.int .i64 k]]) ?_ rfl (zGq.bad (zEi HX.out HST.out ?_) ?_)
                 · rw [zAi rfl];go_simp
                 · cases h:(rgtS l (rgtK l k) x).2
                   · rfl
                   · have h2:=zGe (n:=n) (zGf (by have:=HK1.out;omega) HST.out) h j HJ.out;rw [HFN.out] at h2;cases h2
                 · repeat (first | with_reducible exact HBF.out | with_reducible refine Below.setCell ?_ (by dsimp only;omega) _)
               · have HFN:=hid (show cfin ((rgtS l (rgtK l k) x).1 j)=true by rw [←HZN.out];exact hfn);have hn64:=HN64.out;go_wp2_with (go_at_call 35;refine (zBp za zb _).mono ?_;rintro e wf ⟨v,nn,rfl,he,rfl⟩;rw [hfn];have HBF:=hid (zAd HBJ.out (by rw [he];exact zAg (Below.refl _ _) nn:Below wr.heap.size wr wf));clear he);go_roundw
                 case rel=> exact ⟨j+1,hjn,by go_num,HBF.out,fun q hq=> by rcases Nat.lt_succ_iff_lt_or_eq.1 hq with h | h;exact HFJ.out q h;subst h;exact HFN.out⟩
                 case measure=> simp [intOf];omega
             · obtain rfl:j=n:=by omega
               have HOKX:=hid (show (rgtS l (rgtK l k) x).2=true by
                cases h:(rgtS l (rgtK l k) x).2
                · obtain ⟨q,hq,h2⟩:=zHa HND.out HB5.out (ab_ne HXC.out (isK_of HXC.out)) h;rw [HFJ.out q hq] at h2;cases h2
                · rfl)
               have hll:=HLE.out;go_wp2_with fail;refine HQN _ _ ?_;go_wp2;go_roundw
               case rel=> exact ⟨k+1,tb,HK1.out,by go_num,by go_num,HTN.out,by rw [zDf HX.out];exact HVJ.out,HGJ.out,fun i y hi hy=> by
                rcases Nat.lt_succ_iff_lt_or_eq.1 hi with h | h
                · exact HST.out i y h hy
                · subst h;obtain rfl:=Option.some.inj (HX.out.symm.trans hy);exact HOKX.out⟩
               case measure=> have:=HK1.out;simp [intOf];omega
          · obtain ⟨kb,hkb,hkb2⟩:=pl_nat hb2;rw [hkb];have HBH:=hid hb2;have HBK:=hid hkb;have HKB:=hid (Nat.lt_of_lt_of_le hkb2 HND.out);clear hb2 hkb hkb2;have e0:w8.cell? ⟨g1,o1,none⟩=some (.int .u8 x.kind):=KC.out _ HG8.out 0 _ rfl;go_upto_region 16 with fail;clear e0;obtain ⟨MwB,hMwB⟩:=HV8.out;have HMwB:=hid hMwB;have HZCwB:=hid (zBy (k:=kb) (M:=MwB) (by rw [hMwB.len];exact HKB.out));have HZNwB:=hid (hMwB.num kb HKB.out);clear hMwB HV8;generalize hzwB:MwB.getD kb (0,0)=zwB at *;clear hzwB;obtain ⟨zawB,zbwB⟩:=zwB;have cz:=(zAa HMwB.out.row).1 kb _ HZCwB.out;have hat:∀w',(Instr.indexAt 70 (.slice (some ⟨b,0,none⟩) n n) (.int .i64 kb)).run Tryz.prog w'=.ok (.pointer (some ⟨b,kb,none⟩)) w':=fun w'=> zBq HKB.out w'
            go_upto_region 17 with (go_at_call 167;refine (radd_any zawB zbwB y1 y2 _).mono ?_;rintro e wswB ⟨v,nn,rfl,he,r1wB,r2wB,rfl,hzz⟩;have hb:Below w8.heap.size w8 wswB:=(by rw [he];exact zAg (Below.refl _ _) nn);have HDwB:=hid (HMwB.out.below hb);have HSwB:=hid (zAf HG8.out (zAe hb (some b)));have HQwB:=hid hzz;clear hzz he hb cz HMwB HG8;have cz:=(zAa HDwB.out.row).1 kb _ HZCwB.out;have fz:=(zAa HDwB.out.row).2 kb);have HVwB:=hid (HDwB.out.store HKB.out (c:=cadd ((rgtK l k) kb) (fc y1,fc y2)) (by rw [←HZNwB.out];exact HQwB.out));have HGwB:=hid (zAf HSwB.out (zAj wswB b kb (.complex .f64 r1wB r2wB)));clear cz fz HDwB HSwB HQwB HZCwB HZNwB hat
            generalize wswB.setCell ⟨b,kb,none⟩ (.complex .f64 r1wB r2wB)=wB at *;have e0:wB.cell? ⟨g1,o1,none⟩=some (.int .u8 x.kind):=KC.out _ HGwB.out 0 _ rfl;go_upto_region 22 with fail;clear e0;have HEQ:=hid (show (rgtS l (rgtK l k) x).1=(upd (rgtK l k) kb (cadd ((rgtK l k) kb) (fc y1,fc y2))) from by rw [rgt4 HXC.out HK4.out HY4.out,put_no HNA.out,put_yes HBH.out HBK.out]);have HVF:Hid (VecR wB b n (rgtS l (rgtK l k) x).1):=hid (by rw [HEQ.out];exact HVwB.out);have HGF:=hid HGwB.out;clear HVwB HGwB HEQ;generalize wB=wF at *;have HTN:=hid (show tb=(nds l).length+(brs (l.take (k+1))).length by rw [HTB.out,zCv HX.out,if_neg HBRX.out];omega)
            go_loopw [14] (fun i wr=> ∃j:Nat,j≤n∧i=.int .i64 j∧Below wF.heap.size wF wr∧∀q,q < j→cfin ((rgtS l (rgtK l k) x).1 q)=true) (fun i _=> n - (intOf i).toNat)
            case atStart=> exact ⟨0,Nat.zero_le _,rfl,Below.refl _ _,fun q hq=> absurd hq (Nat.not_lt_zero _)⟩
            case round=>
             obtain ⟨j,hj,rfl,hbj,hfj⟩:=hrel;have HVJ:=hid (HVF.out.below hbj);have HGJ:=hid (zAf HGF.out (zAe hbj (some b)));have HBJ:=hid hbj;have HFJ:=hid hfj;clear hbj hfj
             by_cases hjn:j < n
             · have HJ:=hid hjn;obtain ⟨MJ,hMJ⟩:=HVJ.out;have HZN:=hid (hMJ.num j hjn);have cz:=(zAa hMJ.row).1 j _ (zBy (by rw [hMJ.len];exact hjn));clear hMJ HVJ;generalize hzj:MJ.getD j (0,0)=zj at *;clear hzj;obtain ⟨za,zb⟩:=zj;have hat:∀w',(Instr.indexAt 70 (.slice (some ⟨b,0,none⟩) n n) (.int .i64 j)).run Tryz.prog w'=.ok (.pointer (some ⟨b,j,none⟩)) w':=fun w'=> zBq HJ.out w'
               cases hfn:cfin (fc za,fc zb)
               · have HFN:=hid (show cfin ((rgtS l (rgtK l k) x).1 j)=false by rw [←HZN.out];exact hfn);have HZR:=hid (KZ.out _ HGJ.out);have HBR:=hid (KB.out _ HGJ.out);go_upto_region 25 with (go_at_call 35;refine (zBp za zb _).mono ?_;rintro e wf ⟨v,nn,rfl,he,rfl⟩;rw [hfn];have hb:Below wr.heap.size wr wf:=(by rw [he];exact zAg (Below.refl _ _) nn);have HZF:=hid (zAm hb HZR.out);have HBF:=hid (zAd HBR.out hb);clear he hb);have z0:=(zAa HZF.out).1 0 _ rfl;have z1:=(zAa HZF.out).1 1 _ rfl;have f0:=(zAa HZF.out).2 0;have f1:=(zAa HZF.out).2 1;go_wp2_with fail
                 (try simp only [Exit.inBlock,Exit.then])
                 refine HQR _ _ ?_;refine bodyPost_ret (v:=.tuple #[.slice none 0 0,.agg #[.int .i64 6,.int .i64 k]]) ?_ rfl (zGq.bad (zEi HX.out HST.out ?_) ?_)
                 · rw [zAi rfl];go_simp
                 · cases h:(rgtS l (rgtK l k) x).2
                   · rfl
                   · have h2:=zGe (n:=n) (zGf (by have:=HK1.out;omega) HST.out) h j HJ.out;rw [HFN.out] at h2;cases h2
                 · repeat (first | with_reducible exact HBF.out | with_reducible refine Below.setCell ?_ (by dsimp only;omega) _)
               · have HFN:=hid (show cfin ((rgtS l (rgtK l k) x).1 j)=true by rw [←HZN.out];exact hfn);have hn64:=HN64.out;go_wp2_with (go_at_call 35;refine (zBp za zb _).mono ?_;rintro e wf ⟨v,nn,rfl,he,rfl⟩;rw [hfn];have HBF:=hid (zAd HBJ.out (by rw [he];exact zAg (Below.refl _ _) nn:Below wr.heap.size wr wf));clear he);go_roundw
                 case rel=> exact ⟨j+1,hjn,by go_num,HBF.out,fun q hq=> by rcases Nat.lt_succ_iff_lt_or_eq.1 hq with h | h;exact HFJ.out q h;subst h;exact HFN.out⟩
                 case measure=> simp [intOf];omega
             · obtain rfl:j=n:=by omega
               have HOKX:=hid (show (rgtS l (rgtK l k) x).2=true by
                cases h:(rgtS l (rgtK l k) x).2
                · obtain ⟨q,hq,h2⟩:=zHa HND.out HB5.out (ab_ne HXC.out (isK_of HXC.out)) h;rw [HFJ.out q hq] at h2;cases h2
                · rfl)
               have hll:=HLE.out;go_wp2_with fail;refine HQN _ _ ?_;go_wp2;go_roundw
               case rel=> exact ⟨k+1,tb,HK1.out,by go_num,by go_num,HTN.out,by rw [zDf HX.out];exact HVJ.out,HGJ.out,fun i y hi hy=> by
                rcases Nat.lt_succ_iff_lt_or_eq.1 hi with h | h
                · exact HST.out i y h hy
                · subst h;obtain rfl:=Option.some.inj (HX.out.symm.trans hy);exact HOKX.out⟩
               case measure=> have:=HK1.out;simp [intOf];omega
        · obtain ⟨ka,hka,hka2⟩:=pl_nat ha;rw [hka];have HAH:=hid ha;have HAK:=hid hka;have HKA:=hid (Nat.lt_of_lt_of_le hka2 HND.out);clear ha hka hka2;have e0:w8.cell? ⟨g1,o1,none⟩=some (.int .u8 x.kind):=KC.out _ HG8.out 0 _ rfl;go_upto_region 14 with fail;clear e0;obtain ⟨MwA,hMwA⟩:=HV8.out;have HMwA:=hid hMwA;have HZCwA:=hid (zBy (k:=ka) (M:=MwA) (by rw [hMwA.len];exact HKA.out));have HZNwA:=hid (hMwA.num ka HKA.out);clear hMwA HV8;generalize hzwA:MwA.getD ka (0,0)=zwA at *;clear hzwA;obtain ⟨zawA,zbwA⟩:=zwA;have cz:=(zAa HMwA.out.row).1 ka _ HZCwA.out;have hat:∀w',(Instr.indexAt 70 (.slice (some ⟨b,0,none⟩) n n) (.int .i64 ka)).run Tryz.prog w'=.ok (.pointer (some ⟨b,ka,none⟩)) w':=fun w'=> zBq HKA.out w'
          go_upto_region 15 with (go_at_call 50;refine (rsub_any zawA zbwA y1 y2 _).mono ?_;rintro e wswA ⟨v,nn,rfl,he,r1wA,r2wA,rfl,hzz⟩;have hb:Below w8.heap.size w8 wswA:=(by rw [he];exact zAg (Below.refl _ _) nn);have HDwA:=hid (HMwA.out.below hb);have HSwA:=hid (zAf HG8.out (zAe hb (some b)));have HQwA:=hid hzz;clear hzz he hb cz HMwA HG8;have cz:=(zAa HDwA.out.row).1 ka _ HZCwA.out;have fz:=(zAa HDwA.out.row).2 ka);have HVwA:=hid (HDwA.out.store HKA.out (c:=csub ((rgtK l k) ka) (fc y1,fc y2)) (by rw [←HZNwA.out];exact HQwA.out));have HGwA:=hid (zAf HSwA.out (zAj wswA b ka (.complex .f64 r1wA r2wA)));clear cz fz HDwA HSwA HQwA HZCwA HZNwA hat
          generalize wswA.setCell ⟨b,ka,none⟩ (.complex .f64 r1wA r2wA)=wA at *;cases hb2:has (nds l) x.b
          · have HNB:=hid hb2;clear hb2;have e0:wA.cell? ⟨g1,o1,none⟩=some (.int .u8 x.kind):=KC.out _ HGwA.out 0 _ rfl;go_upto_region 22 with fail;clear e0;have HEQ:=hid (show (rgtS l (rgtK l k) x).1=(upd (rgtK l k) ka (csub (rgtK l k ka) (fc y1,fc y2))) from by rw [rgt4 HXC.out HK4.out HY4.out,put_yes HAH.out HAK.out,put_no HNB.out]);have HVF:Hid (VecR wA b n (rgtS l (rgtK l k) x).1):=hid (by rw [HEQ.out];exact HVwA.out);have HGF:=hid HGwA.out;clear HVwA HGwA HEQ;generalize wA=wF at *;have HTN:=hid (show tb=(nds l).length+(brs (l.take (k+1))).length by rw [HTB.out,zCv HX.out,if_neg HBRX.out];omega)
            go_loopw [14] (fun i wr=> ∃j:Nat,j≤n∧i=.int .i64 j∧Below wF.heap.size wF wr∧∀q,q < j→cfin ((rgtS l (rgtK l k) x).1 q)=true) (fun i _=> n - (intOf i).toNat)
            case atStart=> exact ⟨0,Nat.zero_le _,rfl,Below.refl _ _,fun q hq=> absurd hq (Nat.not_lt_zero _)⟩
            case round=>
             obtain ⟨j,hj,rfl,hbj,hfj⟩:=hrel;have HVJ:=hid (HVF.out.below hbj);have HGJ:=hid (zAf HGF.out (zAe hbj (some b)));have HBJ:=hid hbj;have HFJ:=hid hfj;clear hbj hfj
             by_cases hjn:j < n
             · have HJ:=hid hjn;obtain ⟨MJ,hMJ⟩:=HVJ.out;have HZN:=hid (hMJ.num j hjn);have cz:=(zAa hMJ.row).1 j _ (zBy (by rw [hMJ.len];exact hjn));clear hMJ HVJ;generalize hzj:MJ.getD j (0,0)=zj at *;clear hzj;obtain ⟨za,zb⟩:=zj;have hat:∀w',(Instr.indexAt 70 (.slice (some ⟨b,0,none⟩) n n) (.int .i64 j)).run Tryz.prog w'=.ok (.pointer (some ⟨b,j,none⟩)) w':=fun w'=> zBq HJ.out w'
               cases hfn:cfin (fc za,fc zb)
               · have HFN:=hid (show cfin ((rgtS l (rgtK l k) x).1 j)=false by rw [←HZN.out];exact hfn);have HZR:=hid (KZ.out _ HGJ.out);have HBR:=hid (KB.out _ HGJ.out);go_upto_region 25 with (go_at_call 35;refine (zBp za zb _).mono ?_;rintro e wf ⟨v,nn,rfl,he,rfl⟩;rw [hfn];have hb:Below wr.heap.size wr wf:=(by rw [he];exact zAg (Below.refl _ _) nn);have HZF:=hid (zAm hb HZR.out);have HBF:=hid (zAd HBR.out hb);clear he hb);have z0:=(zAa HZF.out).1 0 _ rfl;have z1:=(zAa HZF.out).1 1 _ rfl;have f0:=(zAa HZF.out).2 0;have f1:=(zAa HZF.out).2 1;go_wp2_with fail
                 (try simp only [Exit.inBlock,Exit.then])
                 refine HQR _ _ ?_;refine bodyPost_ret (v:=.tuple #[.slice none 0 0,.agg #[.int .i64 6,.int .i64 k]]) ?_ rfl (zGq.bad (zEi HX.out HST.out ?_) ?_)
                 · rw [zAi rfl];go_simp
                 · cases h:(rgtS l (rgtK l k) x).2
                   · rfl
                   · have h2:=zGe (n:=n) (zGf (by have:=HK1.out;omega) HST.out) h j HJ.out;rw [HFN.out] at h2;cases h2
                 · repeat (first | with_reducible exact HBF.out | with_reducible refine Below.setCell ?_ (by dsimp only;omega) _)
               · have HFN:=hid (show cfin ((rgtS l (rgtK l k) x).1 j)=true by rw [←HZN.out];exact hfn);have hn64:=HN64.out;go_wp2_with (go_at_call 35;refine (zBp za zb _).mono ?_;rintro e wf ⟨v,nn,rfl,he,rfl⟩;rw [hfn];have HBF:=hid (zAd HBJ.out (by rw [he];exact zAg (Below.refl _ _) nn:Below wr.heap.size wr wf));clear he);go_roundw
                 case rel=> exact ⟨j+1,hjn,by go_num,HBF.out,fun q hq=> by rcases Nat.lt_succ_iff_lt_or_eq.1 hq with h | h;exact HFJ.out q h;subst h;exact HFN.out⟩
                 case measure=> simp [intOf];omega
             · obtain rfl:j=n:=by omega
               have HOKX:=hid (show (rgtS l (rgtK l k) x).2=true by
                cases h:(rgtS l (rgtK l k) x).2
                · obtain ⟨q,hq,h2⟩:=zHa HND.out HB5.out (ab_ne HXC.out (isK_of HXC.out)) h;rw [HFJ.out q hq] at h2;cases h2
                · rfl)
               have hll:=HLE.out;go_wp2_with fail;refine HQN _ _ ?_;go_wp2;go_roundw
               case rel=> exact ⟨k+1,tb,HK1.out,by go_num,by go_num,HTN.out,by rw [zDf HX.out];exact HVJ.out,HGJ.out,fun i y hi hy=> by
                rcases Nat.lt_succ_iff_lt_or_eq.1 hi with h | h
                · exact HST.out i y h hy
                · subst h;obtain rfl:=Option.some.inj (HX.out.symm.trans hy);exact HOKX.out⟩
               case measure=> have:=HK1.out;simp [intOf];omega
          · obtain ⟨kb,hkb,hkb2⟩:=pl_nat hb2;rw [hkb];have HBH:=hid hb2;have HBK:=hid hkb;have HKB:=hid (Nat.lt_of_lt_of_le hkb2 HND.out);clear hb2 hkb hkb2;go_upto_region 16 with fail;obtain ⟨MwB,hMwB⟩:=HVwA.out;have HMwB:=hid hMwB;have HZCwB:=hid (zBy (k:=kb) (M:=MwB) (by rw [hMwB.len];exact HKB.out));have HZNwB:=hid (hMwB.num kb HKB.out);clear hMwB HVwA;generalize hzwB:MwB.getD kb (0,0)=zwB at *;clear hzwB;obtain ⟨zawB,zbwB⟩:=zwB;have cz:=(zAa HMwB.out.row).1 kb _ HZCwB.out;have hat:∀w',(Instr.indexAt 70 (.slice (some ⟨b,0,none⟩) n n) (.int .i64 kb)).run Tryz.prog w'=.ok (.pointer (some ⟨b,kb,none⟩)) w':=fun w'=> zBq HKB.out w'
            go_upto_region 17 with (go_at_call 167;refine (radd_any zawB zbwB y1 y2 _).mono ?_;rintro e wswB ⟨v,nn,rfl,he,r1wB,r2wB,rfl,hzz⟩;have hb:Below wA.heap.size wA wswB:=(by rw [he];exact zAg (Below.refl _ _) nn);have HDwB:=hid (HMwB.out.below hb);have HSwB:=hid (zAf HGwA.out (zAe hb (some b)));have HQwB:=hid hzz;clear hzz he hb cz HMwB HGwA;have cz:=(zAa HDwB.out.row).1 kb _ HZCwB.out;have fz:=(zAa HDwB.out.row).2 kb);have HVwB:=hid (HDwB.out.store HKB.out (c:=cadd ((upd (rgtK l k) ka (csub (rgtK l k ka) (fc y1,fc y2))) kb) (fc y1,fc y2)) (by rw [←HZNwB.out];exact HQwB.out));have HGwB:=hid (zAf HSwB.out (zAj wswB b kb (.complex .f64 r1wB r2wB)));clear cz fz HDwB HSwB HQwB HZCwB HZNwB hat
            generalize wswB.setCell ⟨b,kb,none⟩ (.complex .f64 r1wB r2wB)=wB at *;have e0:wB.cell? ⟨g1,o1,none⟩=some (.int .u8 x.kind):=KC.out _ HGwB.out 0 _ rfl;go_upto_region 22 with fail;clear e0;have HEQ:=hid (show (rgtS l (rgtK l k) x).1=(upd (upd (rgtK l k) ka (csub (rgtK l k ka) (fc y1,fc y2))) kb (cadd ((upd (rgtK l k) ka (csub (rgtK l k ka) (fc y1,fc y2))) kb) (fc y1,fc y2))) from by rw [rgt4 HXC.out HK4.out HY4.out,put_yes HAH.out HAK.out,put_yes HBH.out HBK.out]);have HVF:Hid (VecR wB b n (rgtS l (rgtK l k) x).1):=hid (by rw [HEQ.out];exact HVwB.out);have HGF:=hid HGwB.out;clear HVwB HGwB HEQ;generalize wB=wF at *;have HTN:=hid (show tb=(nds l).length+(brs (l.take (k+1))).length by rw [HTB.out,zCv HX.out,if_neg HBRX.out];omega)
            go_loopw [14] (fun i wr=> ∃j:Nat,j≤n∧i=.int .i64 j∧Below wF.heap.size wF wr∧∀q,q < j→cfin ((rgtS l (rgtK l k) x).1 q)=true) (fun i _=> n - (intOf i).toNat)
            case atStart=> exact ⟨0,Nat.zero_le _,rfl,Below.refl _ _,fun q hq=> absurd hq (Nat.not_lt_zero _)⟩
            case round=>
             obtain ⟨j,hj,rfl,hbj,hfj⟩:=hrel;have HVJ:=hid (HVF.out.below hbj);have HGJ:=hid (zAf HGF.out (zAe hbj (some b)));have HBJ:=hid hbj;have HFJ:=hid hfj;clear hbj hfj
             by_cases hjn:j < n
             · have HJ:=hid hjn;obtain ⟨MJ,hMJ⟩:=HVJ.out;have HZN:=hid (hMJ.num j hjn);have cz:=(zAa hMJ.row).1 j _ (zBy (by rw [hMJ.len];exact hjn));clear hMJ HVJ;generalize hzj:MJ.getD j (0,0)=zj at *;clear hzj;obtain ⟨za,zb⟩:=zj;have hat:∀w',(Instr.indexAt 70 (.slice (some ⟨b,0,none⟩) n n) (.int .i64 j)).run Tryz.prog w'=.ok (.pointer (some ⟨b,j,none⟩)) w':=fun w'=> zBq HJ.out w'
               cases hfn:cfin (fc za,fc zb)
               · have HFN:=hid (show cfin ((rgtS l (rgtK l k) x).1 j)=false by rw [←HZN.out];exact hfn);have HZR:=hid (KZ.out _ HGJ.out);have HBR:=hid (KB.out _ HGJ.out);go_upto_region 25 with (go_at_call 35;refine (zBp za zb _).mono ?_;rintro e wf ⟨v,nn,rfl,he,rfl⟩;rw [hfn];have hb:Below wr.heap.size wr wf:=(by rw [he];exact zAg (Below.refl _ _) nn);have HZF:=hid (zAm hb HZR.out);have HBF:=hid (zAd HBR.out hb);clear he hb);have z0:=(zAa HZF.out).1 0 _ rfl;have z1:=(zAa HZF.out).1 1 _ rfl;have f0:=(zAa HZF.out).2 0;have f1:=(zAa HZF.out).2 1;go_wp2_with fail
                 (try simp only [Exit.inBlock,Exit.then])
                 refine HQR _ _ ?_;refine bodyPost_ret (v:=.tuple #[.slice none 0 0,.agg #[.int .i64 6,.int .i64 k]]) ?_ rfl (zGq.bad (zEi HX.out HST.out ?_) ?_)
                 · rw [zAi rfl];go_simp
                 · cases h:(rgtS l (rgtK l k) x).2
                   · rfl
                   · have h2:=zGe (n:=n) (zGf (by have:=HK1.out;omega) HST.out) h j HJ.out;rw [HFN.out] at h2;cases h2
                 · repeat (first | with_reducible exact HBF.out | with_reducible refine Below.setCell ?_ (by dsimp only;omega) _)
               · have HFN:=hid (show cfin ((rgtS l (rgtK l k) x).1 j)=true by rw [←HZN.out];exact hfn);have hn64:=HN64.out;go_wp2_with (go_at_call 35;refine (zBp za zb _).mono ?_;rintro e wf ⟨v,nn,rfl,he,rfl⟩;rw [hfn];have HBF:=hid (zAd HBJ.out (by rw [he];exact zAg (Below.refl _ _) nn:Below wr.heap.size wr wf));clear he);go_roundw
                 case rel=> exact ⟨j+1,hjn,by go_num,HBF.out,fun q hq=> by rcases Nat.lt_succ_iff_lt_or_eq.1 hq with h | h;exact HFJ.out q h;subst h;exact HFN.out⟩
                 case measure=> simp [intOf];omega
             · obtain rfl:j=n:=by omega
               have HOKX:=hid (show (rgtS l (rgtK l k) x).2=true by
                cases h:(rgtS l (rgtK l k) x).2
                · obtain ⟨q,hq,h2⟩:=zHa HND.out HB5.out (ab_ne HXC.out (isK_of HXC.out)) h;rw [HFJ.out q hq] at h2;cases h2
                · rfl)
               have hll:=HLE.out;go_wp2_with fail;refine HQN _ _ ?_;go_wp2;go_roundw
               case rel=> exact ⟨k+1,tb,HK1.out,by go_num,by go_num,HTN.out,by rw [zDf HX.out];exact HVJ.out,HGJ.out,fun i y hi hy=> by
                rcases Nat.lt_succ_iff_lt_or_eq.1 hi with h | h
                · exact HST.out i y h hy
                · subst h;obtain rfl:=Option.some.inj (HX.out.symm.trans hy);exact HOKX.out⟩
               case measure=> have:=HK1.out;simp [intOf];omega
      · by_cases hk5:x.kind=5
        · obtain rfl:er=0:=HER.out.trans (by rw [src_yes HXC.out (by rw [hk5];rfl)]);have HY4:=hid (show (srcS x).1=(fc y1,fc y2) from HY.out.symm);have HK5:=hid hk5;have HBRX:=hid (show isBr x=true by unfold isBr;rw [hk5];rfl);have HTL:=hid (show brAt l x=tb by obtain ⟨_,h2⟩:=br_index HU.out HX.out HBRX.out;unfold brAt;rw [h2,HTB.out];rfl);have HTK:=hid (show tb < n by rw [←HTL.out];exact HB5.out hk5);have k4:(x.kind==4)=false:=by rw [hk5];rfl
          have k5:(x.kind==5)=true:=by rw [hk5];rfl
          have k7:(x.kind==7)=false:=by rw [hk5];rfl
          clear hk4 hk5;have e0:w8.cell? ⟨g1,o1,none⟩=some (.int .u8 x.kind):=KC.out _ HG8.out 0 _ rfl;go_upto_region 18 with fail;clear e0;obtain ⟨M5,hM5⟩:=HV8.out;have cz:=(zAa hM5.row).1 tb _ (zBy (by rw [hM5.len];exact HTK.out));have fz:=(zAa hM5.row).2 tb;have HM5:=hid hM5;clear hM5;have hat:∀w',(Instr.indexAt 70 (.slice (some ⟨b,0,none⟩) n n) (.int .i64 tb)).run Tryz.prog w'=.ok (.pointer (some ⟨b,tb,none⟩)) w':=fun w'=> zBq HTK.out w'
          go_upto_region 19 with fail;have HV9:=hid (HM5.out.store HTK.out (c:=(fc y1,fc y2)) rfl);have HG9:=hid (zAf HG8.out (zAj w8 b tb (.complex .f64 y1 y2)));clear cz fz HM5 hat HV8 HG8
          generalize w8.setCell ⟨b,tb,none⟩ (.complex .f64 y1 y2)=w9 at *;have e0:w9.cell? ⟨g1,o1,none⟩=some (.int .u8 x.kind):=KC.out _ HG9.out 0 _ rfl;go_upto_region 22 with fail;clear e0;have HEQ:=hid (show (rgtS l (rgtK l k) x).1=(upd (rgtK l k) tb (fc y1,fc y2)) from by rw [rgt5 HXC.out HK5.out HY4.out,HTL.out]);have HVF:Hid (VecR w9 b n (rgtS l (rgtK l k) x).1):=hid (by rw [HEQ.out];exact HV9.out);have HGF:=hid HG9.out;clear HV9 HG9 HEQ;generalize w9=wF at *;have HTN:=hid (show tb+1=(nds l).length+(brs (l.take (k+1))).length by rw [HTB.out,zCv HX.out,if_pos HBRX.out];omega)
          go_loopw [14] (fun i wr=> ∃j:Nat,j≤n∧i=.int .i64 j∧Below wF.heap.size wF wr∧∀q,q < j→cfin ((rgtS l (rgtK l k) x).1 q)=true) (fun i _=> n - (intOf i).toNat)
          case atStart=> exact ⟨0,Nat.zero_le _,rfl,Below.refl _ _,fun q hq=> absurd hq (Nat.not_lt_zero _)⟩
          case round=>
           obtain ⟨j,hj,rfl,hbj,hfj⟩:=hrel;have HVJ:=hid (HVF.out.below hbj);have HGJ:=hid (zAf HGF.out (zAe hbj (some b)));have HBJ:=hid hbj;have HFJ:=hid hfj;clear hbj hfj
           by_cases hjn:j < n
           · have HJ:=hid hjn;obtain ⟨MJ,hMJ⟩:=HVJ.out;have HZN:=hid (hMJ.num j hjn);have cz:=(zAa hMJ.row).1 j _ (zBy (by rw [hMJ.len];exact hjn));clear hMJ HVJ;generalize hzj:MJ.getD j (0,0)=zj at *;clear hzj;obtain ⟨za,zb⟩:=zj;have hat:∀w',(Instr.indexAt 70 (.slice (some ⟨b,0,none⟩) n n) (.int .i64 j)).run Tryz.prog w'=.ok (.pointer (some ⟨b,j,none⟩)) w':=fun w'=> zBq HJ.out w'
             cases hfn:cfin (fc za,fc zb)
             · have HFN:=hid (show cfin ((rgtS l (rgtK l k) x).1 j)=false by rw [←HZN.out];exact hfn);have HZR:=hid (KZ.out _ HGJ.out);have HBR:=hid (KB.out _ HGJ.out);go_upto_region 25 with (go_at_call 35;refine (zBp za zb _).mono ?_;rintro e wf ⟨v,nn,rfl,he,rfl⟩;rw [hfn];have hb:Below wr.heap.size wr wf:=(by rw [he];exact zAg (Below.refl _ _) nn);have HZF:=hid (zAm hb HZR.out);have HBF:=hid (zAd HBR.out hb);clear he hb);have z0:=(zAa HZF.out).1 0 _ rfl;have z1:=(zAa HZF.out).1 1 _ rfl;have f0:=(zAa HZF.out).2 0;have f1:=(zAa HZF.out).2 1;go_wp2_with fail
               (try simp only [Exit.inBlock,Exit.then])
               refine HQR _ _ ?_;refine bodyPost_ret (v:=.tuple #[.slice none 0 0,.agg #[.int .i64 6,.int .i64 k]]) ?_ rfl (zGq.bad (zEi HX.out HST.out ?_) ?_)
               · rw [zAi rfl];go_simp
               · cases h:(rgtS l (rgtK l k) x).2
                 · rfl
                 · have h2:=zGe (n:=n) (zGf (by have:=HK1.out;omega) HST.out) h j HJ.out;rw [HFN.out] at h2;cases h2
               · repeat (first | with_reducible exact HBF.out | with_reducible refine Below.setCell ?_ (by dsimp only;omega) _)
             · have HFN:=hid (show cfin ((rgtS l (rgtK l k) x).1 j)=true by rw [←HZN.out];exact hfn);have hn64:=HN64.out;go_wp2_with (go_at_call 35;refine (zBp za zb _).mono ?_;rintro e wf ⟨v,nn,rfl,he,rfl⟩;rw [hfn];have HBF:=hid (zAd HBJ.out (by rw [he];exact zAg (Below.refl _ _) nn:Below wr.heap.size wr wf));clear he);go_roundw
               case rel=> exact ⟨j+1,hjn,by go_num,HBF.out,fun q hq=> by rcases Nat.lt_succ_iff_lt_or_eq.1 hq with h | h;exact HFJ.out q h;subst h;exact HFN.out⟩
               case measure=> simp [intOf];omega
           · obtain rfl:j=n:=by omega
             have HOKX:=hid (show (rgtS l (rgtK l k) x).2=true by
              cases h:(rgtS l (rgtK l k) x).2
              · obtain ⟨q,hq,h2⟩:=zHa HND.out HB5.out (ab_ne HXC.out (isK_of HXC.out)) h;rw [HFJ.out q hq] at h2;cases h2
              · rfl)
             have hll:=HLE.out;go_wp2_with fail;refine HQN _ _ ?_;go_wp2;go_roundw
             case rel=> exact ⟨k+1,(tb+1),HK1.out,by go_num,by go_num,HTN.out,by rw [zDf HX.out];exact HVJ.out,HGJ.out,fun i y hi hy=> by
              rcases Nat.lt_succ_iff_lt_or_eq.1 hi with h | h
              · exact HST.out i y h hy
              · subst h;obtain rfl:=Option.some.inj (HX.out.symm.trans hy);exact HOKX.out⟩
             case measure=> have:=HK1.out;simp [intOf];omega
        · obtain rfl:er=2:=HER.out.trans (by rw [src_no HXC.out (by simp [hk4,hk5])]);have HEO:=hid (show (rgtS l (rgtK l k) x).1=rgtK l k from rgtO HXC.out hk4 hk5);have k4:(x.kind==4)=false:=by rw [beq_eq_false_iff_ne];exact hk4
          have k5:(x.kind==5)=false:=by rw [beq_eq_false_iff_ne];exact hk5
          clear hk4 hk5;cases k7:(x.kind==7)
          · have HBRX:=hid (show¬isBr x=true by unfold isBr;rw [k5,k7];decide);have e0:w8.cell? ⟨g1,o1,none⟩=some (.int .u8 x.kind):=KC.out _ HG8.out 0 _ rfl;go_upto_region 22 with fail;clear e0;have HEQ:=hid (show (rgtS l (rgtK l k) x).1=rgtK l k from HEO.out);have HVF:Hid (VecR w8 b n (rgtS l (rgtK l k) x).1):=hid (by rw [HEQ.out];exact HV8.out);have HGF:=hid HG8.out;clear HV8 HG8 HEQ;generalize w8=wF at *;have HTN:=hid (show tb=(nds l).length+(brs (l.take (k+1))).length by rw [HTB.out,zCv HX.out,if_neg HBRX.out];omega)
            go_loopw [14] (fun i wr=> ∃j:Nat,j≤n∧i=.int .i64 j∧Below wF.heap.size wF wr∧∀q,q < j→cfin ((rgtS l (rgtK l k) x).1 q)=true) (fun i _=> n - (intOf i).toNat)
            case atStart=> exact ⟨0,Nat.zero_le _,rfl,Below.refl _ _,fun q hq=> absurd hq (Nat.not_lt_zero _)⟩
            case round=>
             obtain ⟨j,hj,rfl,hbj,hfj⟩:=hrel;have HVJ:=hid (HVF.out.below hbj);have HGJ:=hid (zAf HGF.out (zAe hbj (some b)));have HBJ:=hid hbj;have HFJ:=hid hfj;clear hbj hfj
             by_cases hjn:j < n
             · have HJ:=hid hjn;obtain ⟨MJ,hMJ⟩:=HVJ.out;have HZN:=hid (hMJ.num j hjn);have cz:=(zAa hMJ.row).1 j _ (zBy (by rw [hMJ.len];exact hjn));clear hMJ HVJ;generalize hzj:MJ.getD j (0,0)=zj at *;clear hzj;obtain ⟨za,zb⟩:=zj;have hat:∀w',(Instr.indexAt 70 (.slice (some ⟨b,0,none⟩) n n) (.int .i64 j)).run Tryz.prog w'=.ok (.pointer (some ⟨b,j,none⟩)) w':=fun w'=> zBq HJ.out w'
               cases hfn:cfin (fc za,fc zb)
               · have HFN:=hid (show cfin ((rgtS l (rgtK l k) x).1 j)=false by rw [←HZN.out];exact hfn);have HZR:=hid (KZ.out _ HGJ.out);have HBR:=hid (KB.out _ HGJ.out);go_upto_region 25 with (go_at_call 35;refine (zBp za zb _).mono ?_;rintro e wf ⟨v,nn,rfl,he,rfl⟩;rw [hfn];have hb:Below wr.heap.size wr wf:=(by rw [he];exact zAg (Below.refl _ _) nn);have HZF:=hid (zAm hb HZR.out);have HBF:=hid (zAd HBR.out hb);clear he hb);have z0:=(zAa HZF.out).1 0 _ rfl;have z1:=(zAa HZF.out).1 1 _ rfl;have f0:=(zAa HZF.out).2 0;have f1:=(zAa HZF.out).2 1;go_wp2_with fail
                 (try simp only [Exit.inBlock,Exit.then])
                 refine HQR _ _ ?_;refine bodyPost_ret (v:=.tuple #[.slice none 0 0,.agg #[.int .i64 6,.int .i64 k]]) ?_ rfl (zGq.bad (zEi HX.out HST.out ?_) ?_)
                 · rw [zAi rfl];go_simp
                 · cases h:(rgtS l (rgtK l k) x).2
                   · rfl
                   · have h2:=zGe (n:=n) (zGf (by have:=HK1.out;omega) HST.out) h j HJ.out;rw [HFN.out] at h2;cases h2
                 · repeat (first | with_reducible exact HBF.out | with_reducible refine Below.setCell ?_ (by dsimp only;omega) _)
               · have HFN:=hid (show cfin ((rgtS l (rgtK l k) x).1 j)=true by rw [←HZN.out];exact hfn);have hn64:=HN64.out;go_wp2_with (go_at_call 35;refine (zBp za zb _).mono ?_;rintro e wf ⟨v,nn,rfl,he,rfl⟩;rw [hfn];have HBF:=hid (zAd HBJ.out (by rw [he];exact zAg (Below.refl _ _) nn:Below wr.heap.size wr wf));clear he);go_roundw
                 case rel=> exact ⟨j+1,hjn,by go_num,HBF.out,fun q hq=> by rcases Nat.lt_succ_iff_lt_or_eq.1 hq with h | h;exact HFJ.out q h;subst h;exact HFN.out⟩
                 case measure=> simp [intOf];omega
             · obtain rfl:j=n:=by omega
               have HOKX:=hid (show (rgtS l (rgtK l k) x).2=true by
                cases h:(rgtS l (rgtK l k) x).2
                · obtain ⟨q,hq,h2⟩:=zHa HND.out HB5.out (ab_ne HXC.out (isK_of HXC.out)) h;rw [HFJ.out q hq] at h2;cases h2
                · rfl)
               have hll:=HLE.out;go_wp2_with fail;refine HQN _ _ ?_;go_wp2;go_roundw
               case rel=> exact ⟨k+1,tb,HK1.out,by go_num,by go_num,HTN.out,by rw [zDf HX.out];exact HVJ.out,HGJ.out,fun i y hi hy=> by
                rcases Nat.lt_succ_iff_lt_or_eq.1 hi with h | h
                · exact HST.out i y h hy
                · subst h;obtain rfl:=Option.some.inj (HX.out.symm.trans hy);exact HOKX.out⟩
               case measure=> have:=HK1.out;simp [intOf];omega
          · have HBRX:=hid (show isBr x=true by unfold isBr;rw [k5,k7];rfl);have e0:w8.cell? ⟨g1,o1,none⟩=some (.int .u8 x.kind):=KC.out _ HG8.out 0 _ rfl;go_upto_region 22 with fail;clear e0;have HEQ:=hid (show (rgtS l (rgtK l k) x).1=rgtK l k from HEO.out);have HVF:Hid (VecR w8 b n (rgtS l (rgtK l k) x).1):=hid (by rw [HEQ.out];exact HV8.out);have HGF:=hid HG8.out;clear HV8 HG8 HEQ;generalize w8=wF at *;have HTN:=hid (show tb+1=(nds l).length+(brs (l.take (k+1))).length by rw [HTB.out,zCv HX.out,if_pos HBRX.out];omega)
            go_loopw [14] (fun i wr=> ∃j:Nat,j≤n∧i=.int .i64 j∧Below wF.heap.size wF wr∧∀q,q < j→cfin ((rgtS l (rgtK l k) x).1 q)=true) (fun i _=> n - (intOf i).toNat)
            case atStart=> exact ⟨0,Nat.zero_le _,rfl,Below.refl _ _,fun q hq=> absurd hq (Nat.not_lt_zero _)⟩
            case round=>
             obtain ⟨j,hj,rfl,hbj,hfj⟩:=hrel;have HVJ:=hid (HVF.out.below hbj);have HGJ:=hid (zAf HGF.out (zAe hbj (some b)));have HBJ:=hid hbj;have HFJ:=hid hfj;clear hbj hfj
             by_cases hjn:j < n
             · have HJ:=hid hjn;obtain ⟨MJ,hMJ⟩:=HVJ.out;have HZN:=hid (hMJ.num j hjn);have cz:=(zAa hMJ.row).1 j _ (zBy (by rw [hMJ.len];exact hjn));clear hMJ HVJ;generalize hzj:MJ.getD j (0,0)=zj at *;clear hzj;obtain ⟨za,zb⟩:=zj;have hat:∀w',(Instr.indexAt 70 (.slice (some ⟨b,0,none⟩) n n) (.int .i64 j)).run Tryz.prog w'=.ok (.pointer (some ⟨b,j,none⟩)) w':=fun w'=> zBq HJ.out w'
               cases hfn:cfin (fc za,fc zb)
               · have HFN:=hid (show cfin ((rgtS l (rgtK l k) x).1 j)=false by rw [←HZN.out];exact hfn);have HZR:=hid (KZ.out _ HGJ.out);have HBR:=hid (KB.out _ HGJ.out);go_upto_region 25 with (go_at_call 35;refine (zBp za zb _).mono ?_;rintro e wf ⟨v,nn,rfl,he,rfl⟩;rw [hfn];have hb:Below wr.heap.size wr wf:=(by rw [he];exact zAg (Below.refl _ _) nn);have HZF:=hid (zAm hb HZR.out);have HBF:=hid (zAd HBR.out hb);clear he hb);have z0:=(zAa HZF.out).1 0 _ rfl;have z1:=(zAa HZF.out).1 1 _ rfl;have f0:=(zAa HZF.out).2 0;have f1:=(zAa HZF.out).2 1;go_wp2_with fail
                 (try simp only [Exit.inBlock,Exit.then])
                 refine HQR _ _ ?_;refine bodyPost_ret (v:=.tuple #[.slice none 0 0,.agg #[.int .i64 6,.int .i64 k]]) ?_ rfl (zGq.bad (zEi HX.out HST.out ?_) ?_)
                 · rw [zAi rfl];go_simp
                 · cases h:(rgtS l (rgtK l k) x).2
                   · rfl
                   · have h2:=zGe (n:=n) (zGf (by have:=HK1.out;omega) HST.out) h j HJ.out;rw [HFN.out] at h2;cases h2
                 · repeat (first | with_reducible exact HBF.out | with_reducible refine Below.setCell ?_ (by dsimp only;omega) _)
               · have HFN:=hid (show cfin ((rgtS l (rgtK l k) x).1 j)=true by rw [←HZN.out];exact hfn);have hn64:=HN64.out;go_wp2_with (go_at_call 35;refine (zBp za zb _).mono ?_;rintro e wf ⟨v,nn,rfl,he,rfl⟩;rw [hfn];have HBF:=hid (zAd HBJ.out (by rw [he];exact zAg (Below.refl _ _) nn:Below wr.heap.size wr wf));clear he);go_roundw
                 case rel=> exact ⟨j+1,hjn,by go_num,HBF.out,fun q hq=> by rcases Nat.lt_succ_iff_lt_or_eq.1 hq with h | h;exact HFJ.out q h;subst h;exact HFN.out⟩
                 case measure=> simp [intOf];omega
             · obtain rfl:j=n:=by omega
               have HOKX:=hid (show (rgtS l (rgtK l k) x).2=true by
                cases h:(rgtS l (rgtK l k) x).2
                · obtain ⟨q,hq,h2⟩:=zHa HND.out HB5.out (ab_ne HXC.out (isK_of HXC.out)) h;rw [HFJ.out q hq] at h2;cases h2
                · rfl)
               have hll:=HLE.out;go_wp2_with fail;refine HQN _ _ ?_;go_wp2;go_roundw
               case rel=> exact ⟨k+1,(tb+1),HK1.out,by go_num,by go_num,HTN.out,by rw [zDf HX.out];exact HVJ.out,HGJ.out,fun i y hi hy=> by
                rcases Nat.lt_succ_iff_lt_or_eq.1 hi with h | h
                · exact HST.out i y h hy
                · subst h;obtain rfl:=Option.some.inj (HX.out.symm.trans hy);exact HOKX.out⟩
               case measure=> have:=HK1.out;simp [intOf];omega
    · obtain rfl:k=l.length:=by omega
      have HZR:=hid (KZ.out _ HG.out);have HBR:=hid (KB.out _ HG.out);have z0:=(zAa HZR.out).1 0 _ rfl;have z1:=(zAa HZR.out).1 1 _ rfl;have f0:=(zAa HZR.out).2 0;have f1:=(zAa HZR.out).2 1;go_wp2
      (try simp only [Exit.inBlock,Exit.then])
      refine bodyPost_ret (v:=.tuple #[.slice (some ⟨b,0,none⟩) n n,.agg #[.int .i64 0,.int .i64 0]]) ?_ rfl ?_
      · rw [zAi rfl];go_simp
      · rw [rgt_done (fun i x hx=> HST.out i x (List.getElem?_eq_some_iff.1 hx).1 hx),show (nds l).length+(brs l).length=n from HNN.out];obtain ⟨xs,h1,h2,h3⟩:=vec_own (B:=w.heap.size+1) HV.out HBG.out (by have:=HN64.out;omega);refine ⟨.slice (some ⟨b,0,none⟩) n n,xs,rfl,h2,?_,?_⟩
        · refine zBs (B':=w.heap.size+1) ?_ (by omega)
          repeat (first | with_reducible exact h3 | with_reducible refine ownsRow_setCell_below ?_ (by dsimp only;omega) _)
        · repeat (first | with_reducible exact HBR.out | with_reducible refine Below.setCell ?_ (by dsimp only;omega) _)
 · have HN:=hid hn;clear hn;go_enter Tryz.func132,Tryz.ntmps132;go_upto_region 1 with fail;generalize w.alloc (.cells #[.int .i64 0,.int .i64 0] 32)=w0 at *;have z0:=(zAa HZ.out).1 0 _ rfl;have z1:=(zAa HZ.out).1 1 _ rfl;have f0:=(zAa HZ.out).2 0;have f1:=(zAa HZ.out).2 1;go_wp2_with (go_at_call 164;refine (rnone19_any q l _ HP.out).mono ?_;rintro e w1 ⟨rfl,rfl⟩;rw [HN.out]);refine bodyPost_ret (v:=.tuple #[.slice none 0 0,.agg #[.int .i64 1,.int .i64 (-1)]]) ?_ rfl (zGq.bad rgt_none ?_)
   · rw [zAi rfl];go_simp
   · repeat (first | with_reducible exact HBW.out | with_reducible refine Below.setCell ?_ (by dsimp only;omega) _)
end Go.Proofs.YtejooaeppcjhjaaGreat
