/- a part of the proof of the last text -/
import Derived.Test.YtdepiggjneoopaaGreatDoorZMCheck13
import Derived.Maps.OwnSet
namespace Go.Proofs.YtdepiggjneoopaaGreatDoor
set_option linter.all false
set_option maxHeartbeats 4000000
set_option maxRecDepth 100000
section
open Go.RowKit
theorem RN.below' {w w1:World} {p:Value} {l:List El} (h:RN w p l) (hb:Below w.heap.size w w1):RN w1 p l:=h.below hb (Nat.le_refl _)
theorem rorder_any (p:Value) (l:List El) (w:World) (hp:RN w p l) (hl:l.length≤100000):
 Calls Tryz.prog 28 #[p] w (RetI ((nds l).length+(brs l).length) w):=by
 have hn:=nds_len l;have rH:=brs_len l;have hw:IntKind.i64.wrap (((nds l).length:Int)+((brs l).length:Int))=((nds l).length:Int)+((brs l).length:Int):=by
  unfold IntKind.wrap
  first | (simp [IntKind.bits,IntKind.signed];omega) | (simp;omega)
 have HP:=hid hp;clear hp;go_enter Tryz.func28,Tryz.ntmps28;go_wp2_with (first | (go_at_call 54;refine (rnodes_any _ l _ HP.out hl).mono ?_;rintro e w1 ⟨v1,xs,rfl,aS,rfl,aI⟩;obtain ⟨a1,c1,rfl⟩:=(IsSl.of_own aS).form;have aL:=hid aI;clear aI) | (go_at_call 55;refine (rbranches_any _ l _ (HP.out.below' aL.out) hl).mono ?_;rintro e w2 ⟨v2,xs2,rfl,cV,rfl,aV⟩;obtain ⟨a2,c2,rfl⟩:=(IsSl.of_own cV).form;have aG:=hid aV;clear aV));go_ret;exact ⟨zBw (by first | rfl | simpa using hw),zAd aL.out aG.out⟩
def zEn (l:List El) (s:ByteArray):Bool:=l.any fun d=> d.name.toList==s.toList
def bad1 (l:List El) (k:Nat) (e:El):Int:=if zAv e=0 then if zEn (l.take k) e.name=true then 9 else 0 else zAv e
def zBt (l:List El):Nat→List El→Option (Nat × Int)
 | _, []=> none
 | k,e::r=> if bad1 l k e=0 then zBt l (k+1) r else some (k,bad1 l k e)
def ofL (l:List El):Bool × Int × Int:=
 if 256 < l.length then (false,3,-1) else match zBt l 0 l with
  | some (k,x)=> (false,x,k)
  | none=> if 32 < (nds l).length∨64 < (nds l).length+(brs l).length then (false,3,-1) else (true,0,0)
theorem first_drop (l:List El):∀ (r:List El) (k:Nat),(∀ (j:Nat) (e:El),r[j]? =some e→bad1 l (k+j) e=0)→zBt l k r=none
 | [],_,_=> rfl
 | e::r,k,h=> by
  have h0:bad1 l k e=0:=h 0 e rfl;unfold zBt;rw [if_pos h0];exact first_drop l r (k+1) fun j x hj=> by have:=h (j+1) x hj;rwa [show k+(j+1)=k+1+j by omega] at this
theorem first_at (l:List El):∀ (r:List El) (k i:Nat) (x:El),r[i]? =some x→(∀ (j:Nat) (e:El),j < i→r[j]? =some e→bad1 l (k+j) e=0)→bad1 l (k+i) x≠0→zBt l k r=some (k+i,bad1 l (k+i) x)
 | [],_,_,_,h,_,_=> by simp at h
 | e::r,k,0,x,h,_,hx=> by
  obtain rfl:e=x:=by simpa using h
  unfold zBt;rw [Nat.add_zero] at hx;rw [if_neg hx,Nat.add_zero]
 | e::r,k,i+1,x,h,hb,hx=> by
  have h0:bad1 l k e=0:=hb 0 e (by omega) rfl;unfold zBt;rw [if_pos h0];have:=first_at l r (k+1) i x h (fun j y hj hy=> by have:=hb (j+1) y (by omega) hy;rwa [show k+(j+1)=k+1+j by omega] at this) (by rwa [show k+1+i=k+(i+1) by omega]);rw [this,show k+1+i=k+(i+1) by omega]
theorem ofL_long {l:List El} (h:256 < l.length):ofL l=(false,3,-1):=by unfold ofL;rw [if_pos h]
theorem ofL_bad {l:List El} {k:Nat} {x:El} (hl:¬256 < l.length) (hx:l[k]? =some x) (hb:∀ (j:Nat) (e:El),j < k→l[j]? =some e→bad1 l j e=0) (h:bad1 l k x≠0):ofL l=(false,bad1 l k x,(k:Int)):=by
 have:=first_at l l 0 k x hx (fun j e hj he=> by rw [Nat.zero_add];exact hb j e hj he) (by rwa [Nat.zero_add]);unfold ofL;rw [if_neg hl,this,Nat.zero_add]
theorem ofL_good {l:List El} (hl:¬256 < l.length) (hb:∀ (j:Nat) (e:El),l[j]? =some e→bad1 l j e=0):ofL l=if 32 < (nds l).length∨64 < (nds l).length+(brs l).length then (false,3,-1) else (true,0,0):=by
 have:=first_drop l l 0 (fun j e he=> by rw [Nat.zero_add];exact hb j e he);unfold ofL;rw [if_neg hl,this]
theorem named_snoc {l:List El} {k:Nat} {t:El} (h:l[k]? =some t) (s:ByteArray):zEn (l.take (k+1)) s=(zEn (l.take k) s || (t.name.toList==s.toList)):=by
 obtain ⟨hk,e⟩:=List.getElem?_eq_some_iff.1 h;subst e;unfold zEn;rw [List.take_succ_eq_append_getElem hk,List.any_append]
 simp
def RetOf (R:World→Value→List El→Prop) (l:List El) (w:World) (en:Ending) (w':World):Prop:=
 ∃p,en=.returned (.tuple #[p,.agg #[.int .i64 (ofL l).2.1,.int .i64 (ofL l).2.2]])∧(((ofL l).1=false∧p=.pointer none)∨((ofL l).1=true∧p≠ .pointer none∧R w' p l))∧Below w.heap.size w w'
theorem zDn {R:World→Value→List El→Prop} {l:List El} {w w':World} {x a:Int} (h:ofL l=(false,x,a)) (hb:Below w.heap.size w w'):RetOf R l w (.returned (.tuple #[.pointer none,.agg #[.int .i64 x,.int .i64 a]])) w':=
 ⟨_,by rw [h],.inl ⟨by rw [h],rfl⟩,hb⟩
theorem zAq {fn:Func} {p u:Tmp} {ty:TypeId} (h:fn.results=#[.tmp u,.cell p ty]) (tmps:Array Value) (P:Program) (w:World):
 (results fn tmps).run P w=
  ((asAddr (tmps.getD p undef)).run P w).andThen fun a w₁=> ((loadVar ty a).run P w₁).andThen fun v w₂=> .ok (.tuple #[tmps.getD u undef,v]) w₂:=by
 simp only [results,h]
 simp [Sem.run_bind,Result.andThen]
theorem bad1_chk {l:List El} {k:Nat} {e:El} (h:¬zAv e=0):bad1 l k e=zAv e:=by unfold bad1;rw [if_neg h]
theorem bad1_named {l:List El} {k:Nat} {e:El} (h:zAv e=0) (h2:zEn (l.take k) e.name=true):bad1 l k e=9:=by unfold bad1;rw [if_pos h,if_pos h2]
theorem bad1_not {l:List El} {k:Nat} {e:El} (h:zAv e=0) (h2:zEn (l.take k) e.name=false):bad1 l k e=0:=by unfold bad1;rw [if_pos h,if_neg (by rw [h2];simp)]
theorem named_at {l:List El} {k q:Nat} {t:El} {s:ByteArray} (hq:q < k) (h:l[q]? =some t) (ht:(t.name.toList==s.toList)=true):zEn (l.take k) s=true:=by
 unfold zEn;rw [List.any_eq_true];exact ⟨t,by rw [List.mem_iff_getElem?];exact ⟨q,by rw [List.getElem?_take_of_lt hq];exact h⟩,ht⟩
theorem zEv {w:World} {g o:Nat} {cs:Array Value} {t:TypeId} {f:Nat × Nat} {v:Value} (h:w.heap[g]? =some (.cells cs t f)) (hv:cs[o]? =some v):w.setCell ⟨g,o,none⟩ v=w:=by
 have h1:cs.setIfInBounds o v=cs:=by
  apply Array.ext_getElem?
  intro i;rw [Array.getElem?_setIfInBounds]
  split
  · rename_i e;subst e;have:=(Array.getElem?_eq_some_iff.1 hv).1;rw [hv];simp [this]
  · rfl
 have h2:(w.setCell ⟨g,o,none⟩ v).heap=w.heap:=by
  unfold World.setCell
  apply Array.ext_getElem?
  intro i;simp only [Array.getElem?_modify]
  split
  · rename_i e;subst e;rw [h]
    simp [h1]
  · rfl
 unfold World.setCell at h2⊢;simp only at h2;rw [h2]
theorem rn_new {w:World} {a:Option Addr} {c:Nat} {l:List El} {t:TypeId} (h:IsSl w 8 (.slice a l.length c) l.length (l.flatMap ea)):RN (w.alloc (.cells #[.slice a l.length c,.bool true] t)) (.pointer (some ⟨w.heap.size,0,none⟩)) l:=by
 have hb:Below w.heap.size w (w.alloc (.cells #[.slice a l.length c,.bool true] t)):=(Below.refl _ w).alloc (Nat.le_refl _) _;obtain ⟨hc,_⟩:=zAc (heap_alloc_new w (.cells #[.slice a l.length c,.bool true] t));exact .inr ⟨_,_,rfl,hc 0 _ rfl,hc 1 _ rfl,h.below hb (Nat.le_refl _)⟩
theorem rof_any15 (v:Value) (l:List El) (w:World) (hv:IsSl w 8 v l.length (l.flatMap ea)) (aY:∀e∈l,e.Ok) (hlen0:l.length≤140737488355328):
 Calls Tryz.prog 27 #[v] w (RetOf RN l w):=by
 obtain ⟨a,c,rfl⟩:=hv.form;obtain ⟨i0,hi,cG,bD,cB⟩:=info_parts zEo
 by_cases hl:256 < l.length
 · go_enter Tryz.func27,Tryz.ntmps27;have mV:256 < (l.length:Int):=by omega
   go_wp2
   (try rw [Exit.noGoto_ret])
   refine bodyPost_ret (v:=.tuple #[.pointer none,.agg #[.int .i64 3,.int .i64 (-1)]]) ?_ rfl (zDn (ofL_long hl) ?_)
   · rw [zAq rfl];go_simp
   · exact (Below.refl _ w).alloc (Nat.le_refl _) _
 · have mV:¬256 < (l.length:Int):=by omega
   have hlen:l.length≤100000:=by omega
   have HL:=hid hl;clear hl;go_enter Tryz.func27,Tryz.ntmps27;go_upto_region 4 with fail;have hA:=heap_alloc_new w (.cells #[.int .i64 0,.int .i64 0] 38);have hBW:=(Below.refl w.heap.size w).alloc (Nat.le_refl _) (.cells #[.int .i64 0,.int .i64 0] 38);have uL:w.heap.size < (w.alloc (.cells #[.int .i64 0,.int .i64 0] 38)).heap.size:=by simp
   have hv0:=hv.below hBW (Nat.le_refl _);generalize w.alloc (.cells #[.int .i64 0,.int .i64 0] 38)=w0 at *;have HA:=hid hA;have bC:=hid hBW;have HV:=hid hv0;clear hA hBW hv0 hv
   go_loopw [4] (fun i wr=> ∃k:Nat,k≤l.length∧i=.int .i64 k∧(∀ (j:Nat) (e:El),j < k→l[j]? =some e→bad1 l j e=0)∧Below w0.heap.size w0 wr) (fun i _=> l.length - (intOf i).toNat)
   case atStart=> exact ⟨0,Nat.zero_le _,rfl,fun j e h=> by omega,Below.refl _ _⟩
   case round=>
    obtain ⟨k,hk,rfl,lW,hb⟩:=hrel;obtain ⟨wo,rfl⟩:∃wo:World,wo=wr:=⟨_,rfl⟩;have gF:=hid lW;clear lW
    by_cases aM:k < l.length
    · obtain ⟨g,o,x,aZ,hg,hx,aA⟩:=IsSl.atF Tryz.underlying31 hi bD ea_len (HV.out.below hb (Nat.le_refl _)) rfl aM;have HX:=hid hx;have cH:=hid (aY x (List.mem_of_getElem? hx));have c0:=aA 0 _ rfl;have c1:=aA 1 _ rfl;have c2:=aA 2 _ rfl;have c3:=aA 3 _ rfl;have c4:=aA 4 _ rfl;have c5:=aA 5 _ rfl;have c6:=aA 6 _ rfl;have c7:=aA 7 _ rfl;rw [Nat.add_zero] at c0;have HB:=hid hb;clear aA hb hx hg
      by_cases jX:zAv x=0
      · have fZ:=hid jX;go_upto_region 7 with (go_at_call 53;refine (rcheck_any x _ cH.out).mono ?_;rintro en w1 ⟨rfl,aI⟩;rw [fZ.out];have aL:=hid (zAd HB.out aI);have d1:=cell_later aI c1;clear aI);clear c0 c1 c2 c3 c4 c5 c6 c7;go_upto_region 10 with fail
        go_loopw [6] (fun j wj=> ∃q n:Nat,q≤k∧j=.int .i64 q∧zEn (l.take q) x.name=false∧wj=w1.drewN n) (fun j _=> k - (intOf j).toNat)
        case atStart=> exact ⟨0,0,Nat.zero_le _,rfl,rfl,rfl⟩
        case round=>
         obtain ⟨q,n,hq,rfl,wG,hw⟩:=hrel;have hB2:Below w0.heap.size w0 wr:=by rw [hw];exact zAg aL.out n
         have e1:wr.cell? ⟨g,o+1,none⟩=some (.string x.name):=by rw [hw];exact d1
         have HW:=hid hw;clear hw d1
         by_cases hltq:q < k
         · obtain ⟨g5,o5,x5,hidx5,mD,hx5,rG⟩:=IsSl.atF Tryz.underlying31 hi bD ea_len (HV.out.below hB2 (Nat.le_refl _)) rfl (show q < l.length by omega);have c1:=rG 1 _ rfl;have tN:=hid hx5;clear rG hx5 mD;cases fU:(x5.name.toList==x.name.toList)
           · have lP:=hid fU;go_upto_region 12 with fail
             go_quiet (fail)
             go_wp2;go_roundw
             case rel=> exact ⟨q+1,nq+n,by omega,by go_num,by rw [named_snoc tN.out,wG,lP.out];rfl,by rw [HW.out];simp [World.drewN_drewN,Nat.add_comm]⟩
             case measure=> simp [intOf];omega
           · have lP:=hid fU;have hA1:=zAc (zAa hB2 HA.out);obtain ⟨hA2,fA⟩:=hA1;have k0:=hA2 0 _ rfl;have k1:=hA2 1 _ rfl;have aG:=hid hB2;clear hA2 hB2;go_upto_region 12 with fail
             go_quiet (fail)
             go_wp2
             (try rw [Exit.noGoto_ret])
             refine bodyPost_ret (v:=.tuple #[.pointer none,.agg #[.int .i64 9,.int .i64 k]]) ?_ rfl (zDn ?_ ?_)
             · rw [zAq rfl];go_simp
             · have hb9:bad1 l k x=9:=bad1_named fZ.out (named_at hltq tN.out lP.out);have:=ofL_bad HL.out HX.out gF.out (by rw [hb9];decide)
               rwa [hb9] at this
             · exact ((zAg (zAd bC.out aG.out) _).setCell (Nat.le_refl _) _).setCell (Nat.le_refl _) _
         · obtain rfl:q=k:=by omega
           have aG:=hid hB2;have qD:=hid wG;clear hB2 wG;go_wp2_with fail;go_roundw
           case rel=>
            refine ⟨q+1,by omega,by go_num,fun j e hj he=> ?_,aG.out⟩;rcases Nat.lt_or_ge j q with h | h
            · exact gF.out j e h he
            · obtain rfl:j=q:=by omega
              rw [HX.out] at he;cases he;exact bad1_not fZ.out qD.out
           case measure=> simp [intOf];omega
      · have fZ:=hid jX;have zO:(zAv x==0)=false:=by simpa using jX
        go_wp2_with (go_at_call 53;refine (rcheck_any x _ cH.out).mono ?_;rintro en w1 ⟨rfl,aI⟩;have aL:=hid (zAd HB.out aI);have hA1:=(zAc (zAa aL.out HA.out)).1;have fA:=(zAc (zAa aL.out HA.out)).2;have k0:=hA1 0 _ rfl;have k1:=hA1 1 _ rfl;clear aI hA1)
        (try rw [Exit.noGoto_ret])
        refine bodyPost_ret (v:=.tuple #[.pointer none,.agg #[.int .i64 (zAv x),.int .i64 k]]) ?_ rfl (zDn ?_ ?_)
        · rw [zAq rfl];go_simp
        · have:=ofL_bad HL.out HX.out gF.out (by rw [bad1_chk fZ.out];exact fZ.out)
          rwa [bad1_chk fZ.out] at this
        · exact ((zAd bC.out aL.out).setCell (Nat.le_refl _) _).setCell (Nat.le_refl _) _
    · obtain rfl:k=l.length:=by omega
      have mC:=ofL_good HL.out (fun j e he=> gF.out j e (List.getElem?_eq_some_iff.1 he).1 he);have HG:=hid mC;have HB:=hid hb;have uZ:=hid (HV.out.below hb (Nat.le_refl _));have hlen256:=HL.out;clear mC hb;go_upto_region 16 with (refine zBy rfl _ _ _ rfl w0.heap.size 35 8 104 i0 (.agg #[.int .u8 0,.string ⟨#[]⟩,.string ⟨#[]⟩,.string ⟨#[]⟩,.string ⟨#[]⟩,.string ⟨#[]⟩,.float .f64 0,.int .i64 0]) Tryz.underlying31 hi cG bD cB rfl (by decide) _ 0 [] (World.ownsRow_nil _ _ _ _) HB.out.size _ _ _ uZ.out rfl rfl (by intro u hu;obtain ⟨z,_,hz⟩:=List.mem_flatMap.1 hu;exact ea_one z u hz) (by simp [maxLen];omega) (by omega) ?_;intro v1 w1 aS fX pC;rw [Nat.zero_add,List.nil_append] at aS;obtain ⟨a1,c1,rfl⟩:=(IsSl.of_own aS).form);have hB1:Below w0.heap.size w0 w1:=zBo HB.out fX (by intro k e;cases e);have hR1:RN (w1.alloc (.cells #[.slice a1 l.length c1,.bool true] 105)) (.pointer (some ⟨w1.heap.size,0,none⟩)) l:=rn_new (IsSl.of_own aS);have hB2:Below w0.heap.size w0 (w1.alloc (.cells #[.slice a1 l.length c1,.bool true] 105)):=hB1.alloc hB1.size _;generalize (w1.alloc (.cells #[.slice a1 l.length c1,.bool true] 105))=w2 at *;generalize w1.heap.size=gn at *;have HR:=hid hR1;have aG:=hid hB2;clear hR1 hB2 hB1 aS fX pC
      by_cases zR:32 < (nds l).length
      · have zH:32 < ((nds l).length:Int):=by omega
        have eM:=hid (HG.out.trans (if_pos (.inl zR)));go_wp2_with (go_at_call 54;refine (rnodes_any _ l _ HR.out hlen).mono ?_;rintro en w3 ⟨v3,xs3,rfl,bA,rfl,fP⟩;obtain ⟨a3,c3,rfl⟩:=(IsSl.of_own bA).form;have aT:=hid (zAd aG.out fP);have hA1:=(zAc (zAa aT.out HA.out)).1;have fA:=(zAc (zAa aT.out HA.out)).2;have k0:=hA1 0 _ rfl;have k1:=hA1 1 _ rfl;clear fP hA1 bA)
        (try rw [Exit.noGoto_ret])
        refine bodyPost_ret (v:=.tuple #[.pointer none,.agg #[.int .i64 3,.int .i64 (-1)]]) ?_ rfl (zDn eM.out ?_)
        · rw [zAq rfl];go_simp
        · exact ((zAd bC.out aT.out).setCell (Nat.le_refl _) _).setCell (Nat.le_refl _) _
      · have zH:((nds l).length:Int)≤32:=by omega
        by_cases h64:64 < (nds l).length+(brs l).length
        · have zG:64 < ((nds l).length:Int)+((brs l).length:Int):=by omega
          have eM:=hid (HG.out.trans (if_pos (.inr h64)));go_wp2_with (first | (go_at_call 54;refine (rnodes_any _ l _ HR.out hlen).mono ?_;rintro en w3 ⟨v3,xs3,rfl,bA,rfl,fP⟩;obtain ⟨a3,c3,rfl⟩:=(IsSl.of_own bA).form;have HR3:=hid (HR.out.below' fP);have aT:=hid (zAd aG.out fP);clear fP bA) | (go_at_call 28;refine (rorder_any _ l _ HR3.out hlen).mono ?_;rintro en w4 ⟨rfl,cI⟩;have HR4:=hid (HR3.out.below' cI);have bI:=hid (zAd aT.out cI);have hA1:=(zAc (zAa bI.out HA.out)).1;have fA:=(zAc (zAa bI.out HA.out)).2;have k0:=hA1 0 _ rfl;have k1:=hA1 1 _ rfl;clear cI hA1))
          (try rw [Exit.noGoto_ret])
          refine bodyPost_ret (v:=.tuple #[.pointer none,.agg #[.int .i64 3,.int .i64 (-1)]]) ?_ rfl (zDn eM.out ?_)
          · rw [zAq rfl];go_simp
          · exact ((zAd bC.out bI.out).setCell (Nat.le_refl _) _).setCell (Nat.le_refl _) _
        · have zG:((nds l).length:Int)+((brs l).length:Int)≤64:=by omega
          have eM:=hid (HG.out.trans (if_neg (by omega)));go_wp2_with (first | (go_at_call 54;refine (rnodes_any _ l _ HR.out hlen).mono ?_;rintro en w3 ⟨v3,xs3,rfl,bA,rfl,fP⟩;obtain ⟨a3,c3,rfl⟩:=(IsSl.of_own bA).form;have HR3:=hid (HR.out.below' fP);have aT:=hid (zAd aG.out fP);clear fP bA) | (go_at_call 28;refine (rorder_any _ l _ HR3.out hlen).mono ?_;rintro en w4 ⟨rfl,cI⟩;have HR4:=hid (HR3.out.below' cI);have bI:=hid (zAd aT.out cI);have hA1:=(zAc (zAa bI.out HA.out)).1;have fA:=(zAc (zAa bI.out HA.out)).2;have k0:=hA1 0 _ rfl;have k1:=hA1 1 _ rfl;clear cI hA1))
          (try rw [Exit.noGoto_ret])
          refine bodyPost_ret (v:=.tuple #[.pointer (some ⟨gn,0,none⟩),.agg #[.int .i64 0,.int .i64 0]]) ?_ rfl ⟨_,by rw [eM.out],.inr ⟨by rw [eM.out],by simp,?_⟩,?_⟩
          · rw [zAq rfl];go_simp
          · rw [zEv (zAa bI.out HA.out) rfl,zEv (zAa bI.out HA.out) rfl];exact HR4.out
          · exact ((zAd bC.out bI.out).setCell (Nat.le_refl _) _).setCell (Nat.le_refl _) _
end
section
open Go.RowKit
def plI (l:List ByteArray) (s:ByteArray):Int:=if has l s=true then (l.findIdx fun t=> t.toList==s.toList:Nat) else 0
theorem plI_no {l:List ByteArray} {s:ByteArray} (h:has l s=false):plI l s=0:=by unfold plI;rw [if_neg (by rw [h];simp)]
theorem find_first {α:Type} {p:α→Bool}:∀ (l:List α) (k:Nat) (x:α),(l.take k).any p=false→l[k]? =some x→p x=true→l.findIdx p=k∧l.any p=true∧l.find? p=some x
 | [],k,x,_,h,_=> by simp at h
 | y::l,0,x,_,h,hx=> by
  obtain rfl:y=x:=by simpa using h
  simp [List.findIdx_cons,hx]
 | y::l,k+1,x,hn,h,hx=> by
  rw [List.take_succ_cons,List.any_cons,Bool.or_eq_false_iff] at hn;obtain ⟨h1,h2,h3⟩:=find_first l k x hn.2 (by simpa using h) hx
  simp [List.findIdx_cons,hn.1,h1,h2,h3]
theorem plI_at {l:List ByteArray} {s t:ByteArray} {k:Nat} (hn:has (l.take k) s=false) (h:l[k]? =some t) (ht:(t.toList==s.toList)=true):has l s=true∧plI l s=k:=by
 obtain ⟨h1,h2,_⟩:=find_first l k t hn h ht;have h3:has l s=true:=h2;refine ⟨h3,?_⟩;unfold plI;rw [if_pos h3,h1]
end
section
open Go.RowKit
abbrev DU:=DataW Unit
def kls (s:ByteArray):Lit:=.string s.data.toList
def plD (i:Int):DU:=.lit (.int .i64 i)
theorem zEi (s:ByteArray):s.toList=s.data.toList:=by
 first | exact ByteArray.toList_eq s | exact ByteArray.toList_data s | simp [ByteArray.toList_eq] | rfl
theorem zEw (s t:ByteArray):(s.toList==t.toList)=true ↔ s=t:=by
 rw [beq_iff_eq,zEi,zEi];exact ⟨fun h=> ByteArray.ext (Array.toList_inj.1 h),fun h=> by rw [h]⟩
theorem kls_ne {s t:ByteArray} (h:¬s=t):kls s≠kls t:=fun e=> h (ByteArray.ext (Array.toList_inj.1 (by injection e)))
theorem kls_key (s:ByteArray):WideAt.IsKeyLit (kls s):=trivial
theorem has_iff (l:List ByteArray) (s:ByteArray):has l s=true ↔ s∈l:=by
 unfold has;rw [List.any_eq_true]
 constructor
 · rintro ⟨t,ht,h⟩;rw [zEw] at h;exact h ▸ ht
 · intro h;exact ⟨s,h,by simp⟩
def MapIs (D:DU) (l:List ByteArray):Prop:=Maps.IsMap D∧∀s,D.atKey (kls s) (plD 0)=plD (plI l s)∧Maps.has D (kls s)=has l s
theorem mapIs_empty:MapIs (.map []) []:=⟨Maps.isMap_empty,fun _=> ⟨rfl,rfl⟩⟩
theorem has_app (l:List ByteArray) (s t:ByteArray):has (l++ [s]) t=(has l t || (s.toList==t.toList)):=by simp [has]
theorem plI_old {l:List ByteArray} {s t:ByteArray} (h:¬s=t):plI (l++ [s]) t=plI l t:=by
 have hf:(s.toList==t.toList)=false:=by
  cases e:(s.toList==t.toList)
  · rfl
  · exact absurd ((zEw s t).1 e) h
 unfold plI;rw [has_app,hf,Bool.or_false];cases hh:has l t
 · simp
 · simp only [if_true];rw [List.findIdx_append];have:l.findIdx (fun u=> u.toList==t.toList) < l.length:=List.findIdx_lt_length.2 (by
    obtain ⟨u,hu,oY⟩:=List.any_eq_true.1 hh;exact ⟨u,hu,oY⟩)
   rw [if_pos this]
theorem plI_new {l:List ByteArray} {s:ByteArray} (h:has l s=false):plI (l++ [s]) s=l.length∧has (l++ [s]) s=true:=by
 have:=plI_at (l:=l++ [s]) (s:=s) (t:=s) (k:=l.length) (by rw [List.take_left' rfl];exact h) (by simp) (by simp);exact ⟨this.2,this.1⟩
theorem zFg {D:DU} {l:List ByteArray} {s:ByteArray} (h:MapIs D l) (hs:has l s=false):MapIs (D.put (kls s) (plD l.length)) (l++ [s]):=by
 refine ⟨h.1.put _ _,fun t=> ?_⟩
 by_cases e:s=t
 · subst e;obtain ⟨h1,h2⟩:=plI_new hs;rw [Maps.atKey_put_same h.1 (kls_key s),Maps.has_put_same h.1 (kls_key s),h1,h2];exact ⟨rfl,rfl⟩
 · have hf:(s.toList==t.toList)=false:=by
    cases e2:(s.toList==t.toList)
    · rfl
    · exact absurd ((zEw s t).1 e2) e
   rw [Maps.atKey_put_other (kls_ne fun x=> e x.symm),Maps.has_put_other (kls_ne fun x=> e x.symm),plI_old e,has_app,hf,Bool.or_false];exact h.2 t
end
section
open Go.RowKit
theorem zFj (w:World):(zeroValue 3).run Tryz.prog w=.ok (.int .i64 0) w:=by kernel_rfl
def zFd (w:World) (b:Nat) (ns:List ByteArray):Prop:=∃D:DU,w.ownsMap Tryz.prog 9 (plainElem Tryz.prog 3) b ns.length D∧MapIs D ns
theorem zFd.kept {w w':World} {b:Nat} {ns:List ByteArray} {row:Option Nat} (h:zFd w b ns) (hg:w.grownBy w' row) (aK:some b≠row):zFd w' b ns:=by
 obtain ⟨D,h1,h2⟩:=h;exact ⟨D,h1.kept hg aK,h2⟩
theorem zFd.lt {w:World} {b:Nat} {ns:List ByteArray} (h:zFd w b ns):b < w.heap.size:=by
 obtain ⟨D,h1,_⟩:=h;exact h1.lt
theorem zFd.ne_row {w:World} {b B e size n:Nat} {ns:List ByteArray} {v:Value} {xs:List Value} (h:zFd w b ns) (ho:w.ownsRow B e size v n xs):v.ownBlock≠some b:=by
 intro hv;obtain ⟨D,⟨es,clock,hb,_⟩,_⟩:=h;rcases ho.2 with ⟨rfl,_⟩ | ⟨g,cap,cur,rfl,_,hg,_⟩
 · cases hv
 · cases hv;rw [hb] at hg;cases hg
theorem zFd.ne_blk {w:World} {b g:Nat} {ns:List ByteArray} {cs:Array Value} {t:TypeId} {f:Nat × Nat} (h:zFd w b ns) (hg:w.heap[g]? =some (.cells cs t f)):g≠b:=by
 intro e;subst e;obtain ⟨D,⟨es,clock,hb,_⟩,_⟩:=h;rw [hb] at hg;cases hg
structure NetAt (B:Nat) (w:World) (g:Nat) (vl vn vb:Value) (bn bp bb:Nat) (l:List El) (ns N Np bs Bp:List ByteArray):Prop where
 gB:B≤g
 blk:w.heap[g]? =some (.cells #[.bool true,vl,.map (some bn),vn,.map (some bp),vb,.map (some bb)] 72)
 ol:w.ownsRow B 35 8 vl l.length (l.flatMap ea)
 on:w.ownsRow B 9 1 vn N.length (sts N)
 ob:w.ownsRow B 9 1 vb bs.length (sts bs)
 lg:vl.ownBlock≠some g
 ng:vn.ownBlock≠some g
 bg:vb.ownBlock≠some g
 ln:∀r,vl.ownBlock=some r→vn.ownBlock≠some r
 lb:∀r,vl.ownBlock=some r→vb.ownBlock≠some r
 nb:∀r,vn.ownBlock=some r→vb.ownBlock≠some r
 bnB:B≤bn
 bpB:B≤bp
 bbB:B≤bb
 np:bn≠bp
 nbb:bn≠bb
 pb:bp≠bb
 mn:zFd w bn ns
 mp:zFd w bp Np
 mb:zFd w bb Bp
def zDw (w w':World) (v:Value) (r:Nat):Prop:=(v.ownBlock=some r∧w.grownBy w' (some r))∨(w.heap.size≤r∧w.grownBy w' none)
theorem fresh_ne {w w':World} {r B e size n:Nat} {v u:Value} {xs:List Value} (h:zDw w w' v r) (aK:∀k,v.ownBlock=some k→u.ownBlock≠some k) (hu:w.ownsRow B e size u n xs):u.ownBlock≠some r:=by
 rcases h with ⟨h1,_⟩ | ⟨h1,_⟩
 · exact aK r h1
 · intro x;have:=(hu.lt _ x).2
   omega
theorem fresh_blk {w w':World} {r g:Nat} {v:Value} (h:zDw w w' v r) (aK:v.ownBlock≠some g) (hg:g < w.heap.size):g≠r:=by
 rcases h with ⟨h1,_⟩ | ⟨h1,_⟩
 · intro e;subst e;exact aK h1
 · omega
theorem zEd {w w':World} {r B e size n:Nat} {v u:Value} {xs:List Value} (h:zDw w w' v r) (aK:∀k,v.ownBlock=some k→u.ownBlock≠some k) (hu:w.ownsRow B e size u n xs):w'.ownsRow B e size u n xs:=by
 rcases h with ⟨h1,h2⟩ | ⟨_,h2⟩
 · exact hu.kept h2 (.inr (aK r h1))
 · exact hu.kept h2 (by cases u.ownBlock <;> simp)
theorem zCq {w w':World} {r B e size n b:Nat} {v:Value} {xs:List Value} {ns:List ByteArray} (h:zDw w w' v r) (hv:w.ownsRow B e size v n xs) (hm:zFd w b ns):zFd w' b ns:=by
 rcases h with ⟨h1,h2⟩ | ⟨_,h2⟩
 · exact hm.kept h2 (fun x=> hm.ne_row hv (h1.trans x.symm))
 · exact hm.kept h2 (by simp)
theorem zEe {w w':World} {r g:Nat} {v:Value} {o:Obj} (h:zDw w w' v r) (aK:v.ownBlock≠some g) (hg:w.heap[g]? =some o):w'.heap[g]? =some o:=by
 have aM:=(Array.getElem?_eq_some_iff.1 hg).1;rcases h with ⟨h1,h2⟩ | ⟨_,h2⟩
 · exact (h2.block g aM (fun x=> aK (h1.trans x.symm))).trans hg
 · exact (h2.block g aM (by simp)).trans hg
theorem grown_set (w:World) (g o:Nat) (v:Value):w.grownBy (w.setCell ⟨g,o,none⟩ v) (some g):=
 ⟨rfl,rfl,rfl,by simp [World.setCell],fun k _ aK=> Below.heap_setCell _ _ _ _ (fun e=> aK (by rw [e]))⟩
theorem blk_set {w:World} {g o:Nat} {cs:Array Value} {t:TypeId} {f:Nat × Nat} (h:w.heap[g]? =some (.cells cs t f)) (v:Value):(w.setCell ⟨g,o,none⟩ v).heap[g]? =some (.cells (cs.setIfInBounds o v) t f):=by
 unfold World.setCell
 simp [Array.getElem?_modify,h]
section
variable {B g bn bp bb:Nat} {w w':World} {vl vn vb:Value} {l:List El} {ns N Np bs Bp:List ByteArray}
theorem NetAt.names (h:NetAt B w g vl vn vb bn bp bb l ns N Np bs Bp) (hg:w.grownBy w' (some bn)) {ns':List ByteArray} (hm:zFd w' bn ns'):NetAt B w' g vl vn vb bn bp bb l ns' N Np bs Bp:=
 {h with
  blk:=(hg.block g (Array.getElem?_eq_some_iff.1 h.blk).1 (by simpa using h.mn.ne_blk h.blk)).trans h.blk
  ol:=h.ol.kept hg (.inr (h.mn.ne_row h.ol))
  on:=h.on.kept hg (.inr (h.mn.ne_row h.on))
  ob:=h.ob.kept hg (.inr (h.mn.ne_row h.ob))
  mn:=hm
  mp:=h.mp.kept hg (by simpa using h.np.symm)
  mb:=h.mb.kept hg (by simpa using h.nbb.symm)}
theorem NetAt.places (h:NetAt B w g vl vn vb bn bp bb l ns N Np bs Bp) (hg:w.grownBy w' (some bp)) {Np':List ByteArray} (hm:zFd w' bp Np'):NetAt B w' g vl vn vb bn bp bb l ns N Np' bs Bp:=
 {h with
  blk:=(hg.block g (Array.getElem?_eq_some_iff.1 h.blk).1 (by simpa using h.mp.ne_blk h.blk)).trans h.blk
  ol:=h.ol.kept hg (.inr (h.mp.ne_row h.ol))
  on:=h.on.kept hg (.inr (h.mp.ne_row h.on))
  ob:=h.ob.kept hg (.inr (h.mp.ne_row h.ob))
  mn:=h.mn.kept hg (by simpa using h.np)
  mp:=hm
  mb:=h.mb.kept hg (by simpa using h.pb.symm)}
theorem NetAt.branch (h:NetAt B w g vl vn vb bn bp bb l ns N Np bs Bp) (hg:w.grownBy w' (some bb)) {Bp':List ByteArray} (hm:zFd w' bb Bp'):NetAt B w' g vl vn vb bn bp bb l ns N Np bs Bp':=
 {h with
  blk:=(hg.block g (Array.getElem?_eq_some_iff.1 h.blk).1 (by simpa using h.mb.ne_blk h.blk)).trans h.blk
  ol:=h.ol.kept hg (.inr (h.mb.ne_row h.ol))
  on:=h.on.kept hg (.inr (h.mb.ne_row h.on))
  ob:=h.ob.kept hg (.inr (h.mb.ne_row h.ob))
  mn:=h.mn.kept hg (by simpa using h.nbb)
  mp:=h.mp.kept hg (by simpa using h.pb)
  mb:=hm}
theorem NetAt.kept (h:NetAt B w g vl vn vb bn bp bb l ns N Np bs Bp) (hg:w.grownBy w' none):NetAt B w' g vl vn vb bn bp bb l ns N Np bs Bp:=
 {h with
  blk:=(hg.block g (Array.getElem?_eq_some_iff.1 h.blk).1 (by simp)).trans h.blk
  ol:=zBf h.ol hg
  on:=zBf h.on hg
  ob:=zBf h.ob hg
  mn:=h.mn.kept hg (by simp)
  mp:=h.mp.kept hg (by simp)
  mb:=h.mb.kept hg (by simp)}
theorem NetAt.alloc (h:NetAt B w g vl vn vb bn bp bb l ns N Np bs Bp) (o:Obj):NetAt B (w.alloc o) g vl vn vb bn bp bb l ns N Np bs Bp:=h.kept (World.grownBy_alloc w o none)
theorem NetAt.drew (h:NetAt B w g vl vn vb bn bp bb l ns N Np bs Bp):NetAt B w.drew g vl vn vb bn bp bb l ns N Np bs Bp:=h.kept ⟨rfl,rfl,rfl,Nat.le_refl _,fun _ _ _=> rfl⟩
theorem NetAt.pushL (h:NetAt B w g vl vn vb bn bp bb l ns N Np bs Bp) {r n c:Nat} {e:El} (ho:w'.ownsRow B 35 8 (.slice (some ⟨r,0,none⟩) n c) (l.length+1) (l.flatMap ea++ea e)) (hp:zDw w w' vl r):
 NetAt B (w'.setCell ⟨g,1,none⟩ (.slice (some ⟨r,0,none⟩) n c)) g (.slice (some ⟨r,0,none⟩) n c) vn vb bn bp bb (l++ [e]) ns N Np bs Bp:=by
 have tH:=(Array.getElem?_eq_some_iff.1 h.blk).1;have aF:=fresh_blk hp h.lg tH;have hs:=grown_set w' g 1 (.slice (some ⟨r,0,none⟩) n c);have hb:=zEe hp h.lg h.blk;exact
 {h with
  blk:=blk_set hb _
  ol:=by rw [flat_snoc,List.length_append];exact ho.kept hs (.inr (fun x=> aF (Option.some.inj x).symm))
  on:=(zEd hp h.ln h.on).kept hs (.inr h.ng)
  ob:=(zEd hp h.lb h.ob).kept hs (.inr h.bg)
  lg:=fun x=> aF (Option.some.inj x).symm
  ln:=fun k hk=> by cases hk;exact fresh_ne hp h.ln h.on
  lb:=fun k hk=> by cases hk;exact fresh_ne hp h.lb h.ob
  mn:=(zCq hp h.ol h.mn).kept hs (fun x=> h.mn.ne_blk h.blk (Option.some.inj x).symm)
  mp:=(zCq hp h.ol h.mp).kept hs (fun x=> h.mp.ne_blk h.blk (Option.some.inj x).symm)
  mb:=(zCq hp h.ol h.mb).kept hs (fun x=> h.mb.ne_blk h.blk (Option.some.inj x).symm)}
theorem NetAt.pushN (h:NetAt B w g vl vn vb bn bp bb l ns N Np bs Bp) {r n c:Nat} {s:ByteArray} (ho:w'.ownsRow B 9 1 (.slice (some ⟨r,0,none⟩) n c) (N.length+1) (sts N++ [.string s])) (hp:zDw w w' vn r):
 NetAt B (w'.setCell ⟨g,3,none⟩ (.slice (some ⟨r,0,none⟩) n c)) g vl (.slice (some ⟨r,0,none⟩) n c) vb bn bp bb l ns (N++ [s]) Np bs Bp:=by
 have tH:=(Array.getElem?_eq_some_iff.1 h.blk).1;have aF:=fresh_blk hp h.ng tH;have hs:=grown_set w' g 3 (.slice (some ⟨r,0,none⟩) n c);have hb:=zEe hp h.ng h.blk;have wH:∀k,vn.ownBlock=some k→vl.ownBlock≠some k:=fun k hk hl=> h.ln k hl hk
 exact
 {h with
  blk:=blk_set hb _
  ol:=(zEd hp wH h.ol).kept hs (.inr h.lg)
  on:=by rw [sts_snoc,List.length_append];exact ho.kept hs (.inr (fun x=> aF (Option.some.inj x).symm))
  ob:=(zEd hp h.nb h.ob).kept hs (.inr h.bg)
  ng:=fun x=> aF (Option.some.inj x).symm
  ln:=fun k hk x=> fresh_ne hp wH h.ol (hk.trans x.symm)
  nb:=fun k hk=> by cases hk;exact fresh_ne hp h.nb h.ob
  mn:=(zCq hp h.on h.mn).kept hs (fun x=> h.mn.ne_blk h.blk (Option.some.inj x).symm)
  mp:=(zCq hp h.on h.mp).kept hs (fun x=> h.mp.ne_blk h.blk (Option.some.inj x).symm)
  mb:=(zCq hp h.on h.mb).kept hs (fun x=> h.mb.ne_blk h.blk (Option.some.inj x).symm)}
theorem NetAt.pushB (h:NetAt B w g vl vn vb bn bp bb l ns N Np bs Bp) {r n c:Nat} {s:ByteArray} (ho:w'.ownsRow B 9 1 (.slice (some ⟨r,0,none⟩) n c) (bs.length+1) (sts bs++ [.string s])) (hp:zDw w w' vb r):
 NetAt B (w'.setCell ⟨g,5,none⟩ (.slice (some ⟨r,0,none⟩) n c)) g vl vn (.slice (some ⟨r,0,none⟩) n c) bn bp bb l ns N Np (bs++ [s]) Bp:=by
 have tH:=(Array.getElem?_eq_some_iff.1 h.blk).1;have aF:=fresh_blk hp h.bg tH;have hs:=grown_set w' g 5 (.slice (some ⟨r,0,none⟩) n c);have hb:=zEe hp h.bg h.blk;have rH:∀k,vb.ownBlock=some k→vl.ownBlock≠some k:=fun k hk hl=> h.lb k hl hk
 have dP:∀k,vb.ownBlock=some k→vn.ownBlock≠some k:=fun k hk hl=> h.nb k hl hk
 exact
 {h with
  blk:=blk_set hb _
  ol:=(zEd hp rH h.ol).kept hs (.inr h.lg)
  on:=(zEd hp dP h.on).kept hs (.inr h.ng)
  ob:=by rw [sts_snoc,List.length_append];exact ho.kept hs (.inr (fun x=> aF (Option.some.inj x).symm))
  bg:=fun x=> aF (Option.some.inj x).symm
  lb:=fun k hk x=> fresh_ne hp rH h.ol (hk.trans x.symm)
  nb:=fun k hk x=> fresh_ne hp dP h.on (hk.trans x.symm)
  mn:=(zCq hp h.ob h.mn).kept hs (fun x=> h.mn.ne_blk h.blk (Option.some.inj x).symm)
  mp:=(zCq hp h.ob h.mp).kept hs (fun x=> h.mp.ne_blk h.blk (Option.some.inj x).symm)
  mb:=(zCq hp h.ob h.mb).kept hs (fun x=> h.mb.ne_blk h.blk (Option.some.inj x).symm)}
end
end
end Go.Proofs.YtdepiggjneoopaaGreatDoor
