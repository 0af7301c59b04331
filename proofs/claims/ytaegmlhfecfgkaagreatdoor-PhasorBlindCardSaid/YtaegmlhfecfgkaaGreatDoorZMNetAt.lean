/- a part of the proof of the last text -/
import Derived.Test.YtaegmlhfecfgkaaGreatDoorZMCheck13
import Derived.Maps.OwnSet
namespace Go.Proofs.YtaegmlhfecfgkaaGreatDoor
set_option linter.all false
set_option maxHeartbeats 4000000
set_option maxRecDepth 100000
section
open Go.RowKit
theorem RN.below' {w w1:World} {p:Value} {l:List El} (h:RN w p l) (hb:Below w.heap.size w w1):RN w1 p l:=h.below hb (Nat.le_refl _)
theorem rorder_any (p:Value) (l:List El) (w:World) (hp:RN w p l) (hl:l.length≤100000):
 Calls Tryz.prog 18 #[p] w (RetI ((nds l).length+(brs l).length) w):=by
 have hn:=nds_len l;have hbl:=brs_len l;have hw:IntKind.i64.wrap (((nds l).length:Int)+((brs l).length:Int))=((nds l).length:Int)+((brs l).length:Int):=by
  unfold IntKind.wrap
  first | (simp [IntKind.bits,IntKind.signed];omega) | (simp;omega)
 have HP:=hid hp;clear hp;go_enter Tryz.func18,Tryz.ntmps18;go_wp2_with (first | (go_at_call 32;refine (rnodes_any _ l _ HP.out hl).mono ?_;rintro e w1 ⟨v1,xs,rfl,hown1,rfl,hb1⟩;obtain ⟨a1,c1,rfl⟩:=(IsSl.of_own hown1).form;have HB1:=hid hb1;clear hb1) | (go_at_call 33;refine (rbranches_any _ l _ (HP.out.below' HB1.out) hl).mono ?_;rintro e w2 ⟨v2,xs2,rfl,hown2,rfl,hb2⟩;obtain ⟨a2,c2,rfl⟩:=(IsSl.of_own hown2).form;have HB2:=hid hb2;clear hb2));go_ret;exact ⟨ret_int (by first | rfl | simpa using hw),below_next HB1.out HB2.out⟩
def named (l:List El) (s:ByteArray):Bool:=l.any fun d=> d.name.toList==s.toList
def bad1 (l:List El) (k:Nat) (e:El):Int:=if checkE e=0 then if named (l.take k) e.name=true then 9 else 0 else checkE e
def firstBad (l:List El):Nat→List El→Option (Nat × Int)
 | _, []=> none
 | k,e::r=> if bad1 l k e=0 then firstBad l (k+1) r else some (k,bad1 l k e)
def ofL (l:List El):Bool × Int × Int:=
 if 256 < l.length then (false,3,-1) else match firstBad l 0 l with
  | some (k,x)=> (false,x,k)
  | none=> if 32 < (nds l).length∨64 < (nds l).length+(brs l).length then (false,3,-1) else (true,0,0)
theorem first_drop (l:List El):∀ (r:List El) (k:Nat),(∀ (j:Nat) (e:El),r[j]? =some e→bad1 l (k+j) e=0)→firstBad l k r=none
 | [],_,_=> rfl
 | e::r,k,h=> by
  have h0:bad1 l k e=0:=h 0 e rfl;unfold firstBad;rw [if_pos h0];exact first_drop l r (k+1) fun j x hj=> by have:=h (j+1) x hj;rwa [show k+(j+1)=k+1+j by omega] at this
theorem first_at (l:List El):∀ (r:List El) (k i:Nat) (x:El),r[i]? =some x→(∀ (j:Nat) (e:El),j < i→r[j]? =some e→bad1 l (k+j) e=0)→bad1 l (k+i) x≠0→firstBad l k r=some (k+i,bad1 l (k+i) x)
 | [],_,_,_,h,_,_=> by simp at h
 | e::r,k,0,x,h,_,hx=> by
  obtain rfl:e=x:=by simpa using h
  unfold firstBad;rw [Nat.add_zero] at hx;rw [if_neg hx,Nat.add_zero]
 | e::r,k,i+1,x,h,hb,hx=> by
  have h0:bad1 l k e=0:=hb 0 e (by omega) rfl;unfold firstBad;rw [if_pos h0];have:=first_at l r (k+1) i x h (fun j y hj hy=> by have:=hb (j+1) y (by omega) hy;rwa [show k+(j+1)=k+1+j by omega] at this) (by rwa [show k+1+i=k+(i+1) by omega]);rw [this,show k+1+i=k+(i+1) by omega]
theorem ofL_long {l:List El} (h:256 < l.length):ofL l=(false,3,-1):=by unfold ofL;rw [if_pos h]
theorem ofL_bad {l:List El} {k:Nat} {x:El} (hl:¬256 < l.length) (hx:l[k]? =some x) (hb:∀ (j:Nat) (e:El),j < k→l[j]? =some e→bad1 l j e=0) (h:bad1 l k x≠0):ofL l=(false,bad1 l k x,(k:Int)):=by
 have:=first_at l l 0 k x hx (fun j e hj he=> by rw [Nat.zero_add];exact hb j e hj he) (by rwa [Nat.zero_add]);unfold ofL;rw [if_neg hl,this,Nat.zero_add]
theorem ofL_good {l:List El} (hl:¬256 < l.length) (hb:∀ (j:Nat) (e:El),l[j]? =some e→bad1 l j e=0):ofL l=if 32 < (nds l).length∨64 < (nds l).length+(brs l).length then (false,3,-1) else (true,0,0):=by
 have:=first_drop l l 0 (fun j e he=> by rw [Nat.zero_add];exact hb j e he);unfold ofL;rw [if_neg hl,this]
theorem named_snoc {l:List El} {k:Nat} {t:El} (h:l[k]? =some t) (s:ByteArray):named (l.take (k+1)) s=(named (l.take k) s || (t.name.toList==s.toList)):=by
 obtain ⟨hk,e⟩:=List.getElem?_eq_some_iff.1 h;subst e;unfold named;rw [List.take_succ_eq_append_getElem hk,List.any_append]
 simp
def RetOf (R:World→Value→List El→Prop) (l:List El) (w:World) (en:Ending) (w':World):Prop:=
 ∃p,en=.returned (.tuple #[p,.agg #[.int .i64 (ofL l).2.1,.int .i64 (ofL l).2.2]])∧(((ofL l).1=false∧p=.pointer none)∨((ofL l).1=true∧p≠ .pointer none∧R w' p l))∧Below w.heap.size w w'
theorem retof_no {R:World→Value→List El→Prop} {l:List El} {w w':World} {x a:Int} (h:ofL l=(false,x,a)) (hb:Below w.heap.size w w'):RetOf R l w (.returned (.tuple #[.pointer none,.agg #[.int .i64 x,.int .i64 a]])) w':=
 ⟨_,by rw [h],.inl ⟨by rw [h],rfl⟩,hb⟩
theorem results_tmp_cell {fn:Func} {p u:Tmp} {ty:TypeId} (h:fn.results=#[.tmp u,.cell p ty]) (tmps:Array Value) (P:Program) (w:World):
 (results fn tmps).run P w=
  ((asAddr (tmps.getD p undef)).run P w).andThen fun a w₁=> ((loadVar ty a).run P w₁).andThen fun v w₂=> .ok (.tuple #[tmps.getD u undef,v]) w₂:=by
 simp only [results,h]
 simp [Sem.run_bind,Result.andThen]
theorem bad1_chk {l:List El} {k:Nat} {e:El} (h:¬checkE e=0):bad1 l k e=checkE e:=by unfold bad1;rw [if_neg h]
theorem bad1_named {l:List El} {k:Nat} {e:El} (h:checkE e=0) (h2:named (l.take k) e.name=true):bad1 l k e=9:=by unfold bad1;rw [if_pos h,if_pos h2]
theorem bad1_not {l:List El} {k:Nat} {e:El} (h:checkE e=0) (h2:named (l.take k) e.name=false):bad1 l k e=0:=by unfold bad1;rw [if_pos h,if_neg (by rw [h2];simp)]
theorem named_at {l:List El} {k q:Nat} {t:El} {s:ByteArray} (hq:q < k) (h:l[q]? =some t) (ht:(t.name.toList==s.toList)=true):named (l.take k) s=true:=by
 unfold named;rw [List.any_eq_true];exact ⟨t,by rw [List.mem_iff_getElem?];exact ⟨q,by rw [List.getElem?_take_of_lt hq];exact h⟩,ht⟩
theorem setCell_same {w:World} {g o:Nat} {cs:Array Value} {t:TypeId} {f:Nat × Nat} {v:Value} (h:w.heap[g]? =some (.cells cs t f)) (hv:cs[o]? =some v):w.setCell ⟨g,o,none⟩ v=w:=by
 have h1:cs.setIfInBounds o v=cs:=by
  apply Array.ext_getElem?
  intro i;rw [Array.getElem?_setIfInBounds]
  split
  · rename_i e;subst e;have:=(Array.getElem?_eq_some_iff.1 hv).1;rw [hv];simp [this]
  · rfl
 have h2:(w.setCell ⟨g,o,none⟩ v).heap=w.heap:=by
  unfold World.setCell
  apply Array.ext_getElem?
  intro i;simp only [Array.getElem?_modify]
  split
  · rename_i e;subst e;rw [h]
    simp [h1]
  · rfl
 unfold World.setCell at h2⊢;simp only at h2;rw [h2]
theorem rn_new {w:World} {a:Option Addr} {c:Nat} {l:List El} {t:TypeId} (h:IsSl w 8 (.slice a l.length c) l.length (l.flatMap ea)):RN (w.alloc (.cells #[.slice a l.length c,.bool true] t)) (.pointer (some ⟨w.heap.size,0,none⟩)) l:=by
 have hb:Below w.heap.size w (w.alloc (.cells #[.slice a l.length c,.bool true] t)):=(Below.refl _ w).alloc (Nat.le_refl _) _;obtain ⟨hc,_⟩:=block_cells (heap_alloc_new w (.cells #[.slice a l.length c,.bool true] t));exact .inr ⟨_,_,rfl,hc 0 _ rfl,hc 1 _ rfl,h.below hb (Nat.le_refl _)⟩
theorem rof_any15 (v:Value) (l:List El) (w:World) (hv:IsSl w 8 v l.length (l.flatMap ea)) (hok:∀e∈l,e.Ok) (hlen0:l.length≤140737488355328):
 Calls Tryz.prog 17 #[v] w (RetOf RN l w):=by
 obtain ⟨a,c,rfl⟩:=hv.form;obtain ⟨i0,hi,hz0,hz1,hz2⟩:=info_parts infoEa
 by_cases hl:256 < l.length
 · go_enter Tryz.func17,Tryz.ntmps17;have hl2:256 < (l.length:Int):=by omega
   go_wp2
   (try rw [Exit.noGoto_ret])
   refine bodyPost_ret (v:=.tuple #[.pointer none,.agg #[.int .i64 3,.int .i64 (-1)]]) ?_ rfl (retof_no (ofL_long hl) ?_)
   · rw [results_tmp_cell rfl];go_simp
   · exact (Below.refl _ w).alloc (Nat.le_refl _) _
 · have hl2:¬256 < (l.length:Int):=by omega
   have hlen:l.length≤100000:=by omega
   have HL:=hid hl;clear hl;go_enter Tryz.func17,Tryz.ntmps17;go_upto_region 4 with fail;have hA:=heap_alloc_new w (.cells #[.int .i64 0,.int .i64 0] 38);have hBW:=(Below.refl w.heap.size w).alloc (Nat.le_refl _) (.cells #[.int .i64 0,.int .i64 0] 38);have hlt0:w.heap.size < (w.alloc (.cells #[.int .i64 0,.int .i64 0] 38)).heap.size:=by simp
   have hv0:=hv.below hBW (Nat.le_refl _);generalize w.alloc (.cells #[.int .i64 0,.int .i64 0] 38)=w0 at *;have HA:=hid hA;have HBW:=hid hBW;have HV:=hid hv0;clear hA hBW hv0 hv
   go_loopw [4] (fun i wr=> ∃k:Nat,k≤l.length∧i=.int .i64 k∧(∀ (j:Nat) (e:El),j < k→l[j]? =some e→bad1 l j e=0)∧Below w0.heap.size w0 wr) (fun i _=> l.length - (intOf i).toNat)
   case atStart=> exact ⟨0,Nat.zero_le _,rfl,fun j e h=> by omega,Below.refl _ _⟩
   case round=>
    obtain ⟨k,hk,rfl,hno,hb⟩:=hrel;obtain ⟨wo,rfl⟩:∃wo:World,wo=wr:=⟨_,rfl⟩;have HNO:=hid hno;clear hno
    by_cases hlt:k < l.length
    · obtain ⟨g,o,x,hidx,hg,hx,hcell⟩:=IsSl.atF Tryz.underlying45 hi hz1 ea_len (HV.out.below hb (Nat.le_refl _)) rfl hlt;have HX:=hid hx;have HOK:=hid (hok x (List.mem_of_getElem? hx));have c0:=hcell 0 _ rfl;have c1:=hcell 1 _ rfl;have c2:=hcell 2 _ rfl;have c3:=hcell 3 _ rfl;have c4:=hcell 4 _ rfl;have c5:=hcell 5 _ rfl;have c6:=hcell 6 _ rfl;have c7:=hcell 7 _ rfl;rw [Nat.add_zero] at c0;have HB:=hid hb;clear hcell hb hx hg
      by_cases hck:checkE x=0
      · have HCK:=hid hck;go_upto_region 7 with (go_at_call 31;refine (rcheck_any x _ HOK.out).mono ?_;rintro en w1 ⟨rfl,hb1⟩;rw [HCK.out];have HB1:=hid (below_next HB.out hb1);have d1:=cell_later hb1 c1;clear hb1);clear c0 c1 c2 c3 c4 c5 c6 c7;go_upto_region 10 with fail
        go_loopw [6] (fun j wj=> ∃q n:Nat,q≤k∧j=.int .i64 q∧named (l.take q) x.name=false∧wj=w1.drewN n) (fun j _=> k - (intOf j).toNat)
        case atStart=> exact ⟨0,0,Nat.zero_le _,rfl,rfl,rfl⟩
        case round=>
         obtain ⟨q,n,hq,rfl,hnm,hw⟩:=hrel;have hB2:Below w0.heap.size w0 wr:=by rw [hw];exact below_n HB1.out n
         have e1:wr.cell? ⟨g,o+1,none⟩=some (.string x.name):=by rw [hw];exact d1
         have HW:=hid hw;clear hw d1
         by_cases hltq:q < k
         · obtain ⟨g5,o5,x5,hidx5,hg5,hx5,hcell5⟩:=IsSl.atF Tryz.underlying45 hi hz1 ea_len (HV.out.below hB2 (Nat.le_refl _)) rfl (show q < l.length by omega);have c1:=hcell5 1 _ rfl;have HX5:=hid hx5;clear hcell5 hx5 hg5;cases hnn:(x5.name.toList==x.name.toList)
           · have HNN:=hid hnn;go_upto_region 12 with fail
             go_quiet (fail)
             go_wp2;go_roundw
             case rel=> exact ⟨q+1,nq+n,by omega,by go_num,by rw [named_snoc HX5.out,hnm,HNN.out];rfl,by rw [HW.out];simp [World.drewN_drewN,Nat.add_comm]⟩
             case measure=> simp [intOf];omega
           · have HNN:=hid hnn;have hA1:=block_cells (heap_later2 hB2 HA.out);obtain ⟨hA2,fA⟩:=hA1;have k0:=hA2 0 _ rfl;have k1:=hA2 1 _ rfl;have HB2:=hid hB2;clear hA2 hB2;go_upto_region 12 with fail
             go_quiet (fail)
             go_wp2
             (try rw [Exit.noGoto_ret])
             refine bodyPost_ret (v:=.tuple #[.pointer none,.agg #[.int .i64 9,.int .i64 k]]) ?_ rfl (retof_no ?_ ?_)
             · rw [results_tmp_cell rfl];go_simp
             · have hb9:bad1 l k x=9:=bad1_named HCK.out (named_at hltq HX5.out HNN.out);have:=ofL_bad HL.out HX.out HNO.out (by rw [hb9];decide)
               rwa [hb9] at this
             · exact ((below_n (below_next HBW.out HB2.out) _).setCell (Nat.le_refl _) _).setCell (Nat.le_refl _) _
         · obtain rfl:q=k:=by omega
           have HB2:=hid hB2;have HNM:=hid hnm;clear hB2 hnm;go_wp2_with fail;go_roundw
           case rel=>
            refine ⟨q+1,by omega,by go_num,fun j e hj he=> ?_,HB2.out⟩;rcases Nat.lt_or_ge j q with h | h
            · exact HNO.out j e h he
            · obtain rfl:j=q:=by omega
              rw [HX.out] at he;cases he;exact bad1_not HCK.out HNM.out
           case measure=> simp [intOf];omega
      · have HCK:=hid hck;have hbq:(checkE x==0)=false:=by simpa using hck
        go_wp2_with (go_at_call 31;refine (rcheck_any x _ HOK.out).mono ?_;rintro en w1 ⟨rfl,hb1⟩;have HB1:=hid (below_next HB.out hb1);have hA1:=(block_cells (heap_later2 HB1.out HA.out)).1;have fA:=(block_cells (heap_later2 HB1.out HA.out)).2;have k0:=hA1 0 _ rfl;have k1:=hA1 1 _ rfl;clear hb1 hA1)
        (try rw [Exit.noGoto_ret])
        refine bodyPost_ret (v:=.tuple #[.pointer none,.agg #[.int .i64 (checkE x),.int .i64 k]]) ?_ rfl (retof_no ?_ ?_)
        · rw [results_tmp_cell rfl];go_simp
        · have:=ofL_bad HL.out HX.out HNO.out (by rw [bad1_chk HCK.out];exact HCK.out)
          rwa [bad1_chk HCK.out] at this
        · exact ((below_next HBW.out HB1.out).setCell (Nat.le_refl _) _).setCell (Nat.le_refl _) _
    · obtain rfl:k=l.length:=by omega
      have hgood:=ofL_good HL.out (fun j e he=> HNO.out j e (List.getElem?_eq_some_iff.1 he).1 he);have HG:=hid hgood;have HB:=hid hb;have HVR:=hid (HV.out.below hb (Nat.le_refl _));have hlen256:=HL.out;clear hgood hb;go_upto_region 16 with (refine wpList_appendAll rfl _ _ _ rfl w0.heap.size 47 8 104 i0 (.agg #[.int .u8 0,.string ⟨#[]⟩,.string ⟨#[]⟩,.string ⟨#[]⟩,.string ⟨#[]⟩,.string ⟨#[]⟩,.float .f64 0,.int .i64 0]) Tryz.underlying45 hi hz0 hz1 hz2 rfl (by decide) _ 0 [] (World.ownsRow_nil _ _ _ _) HB.out.size _ _ _ HVR.out rfl rfl (by intro u hu;obtain ⟨z,_,hz⟩:=List.mem_flatMap.1 hu;exact ea_one z u hz) (by simp [maxLen];omega) (by omega) ?_;intro v1 w1 hown1 hgr1 hat1;rw [Nat.zero_add,List.nil_append] at hown1;obtain ⟨a1,c1,rfl⟩:=(IsSl.of_own hown1).form);have hB1:Below w0.heap.size w0 w1:=below_grown HB.out hgr1 (by intro k e;cases e);have hR1:RN (w1.alloc (.cells #[.slice a1 l.length c1,.bool true] 80)) (.pointer (some ⟨w1.heap.size,0,none⟩)) l:=rn_new (IsSl.of_own hown1);have hB2:Below w0.heap.size w0 (w1.alloc (.cells #[.slice a1 l.length c1,.bool true] 80)):=hB1.alloc hB1.size _;generalize (w1.alloc (.cells #[.slice a1 l.length c1,.bool true] 80))=w2 at *;generalize w1.heap.size=gn at *;have HR:=hid hR1;have HB2:=hid hB2;clear hR1 hB2 hB1 hown1 hgr1 hat1
      by_cases h32:32 < (nds l).length
      · have hi32:32 < ((nds l).length:Int):=by omega
        have HG2:=hid (HG.out.trans (if_pos (.inl h32)));go_wp2_with (go_at_call 32;refine (rnodes_any _ l _ HR.out hlen).mono ?_;rintro en w3 ⟨v3,xs3,rfl,hown3,rfl,hb3⟩;obtain ⟨a3,c3,rfl⟩:=(IsSl.of_own hown3).form;have HB3:=hid (below_next HB2.out hb3);have hA1:=(block_cells (heap_later2 HB3.out HA.out)).1;have fA:=(block_cells (heap_later2 HB3.out HA.out)).2;have k0:=hA1 0 _ rfl;have k1:=hA1 1 _ rfl;clear hb3 hA1 hown3)
        (try rw [Exit.noGoto_ret])
        refine bodyPost_ret (v:=.tuple #[.pointer none,.agg #[.int .i64 3,.int .i64 (-1)]]) ?_ rfl (retof_no HG2.out ?_)
        · rw [results_tmp_cell rfl];go_simp
        · exact ((below_next HBW.out HB3.out).setCell (Nat.le_refl _) _).setCell (Nat.le_refl _) _
      · have hi32:((nds l).length:Int)≤32:=by omega
        by_cases h64:64 < (nds l).length+(brs l).length
        · have hi64:64 < ((nds l).length:Int)+((brs l).length:Int):=by omega
          have HG2:=hid (HG.out.trans (if_pos (.inr h64)));go_wp2_with (first | (go_at_call 32;refine (rnodes_any _ l _ HR.out hlen).mono ?_;rintro en w3 ⟨v3,xs3,rfl,hown3,rfl,hb3⟩;obtain ⟨a3,c3,rfl⟩:=(IsSl.of_own hown3).form;have HR3:=hid (HR.out.below' hb3);have HB3:=hid (below_next HB2.out hb3);clear hb3 hown3) | (go_at_call 18;refine (rorder_any _ l _ HR3.out hlen).mono ?_;rintro en w4 ⟨rfl,hb4⟩;have HR4:=hid (HR3.out.below' hb4);have HB4:=hid (below_next HB3.out hb4);have hA1:=(block_cells (heap_later2 HB4.out HA.out)).1;have fA:=(block_cells (heap_later2 HB4.out HA.out)).2;have k0:=hA1 0 _ rfl;have k1:=hA1 1 _ rfl;clear hb4 hA1))
          (try rw [Exit.noGoto_ret])
          refine bodyPost_ret (v:=.tuple #[.pointer none,.agg #[.int .i64 3,.int .i64 (-1)]]) ?_ rfl (retof_no HG2.out ?_)
          · rw [results_tmp_cell rfl];go_simp
          · exact ((below_next HBW.out HB4.out).setCell (Nat.le_refl _) _).setCell (Nat.le_refl _) _
        · have hi64:((nds l).length:Int)+((brs l).length:Int)≤64:=by omega
          have HG2:=hid (HG.out.trans (if_neg (by omega)));go_wp2_with (first | (go_at_call 32;refine (rnodes_any _ l _ HR.out hlen).mono ?_;rintro en w3 ⟨v3,xs3,rfl,hown3,rfl,hb3⟩;obtain ⟨a3,c3,rfl⟩:=(IsSl.of_own hown3).form;have HR3:=hid (HR.out.below' hb3);have HB3:=hid (below_next HB2.out hb3);clear hb3 hown3) | (go_at_call 18;refine (rorder_any _ l _ HR3.out hlen).mono ?_;rintro en w4 ⟨rfl,hb4⟩;have HR4:=hid (HR3.out.below' hb4);have HB4:=hid (below_next HB3.out hb4);have hA1:=(block_cells (heap_later2 HB4.out HA.out)).1;have fA:=(block_cells (heap_later2 HB4.out HA.out)).2;have k0:=hA1 0 _ rfl;have k1:=hA1 1 _ rfl;clear hb4 hA1))
          (try rw [Exit.noGoto_ret])
          refine bodyPost_ret (v:=.tuple #[.pointer (some ⟨gn,0,none⟩),.agg #[.int .i64 0,.int .i64 0]]) ?_ rfl ⟨_,by rw [HG2.out],.inr ⟨by rw [HG2.out],by simp,?_⟩,?_⟩
          · rw [results_tmp_cell rfl];go_simp
          · rw [setCell_same (heap_later2 HB4.out HA.out) rfl,setCell_same (heap_later2 HB4.out HA.out) rfl];exact HR4.out
          · exact ((below_next HBW.out HB4.out).setCell (Nat.le_refl _) _).setCell (Nat.le_refl _) _
end
section
open Go.RowKit
def plI (l:List ByteArray) (s:ByteArray):Int:=if has l s=true then (l.findIdx fun t=> t.toList==s.toList:Nat) else 0
theorem find_first {α:Type} {p:α→Bool}:∀ (l:List α) (k:Nat) (x:α),(l.take k).any p=false→l[k]? =some x→p x=true→l.findIdx p=k∧l.any p=true∧l.find? p=some x
 | [],k,x,_,h,_=> by simp at h
 | y::l,0,x,_,h,hx=> by
  obtain rfl:y=x:=by simpa using h
  simp [List.findIdx_cons,hx]
 | y::l,k+1,x,hn,h,hx=> by
  rw [List.take_succ_cons,List.any_cons,Bool.or_eq_false_iff] at hn;obtain ⟨h1,h2,h3⟩:=find_first l k x hn.2 (by simpa using h) hx
  simp [List.findIdx_cons,hn.1,h1,h2,h3]
theorem plI_at {l:List ByteArray} {s t:ByteArray} {k:Nat} (hn:has (l.take k) s=false) (h:l[k]? =some t) (ht:(t.toList==s.toList)=true):has l s=true∧plI l s=k:=by
 obtain ⟨h1,h2,_⟩:=find_first l k t hn h ht;have h3:has l s=true:=h2;refine ⟨h3,?_⟩;unfold plI;rw [if_pos h3,h1]
end
section
open Go.RowKit
abbrev DU:=DataW Unit
def kls (s:ByteArray):Lit:=.string s.data.toList
def plD (i:Int):DU:=.lit (.int .i64 i)
theorem toList_data (s:ByteArray):s.toList=s.data.toList:=by
 first | exact ByteArray.toList_eq s | exact ByteArray.toList_data s | simp [ByteArray.toList_eq] | rfl
theorem same_iff (s t:ByteArray):(s.toList==t.toList)=true ↔ s=t:=by
 rw [beq_iff_eq,toList_data,toList_data];exact ⟨fun h=> ByteArray.ext (Array.toList_inj.1 h),fun h=> by rw [h]⟩
theorem kls_ne {s t:ByteArray} (h:¬s=t):kls s≠kls t:=fun e=> h (ByteArray.ext (Array.toList_inj.1 (by injection e)))
theorem kls_key (s:ByteArray):WideAt.IsKeyLit (kls s):=trivial
theorem has_iff (l:List ByteArray) (s:ByteArray):has l s=true ↔ s∈l:=by
 unfold has;rw [List.any_eq_true]
 constructor
 · rintro ⟨t,ht,h⟩;rw [same_iff] at h;exact h ▸ ht
 · intro h;exact ⟨s,h,by simp⟩
def MapIs (D:DU) (l:List ByteArray):Prop:=Maps.IsMap D∧∀s,D.atKey (kls s) (plD 0)=plD (plI l s)∧Maps.has D (kls s)=has l s
theorem mapIs_empty:MapIs (.map []) []:=⟨Maps.isMap_empty,fun _=> ⟨rfl,rfl⟩⟩
theorem has_app (l:List ByteArray) (s t:ByteArray):has (l++ [s]) t=(has l t || (s.toList==t.toList)):=by simp [has]
theorem plI_old {l:List ByteArray} {s t:ByteArray} (h:¬s=t):plI (l++ [s]) t=plI l t:=by
 have hf:(s.toList==t.toList)=false:=by
  cases e:(s.toList==t.toList)
  · rfl
  · exact absurd ((same_iff s t).1 e) h
 unfold plI;rw [has_app,hf,Bool.or_false];cases hh:has l t
 · simp
 · simp only [if_true];rw [List.findIdx_append];have:l.findIdx (fun u=> u.toList==t.toList) < l.length:=List.findIdx_lt_length.2 (by
    obtain ⟨u,hu,hu2⟩:=List.any_eq_true.1 hh;exact ⟨u,hu,hu2⟩)
   rw [if_pos this]
theorem plI_new {l:List ByteArray} {s:ByteArray} (h:has l s=false):plI (l++ [s]) s=l.length∧has (l++ [s]) s=true:=by
 have:=plI_at (l:=l++ [s]) (s:=s) (t:=s) (k:=l.length) (by rw [List.take_left' rfl];exact h) (by simp) (by simp);exact ⟨this.2,this.1⟩
theorem mapIs_put {D:DU} {l:List ByteArray} {s:ByteArray} (h:MapIs D l) (hs:has l s=false):MapIs (D.put (kls s) (plD l.length)) (l++ [s]):=by
 refine ⟨h.1.put _ _,fun t=> ?_⟩
 by_cases e:s=t
 · subst e;obtain ⟨h1,h2⟩:=plI_new hs;rw [Maps.atKey_put_same h.1 (kls_key s),Maps.has_put_same h.1 (kls_key s),h1,h2];exact ⟨rfl,rfl⟩
 · have hf:(s.toList==t.toList)=false:=by
    cases e2:(s.toList==t.toList)
    · rfl
    · exact absurd ((same_iff s t).1 e2) e
   rw [Maps.atKey_put_other (kls_ne fun x=> e x.symm),Maps.has_put_other (kls_ne fun x=> e x.symm),plI_old e,has_app,hf,Bool.or_false];exact h.2 t
end
section
open Go.RowKit
theorem zeroInt (w:World):(zeroValue 3).run Tryz.prog w=.ok (.int .i64 0) w:=by kernel_rfl
def MapAt (w:World) (b:Nat) (ns:List ByteArray):Prop:=∃D:DU,w.ownsMap Tryz.prog 9 (plainElem Tryz.prog 3) b ns.length D∧MapIs D ns
theorem MapAt.kept {w w':World} {b:Nat} {ns:List ByteArray} {row:Option Nat} (h:MapAt w b ns) (hg:w.grownBy w' row) (hne:some b≠row):MapAt w' b ns:=by
 obtain ⟨D,h1,h2⟩:=h;exact ⟨D,h1.kept hg hne,h2⟩
theorem MapAt.lt {w:World} {b:Nat} {ns:List ByteArray} (h:MapAt w b ns):b < w.heap.size:=by
 obtain ⟨D,h1,_⟩:=h;exact h1.lt
theorem MapAt.ne_row {w:World} {b B e size n:Nat} {ns:List ByteArray} {v:Value} {xs:List Value} (h:MapAt w b ns) (ho:w.ownsRow B e size v n xs):v.ownBlock≠some b:=by
 intro hv;obtain ⟨D,⟨es,clock,hb,_⟩,_⟩:=h;rcases ho.2 with ⟨rfl,_⟩ | ⟨g,cap,cur,rfl,_,hg,_⟩
 · cases hv
 · cases hv;rw [hb] at hg;cases hg
theorem MapAt.ne_blk {w:World} {b g:Nat} {ns:List ByteArray} {cs:Array Value} {t:TypeId} {f:Nat × Nat} (h:MapAt w b ns) (hg:w.heap[g]? =some (.cells cs t f)):g≠b:=by
 intro e;subst e;obtain ⟨D,⟨es,clock,hb,_⟩,_⟩:=h;rw [hb] at hg;cases hg
structure NetAt (B:Nat) (w:World) (g:Nat) (vl vn vb:Value) (bn bp bb:Nat) (l:List El) (ns N Np bs Bp:List ByteArray):Prop where
 gB:B≤g
 blk:w.heap[g]? =some (.cells #[.bool true,vl,.map (some bn),vn,.map (some bp),vb,.map (some bb)] 73)
 ol:w.ownsRow B 47 8 vl l.length (l.flatMap ea)
 on:w.ownsRow B 9 1 vn N.length (sts N)
 ob:w.ownsRow B 9 1 vb bs.length (sts bs)
 lg:vl.ownBlock≠some g
 ng:vn.ownBlock≠some g
 bg:vb.ownBlock≠some g
 ln:∀r,vl.ownBlock=some r→vn.ownBlock≠some r
 lb:∀r,vl.ownBlock=some r→vb.ownBlock≠some r
 nb:∀r,vn.ownBlock=some r→vb.ownBlock≠some r
 bnB:B≤bn
 bpB:B≤bp
 bbB:B≤bb
 np:bn≠bp
 nbb:bn≠bb
 pb:bp≠bb
 mn:MapAt w bn ns
 mp:MapAt w bp Np
 mb:MapAt w bb Bp
def Pushed (w w':World) (v:Value) (r:Nat):Prop:=(v.ownBlock=some r∧w.grownBy w' (some r))∨(w.heap.size≤r∧w.grownBy w' none)
theorem fresh_ne {w w':World} {r B e size n:Nat} {v u:Value} {xs:List Value} (h:Pushed w w' v r) (hne:∀k,v.ownBlock=some k→u.ownBlock≠some k) (hu:w.ownsRow B e size u n xs):u.ownBlock≠some r:=by
 rcases h with ⟨h1,_⟩ | ⟨h1,_⟩
 · exact hne r h1
 · intro x;have:=(hu.lt _ x).2
   omega
theorem fresh_blk {w w':World} {r g:Nat} {v:Value} (h:Pushed w w' v r) (hne:v.ownBlock≠some g) (hg:g < w.heap.size):g≠r:=by
 rcases h with ⟨h1,_⟩ | ⟨h1,_⟩
 · intro e;subst e;exact hne h1
 · omega
theorem pushed_row {w w':World} {r B e size n:Nat} {v u:Value} {xs:List Value} (h:Pushed w w' v r) (hne:∀k,v.ownBlock=some k→u.ownBlock≠some k) (hu:w.ownsRow B e size u n xs):w'.ownsRow B e size u n xs:=by
 rcases h with ⟨h1,h2⟩ | ⟨_,h2⟩
 · exact hu.kept h2 (.inr (hne r h1))
 · exact hu.kept h2 (by cases u.ownBlock <;> simp)
theorem pushed_map {w w':World} {r B e size n b:Nat} {v:Value} {xs:List Value} {ns:List ByteArray} (h:Pushed w w' v r) (hv:w.ownsRow B e size v n xs) (hm:MapAt w b ns):MapAt w' b ns:=by
 rcases h with ⟨h1,h2⟩ | ⟨_,h2⟩
 · exact hm.kept h2 (fun x=> hm.ne_row hv (h1.trans x.symm))
 · exact hm.kept h2 (by simp)
theorem pushed_blk {w w':World} {r g:Nat} {v:Value} {o:Obj} (h:Pushed w w' v r) (hne:v.ownBlock≠some g) (hg:w.heap[g]? =some o):w'.heap[g]? =some o:=by
 have hlt:=(Array.getElem?_eq_some_iff.1 hg).1;rcases h with ⟨h1,h2⟩ | ⟨_,h2⟩
 · exact (h2.block g hlt (fun x=> hne (h1.trans x.symm))).trans hg
 · exact (h2.block g hlt (by simp)).trans hg
theorem grown_set (w:World) (g o:Nat) (v:Value):w.grownBy (w.setCell ⟨g,o,none⟩ v) (some g):=
 ⟨rfl,rfl,rfl,by simp [World.setCell],fun k _ hne=> Below.heap_setCell _ _ _ _ (fun e=> hne (by rw [e]))⟩
theorem blk_set {w:World} {g o:Nat} {cs:Array Value} {t:TypeId} {f:Nat × Nat} (h:w.heap[g]? =some (.cells cs t f)) (v:Value):(w.setCell ⟨g,o,none⟩ v).heap[g]? =some (.cells (cs.setIfInBounds o v) t f):=by
 unfold World.setCell
 simp [Array.getElem?_modify,h]
section
variable {B g bn bp bb:Nat} {w w':World} {vl vn vb:Value} {l:List El} {ns N Np bs Bp:List ByteArray}
theorem NetAt.names (h:NetAt B w g vl vn vb bn bp bb l ns N Np bs Bp) (hg:w.grownBy w' (some bn)) {ns':List ByteArray} (hm:MapAt w' bn ns'):NetAt B w' g vl vn vb bn bp bb l ns' N Np bs Bp:=
 {h with
  blk:=(hg.block g (Array.getElem?_eq_some_iff.1 h.blk).1 (by simpa using h.mn.ne_blk h.blk)).trans h.blk
  ol:=h.ol.kept hg (.inr (h.mn.ne_row h.ol))
  on:=h.on.kept hg (.inr (h.mn.ne_row h.on))
  ob:=h.ob.kept hg (.inr (h.mn.ne_row h.ob))
  mn:=hm
  mp:=h.mp.kept hg (by simpa using h.np.symm)
  mb:=h.mb.kept hg (by simpa using h.nbb.symm)}
theorem NetAt.places (h:NetAt B w g vl vn vb bn bp bb l ns N Np bs Bp) (hg:w.grownBy w' (some bp)) {Np':List ByteArray} (hm:MapAt w' bp Np'):NetAt B w' g vl vn vb bn bp bb l ns N Np' bs Bp:=
 {h with
  blk:=(hg.block g (Array.getElem?_eq_some_iff.1 h.blk).1 (by simpa using h.mp.ne_blk h.blk)).trans h.blk
  ol:=h.ol.kept hg (.inr (h.mp.ne_row h.ol))
  on:=h.on.kept hg (.inr (h.mp.ne_row h.on))
  ob:=h.ob.kept hg (.inr (h.mp.ne_row h.ob))
  mn:=h.mn.kept hg (by simpa using h.np)
  mp:=hm
  mb:=h.mb.kept hg (by simpa using h.pb.symm)}
theorem NetAt.branch (h:NetAt B w g vl vn vb bn bp bb l ns N Np bs Bp) (hg:w.grownBy w' (some bb)) {Bp':List ByteArray} (hm:MapAt w' bb Bp'):NetAt B w' g vl vn vb bn bp bb l ns N Np bs Bp':=
 {h with
  blk:=(hg.block g (Array.getElem?_eq_some_iff.1 h.blk).1 (by simpa using h.mb.ne_blk h.blk)).trans h.blk
  ol:=h.ol.kept hg (.inr (h.mb.ne_row h.ol))
  on:=h.on.kept hg (.inr (h.mb.ne_row h.on))
  ob:=h.ob.kept hg (.inr (h.mb.ne_row h.ob))
  mn:=h.mn.kept hg (by simpa using h.nbb)
  mp:=h.mp.kept hg (by simpa using h.pb)
  mb:=hm}
theorem NetAt.kept (h:NetAt B w g vl vn vb bn bp bb l ns N Np bs Bp) (hg:w.grownBy w' none):NetAt B w' g vl vn vb bn bp bb l ns N Np bs Bp:=
 {h with
  blk:=(hg.block g (Array.getElem?_eq_some_iff.1 h.blk).1 (by simp)).trans h.blk
  ol:=own_none h.ol hg
  on:=own_none h.on hg
  ob:=own_none h.ob hg
  mn:=h.mn.kept hg (by simp)
  mp:=h.mp.kept hg (by simp)
  mb:=h.mb.kept hg (by simp)}
theorem NetAt.alloc (h:NetAt B w g vl vn vb bn bp bb l ns N Np bs Bp) (o:Obj):NetAt B (w.alloc o) g vl vn vb bn bp bb l ns N Np bs Bp:=h.kept (World.grownBy_alloc w o none)
theorem NetAt.drew (h:NetAt B w g vl vn vb bn bp bb l ns N Np bs Bp):NetAt B w.drew g vl vn vb bn bp bb l ns N Np bs Bp:=h.kept ⟨rfl,rfl,rfl,Nat.le_refl _,fun _ _ _=> rfl⟩
theorem NetAt.pushL (h:NetAt B w g vl vn vb bn bp bb l ns N Np bs Bp) {r n c:Nat} {e:El} (ho:w'.ownsRow B 47 8 (.slice (some ⟨r,0,none⟩) n c) (l.length+1) (l.flatMap ea++ea e)) (hp:Pushed w w' vl r):
 NetAt B (w'.setCell ⟨g,1,none⟩ (.slice (some ⟨r,0,none⟩) n c)) g (.slice (some ⟨r,0,none⟩) n c) vn vb bn bp bb (l++ [e]) ns N Np bs Bp:=by
 have hgl:=(Array.getElem?_eq_some_iff.1 h.blk).1;have hgr:=fresh_blk hp h.lg hgl;have hs:=grown_set w' g 1 (.slice (some ⟨r,0,none⟩) n c);have hb:=pushed_blk hp h.lg h.blk;exact
 {h with
  blk:=blk_set hb _
  ol:=by rw [flat_snoc,List.length_append];exact ho.kept hs (.inr (fun x=> hgr (Option.some.inj x).symm))
  on:=(pushed_row hp h.ln h.on).kept hs (.inr h.ng)
  ob:=(pushed_row hp h.lb h.ob).kept hs (.inr h.bg)
  lg:=fun x=> hgr (Option.some.inj x).symm
  ln:=fun k hk=> by cases hk;exact fresh_ne hp h.ln h.on
  lb:=fun k hk=> by cases hk;exact fresh_ne hp h.lb h.ob
  mn:=(pushed_map hp h.ol h.mn).kept hs (fun x=> h.mn.ne_blk h.blk (Option.some.inj x).symm)
  mp:=(pushed_map hp h.ol h.mp).kept hs (fun x=> h.mp.ne_blk h.blk (Option.some.inj x).symm)
  mb:=(pushed_map hp h.ol h.mb).kept hs (fun x=> h.mb.ne_blk h.blk (Option.some.inj x).symm)}
theorem NetAt.pushN (h:NetAt B w g vl vn vb bn bp bb l ns N Np bs Bp) {r n c:Nat} {s:ByteArray} (ho:w'.ownsRow B 9 1 (.slice (some ⟨r,0,none⟩) n c) (N.length+1) (sts N++ [.string s])) (hp:Pushed w w' vn r):
 NetAt B (w'.setCell ⟨g,3,none⟩ (.slice (some ⟨r,0,none⟩) n c)) g vl (.slice (some ⟨r,0,none⟩) n c) vb bn bp bb l ns (N++ [s]) Np bs Bp:=by
 have hgl:=(Array.getElem?_eq_some_iff.1 h.blk).1;have hgr:=fresh_blk hp h.ng hgl;have hs:=grown_set w' g 3 (.slice (some ⟨r,0,none⟩) n c);have hb:=pushed_blk hp h.ng h.blk;have hnl:∀k,vn.ownBlock=some k→vl.ownBlock≠some k:=fun k hk hl=> h.ln k hl hk
 exact
 {h with
  blk:=blk_set hb _
  ol:=(pushed_row hp hnl h.ol).kept hs (.inr h.lg)
  on:=by rw [sts_snoc,List.length_append];exact ho.kept hs (.inr (fun x=> hgr (Option.some.inj x).symm))
  ob:=(pushed_row hp h.nb h.ob).kept hs (.inr h.bg)
  ng:=fun x=> hgr (Option.some.inj x).symm
  ln:=fun k hk x=> fresh_ne hp hnl h.ol (hk.trans x.symm)
  nb:=fun k hk=> by cases hk;exact fresh_ne hp h.nb h.ob
  mn:=(pushed_map hp h.on h.mn).kept hs (fun x=> h.mn.ne_blk h.blk (Option.some.inj x).symm)
  mp:=(pushed_map hp h.on h.mp).kept hs (fun x=> h.mp.ne_blk h.blk (Option.some.inj x).symm)
  mb:=(pushed_map hp h.on h.mb).kept hs (fun x=> h.mb.ne_blk h.blk (Option.some.inj x).symm)}
theorem NetAt.pushB (h:NetAt B w g vl vn vb bn bp bb l ns N Np bs Bp) {r n c:Nat} {s:ByteArray} (ho:w'.ownsRow B 9 1 (.slice (some ⟨r,0,none⟩) n c) (bs.length+1) (sts bs++ [.string s])) (hp:Pushed w w' vb r):
 NetAt B (w'.setCell ⟨g,5,none⟩ (.slice (some ⟨r,0,none⟩) n c)) g vl vn (.slice (some ⟨r,0,none⟩) n c) bn bp bb l ns N Np (bs++ [s]) Bp:=by
 have hgl:=(Array.getElem?_eq_some_iff.1 h.blk).1;have hgr:=fresh_blk hp h.bg hgl;have hs:=grown_set w' g 5 (.slice (some ⟨r,0,none⟩) n c);have hb:=pushed_blk hp h.bg h.blk;have hbl:∀k,vb.ownBlock=some k→vl.ownBlock≠some k:=fun k hk hl=> h.lb k hl hk
 have hbn:∀k,vb.ownBlock=some k→vn.ownBlock≠some k:=fun k hk hl=> h.nb k hl hk
 exact
 {h with
  blk:=blk_set hb _
  ol:=(pushed_row hp hbl h.ol).kept hs (.inr h.lg)
  on:=(pushed_row hp hbn h.on).kept hs (.inr h.ng)
  ob:=by rw [sts_snoc,List.length_append];exact ho.kept hs (.inr (fun x=> hgr (Option.some.inj x).symm))
  bg:=fun x=> hgr (Option.some.inj x).symm
  lb:=fun k hk x=> fresh_ne hp hbl h.ol (hk.trans x.symm)
  nb:=fun k hk x=> fresh_ne hp hbn h.on (hk.trans x.symm)
  mn:=(pushed_map hp h.ob h.mn).kept hs (fun x=> h.mn.ne_blk h.blk (Option.some.inj x).symm)
  mp:=(pushed_map hp h.ob h.mp).kept hs (fun x=> h.mp.ne_blk h.blk (Option.some.inj x).symm)
  mb:=(pushed_map hp h.ob h.mb).kept hs (fun x=> h.mb.ne_blk h.blk (Option.some.inj x).symm)}
end
end
end Go.Proofs.YtaegmlhfecfgkaaGreatDoor
