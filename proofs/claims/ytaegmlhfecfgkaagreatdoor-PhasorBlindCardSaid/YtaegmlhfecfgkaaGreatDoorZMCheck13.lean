/- a part of the proof of the last text -/
import Derived.Test.YtaegmlhfecfgkaaGreatDoorZMRef15
namespace Go.Proofs.YtaegmlhfecfgkaaGreatDoor
set_option linter.all false
set_option maxHeartbeats 4000000
set_option maxRecDepth 100000
section
open Go.RowKit
def has (l:List ByteArray) (s:ByteArray):Bool:=l.any fun t=> t.toList==s.toList
def gnd (s:ByteArray):Bool:=(s.toList== []) || (s.toList== [48])
def nd1 (acc:List ByteArray) (s:ByteArray):List ByteArray:=if (gnd s || has acc s)=true then acc else acc++ [s]
def fr (e:El):List ByteArray:= [e.a,e.b,e.c,e.d]
def nd4 (acc:List ByteArray) (e:El):List ByteArray:=(fr e).foldl nd1 acc
def nds (l:List El):List ByteArray:=l.foldl nd4 []
theorem nd1_len (acc:List ByteArray) (s:ByteArray):(nd1 acc s).length≤acc.length+1:=by
 unfold nd1
 split <;> simp
theorem fold_len:∀ (l acc:List ByteArray),(l.foldl nd1 acc).length≤acc.length+l.length
 | [],acc=> by simp
 | s::l,acc=> by
  rw [List.foldl_cons,List.length_cons];have h1:=fold_len l (nd1 acc s);have h2:=nd1_len acc s
  omega
theorem nds_len_aux:∀ (l:List El) (acc:List ByteArray),(l.foldl nd4 acc).length≤acc.length+4 * l.length
 | [],acc=> by simp
 | e::l,acc=> by
  rw [List.foldl_cons,List.length_cons];have h1:=nds_len_aux l (nd4 acc e);have h2:(nd4 acc e).length≤acc.length+4:=fold_len (fr e) acc
  omega
theorem nds_len (l:List El):(nds l).length≤4 * l.length:=by have:=nds_len_aux l [];simpa [nds] using this
theorem nds_take_len (l:List El) (k:Nat):(nds (l.take k)).length≤4 * k:=Nat.le_trans (nds_len _) (by rw [List.length_take];omega)
theorem nds_snoc {l:List El} {k:Nat} {x:El} (h:l[k]? =some x):nds (l.take (k+1))=nd4 (nds (l.take k)) x:=by
 obtain ⟨hk,e⟩:=List.getElem?_eq_some_iff.1 h;subst e;unfold nds;rw [List.take_succ_eq_append_getElem hk,List.foldl_append]
 rfl
theorem fold_snoc {l:List ByteArray} {k:Nat} {s:ByteArray} (h:l[k]? =some s) (acc:List ByteArray):(l.take (k+1)).foldl nd1 acc=nd1 ((l.take k).foldl nd1 acc) s:=by
 obtain ⟨hk,e⟩:=List.getElem?_eq_some_iff.1 h;subst e;rw [List.take_succ_eq_append_getElem hk,List.foldl_append]
 rfl
theorem has_snoc {l:List ByteArray} {k:Nat} {t:ByteArray} (h:l[k]? =some t) (s:ByteArray):has (l.take (k+1)) s=(has (l.take k) s || (t.toList==s.toList)):=by
 obtain ⟨hk,e⟩:=List.getElem?_eq_some_iff.1 h;subst e;unfold has;rw [List.take_succ_eq_append_getElem hk,List.any_append]
 simp
theorem sts_get {l:List ByteArray} {k:Nat} {x:Value} (h:(sts l)[k]? =some x):∃s,l[k]? =some s∧x=.string s:=map_getElem? h
theorem fr_len (e:El):(fr e).length=4:=rfl
theorem sl_laid {w:World} {n size:Nat} {cs:Array Value} {t:TypeId} {xs:List Value} (h:cs.toList=xs) (hn:xs.length=n * size):IsSl (w.alloc (.cells cs t)) size (.slice (some ⟨w.heap.size,0,none⟩) n n) n xs:=by
 subst h;refine ⟨hn,.inr ⟨_,_,_,rfl,Nat.le_refl _,by simp,fun j hj=> ?_⟩⟩;rw [cell_of_row _ _ _ _ _ _ (heap_alloc_new w _)]
 simp
theorem nd1_yes {acc:List ByteArray} {s:ByteArray} (h:(gnd s || has acc s)=true):nd1 acc s=acc:=by unfold nd1;rw [if_pos h]
theorem nd1_no {acc:List ByteArray} {s:ByteArray} (h:(gnd s || has acc s)=false):nd1 acc s=acc++ [s]:=by unfold nd1;rw [if_neg (by rw [h];simp)]
theorem gnd_ways (s:ByteArray):(s.toList= []∧gnd s=true)∨(¬s.toList= []∧(s.toList== [])=false∧s.toList= [48]∧gnd s=true)∨(¬s.toList= []∧(s.toList== [])=false∧¬s.toList= [48]∧(s.toList== [48])=false∧gnd s=false):=by
 unfold gnd
 by_cases h1:s.toList= []
 · simp [h1]
 · by_cases h2:s.toList= [48] <;> simp [h1,h2]
theorem rnodes_any (p:Value) (l:List El) (w:World) (hp:RN w p l) (hl:l.length≤100000):
 Calls Tryz.prog 32 #[p] w (RetRow 9 1 (nds l).length (fun xs=> xs=sts (nds l)) w):=by
 obtain ⟨i0,hi,hz0,hz1,hz2⟩:=info_parts infoSt;obtain ⟨iu,hiu,hu0,hu1,hu2⟩:=info_parts infoEa;go_enter Tryz.func32,Tryz.ntmps32;go_wp2_with (go_at_call 66;refine (relements_any _ l _ hp (by omega)).mono ?_;rintro e w0 ⟨v0,xs,rfl,hown0,rfl,hb0⟩;obtain ⟨a,c,rfl⟩:=(IsSl.of_own hown0).form);have HI:=hid (IsSl.of_own hown0);have HB0:=hid hb0;clear hb0 hown0 hp
 go_loopw [3,5] (fun out i wr=> ∃k:Nat,k≤l.length∧i=.int .i64 k∧wr.ownsRow w0.heap.size 9 1 out (nds (l.take k)).length (sts (nds (l.take k)))∧Below w0.heap.size w0 wr) (fun _ i _=> l.length - (intOf i).toNat)
 case atStart=> exact ⟨0,Nat.zero_le _,rfl,World.ownsRow_nil _ _ _ _,Below.refl _ _⟩
 case round=>
  obtain ⟨k,hk,rfl,hown,hb⟩:=hrel;obtain ⟨wo,rfl⟩:∃wo:World,wo=wr:=⟨_,rfl⟩
  by_cases hlt:k < l.length
  · obtain ⟨g,o,x,hidx,hg,hx,hcell⟩:=IsSl.atF Tryz.underlying45 hiu hu1 ea_len (HI.out.below hb (Nat.le_refl _)) rfl hlt;have c2:=hcell 2 _ rfl;have c3:=hcell 3 _ rfl;have c4:=hcell 4 _ rfl;have c5:=hcell 5 _ rfl;have HX:=hid hx;have HB:=hid hb;have HO:=hid hown;have hlen:=nds_take_len l k;clear hx hb hown hcell hg;go_upto_region 6 with fail
    go_still_tail 20,(by kernel_rfl)
    change wpList _ _ _ _ _ wo.drew;go_upto_region 8 with fail;have hF:=sl_laid (w:=wo) (cs:=#[.string x.a,.string x.b,.string x.c,.string x.d]) (t:=9) (n:=4) (size:=1) (xs:=sts (fr x)) rfl rfl;have hne:u3.ownBlock≠some wo.heap.size:=fun e=> Nat.lt_irrefl _ (HO.out.lt _ e).2
    have hO2:(wo.alloc (.cells #[.string x.a,.string x.b,.string x.c,.string x.d] 9)).drew.ownsRow w0.heap.size 9 1 u3 (nds (l.take k)).length (sts (nds (l.take k))):=by exact HO.out.alloc _
    have hB2:Below w0.heap.size w0 (wo.alloc (.cells #[.string x.a,.string x.b,.string x.c,.string x.d] 9)).drew:=(HB.out.alloc HB.out.size _).drew;have hF2:IsSl (wo.alloc (.cells #[.string x.a,.string x.b,.string x.c,.string x.d] 9)).drew 1 (.slice (some ⟨wo.heap.size,0,none⟩) 4 4) 4 (sts (fr x)):=by exact hF
    clear hF c2 c3 c4 c5;generalize (wo.alloc (.cells #[.string x.a,.string x.b,.string x.c,.string x.d] 9)).drew=w4 at *;obtain ⟨gf,hgf⟩:∃gf,wo.heap.size=gf:=⟨_,rfl⟩;rw [hgf] at hF2 hne;rw [hgf];have HNE:=hid hne;have HO2:=hid hO2;have HB2:=hid hB2;have HF2:=hid hF2;clear hne hO2 hB2 hF2 hgf
    go_loopw [3,7] (fun out j wi=> ∃q:Nat,q≤4∧j=.int .i64 q∧wi.ownsRow w0.heap.size 9 1 out (((fr x).take q).foldl nd1 (nds (l.take k))).length (sts (((fr x).take q).foldl nd1 (nds (l.take k))))∧Below w0.heap.size w0 wi∧IsSl wi 1 (.slice (some ⟨gf,0,none⟩) 4 4) 4 (sts (fr x))∧out.ownBlock≠some gf) (fun _ j _=> 4 - (intOf j).toNat)
    case atStart=> exact ⟨0,Nat.zero_le _,rfl,HO2.out,HB2.out,HF2.out,HNE.out⟩
    case round=>
     obtain ⟨q,hq,rfl,hown,hb,hF,hne⟩:=hrel;obtain ⟨wi,rfl⟩:∃wi:World,wi=wr:=⟨_,rfl⟩
     by_cases hlt4:q < 4
     · obtain ⟨g2,o2,y,hidx2,hg2,hc2,hy⟩:=IsSl.at1 Tryz.underlying71 hi hz1 hF hlt4;obtain ⟨s,hs,rfl⟩:=sts_get hy;obtain ⟨a3,c3,rfl⟩:=(IsSl.of_own hown).form;have hlen2:(((fr x).take q).foldl nd1 (nds (l.take k))).length≤4 * k+4:=by
        have h1:=fold_len ((fr x).take q) (nds (l.take k));have h2:((fr x).take q).length≤4:=by rw [List.length_take];omega
        omega
       have hfold:=fold_snoc hs (nds (l.take k));generalize ((fr x).take q).foldl nd1 (nds (l.take k))=A at *;have HFOLD:=hid hfold;have HOI:=hid hown;have HBI:=hid hb;have HFI:=hid hF;have HNI:=hid hne;have hd:decide ((q:Int) < 4)=true:=by simp;omega
       clear hfold hown hb hF hne hy hs hg2;go_upto_region 10 with fail
       go_cut [8] (fun t wx=> t=.bool (gnd s)∧wx=wi)
       case first=>
        rcases gnd_ways s with ⟨h1,h0⟩ | ⟨h1,g1,h2,h0⟩ | ⟨h1,g1,h2,g2',h0⟩
        all_goals
         have H0:=hid h0;clear h0;go_wp2_with fail;go_meet;exact ⟨by rw [H0.out],rfl⟩
       case rest=>
        obtain ⟨rfl,rfl⟩:=hcut;go_upto_region 12 with fail;obtain ⟨wa,rfl⟩:∃wa:World,wa=wc:=⟨_,rfl⟩
        go_loopw [8,9] (fun t j wj=> ∃r n:Nat,r≤A.length∧j=.int .i64 r∧t=.bool (gnd s || has (A.take r) s)∧wj=wa.drewN n) (fun _ j _=> A.length - (intOf j).toNat)
        case atStart=> exact ⟨0,0,Nat.zero_le _,rfl,by simp [has],rfl⟩
        case round=>
         obtain ⟨r,n,hr,rfl,rfl,hw⟩:=hrel;have hOj:wr.ownsRow w0.heap.size 9 1 (.slice a3 A.length c3) A.length (sts A):=by rw [hw];exact HOI.out
         have hFj:IsSl wr 1 (.slice (some ⟨gf,0,none⟩) 4 4) 4 (sts (fr x)):=by rw [hw];exact HFI.out
         have hcj:wr.cell? ⟨g2,o2,none⟩=some (.string s):=by rw [hw];exact hc2
         have hBj:Below w0.heap.size w0 wr:=by rw [hw];exact below_n HBI.out n
         have HW:=hid hw;clear hw hc2
         by_cases hltr:r < A.length
         · obtain ⟨g5,o5,y5,hidx5,hg5,hc5,hy5⟩:=IsSl.at1 Tryz.underlying71 hi hz1 (IsSl.of_own hOj) hltr;obtain ⟨s5,hs5,rfl⟩:=sts_get hy5;have HS:=hid (has_snoc hs5 s);clear hy5 hs5 hg5;cases hbb:(gnd s || has (A.take r) s)
           · have HBB:=hid hbb;clear hbb;go_upto_region 14 with fail
             go_quiet (fail)
             go_wp2;go_roundw
             case rel=> exact ⟨r+1,nq+n,by omega,by go_num,by rw [HS.out,←Bool.or_assoc,HBB.out];rfl,by rw [HW.out];simp [World.drewN_drewN,Nat.add_comm]⟩
             case measure=> simp [intOf];omega
           · have HBB:=hid hbb;clear hbb;go_upto_region 14 with fail
             go_quiet (fail)
             go_wp2;go_roundw
             case rel=> exact ⟨r+1,nq+n,by omega,by go_num,by rw [HS.out,←Bool.or_assoc,HBB.out];rfl,by rw [HW.out];simp [World.drewN_drewN,Nat.add_comm]⟩
             case measure=> simp [intOf];omega
         · obtain rfl:r=A.length:=by omega
           rw [List.take_length];cases hbb:(gnd s || has A s)
           · have HBB:=hid hbb;clear hbb;have hown:=hOj;have hsz:=hBj.size;go_wp2_with (refine wpList_push2 rfl rfl _ rfl _ _ _ rfl rfl w0.heap.size 9 1 16 i0 (.string ⟨#[]⟩) Tryz.underlying71 hi hz0 hz1 hz2 rfl (by decide) (by decide) _ A.length _ hown hsz (.string s) rfl rfl (by intro u hu;simp [Value.cells] at hu;subst hu;rfl) rfl rfl (by simp [maxLen];omega) (by omega) ?_;intro g1 cap1 w2 hown1 hg1 htwo);go_roundw
             case rel=>
              refine ⟨q+1,by omega,by go_num,?_,pushed hBj hOj htwo,?_,?_⟩
              · rw [HFOLD.out,nd1_no HBB.out,List.length_append,sts_snoc];exact hown1
              · rcases htwo with ⟨h1,h2⟩ | ⟨_,h2⟩
                · exact hFj.grown h2 fun g e e2=> HNI.out (h1.trans (e2.trans e.symm))
                · exact hFj.grown h2 fun g _ e2=> by cases e2
              · intro e;rcases htwo with ⟨h1,_⟩ | ⟨h1,_⟩
                · exact HNI.out (h1.trans e)
                · have h2:g1=gf:=Option.some.inj e;have h3:gf < wr.heap.size:=hFj.lt rfl
                  omega
             case measure=> simp [intOf];omega
           · have HBB:=hid hbb;clear hbb;go_wp2_with fail;go_roundw
             case rel=>
              refine ⟨q+1,by omega,by go_num,?_,hBj,hFj,HNI.out⟩;rw [HFOLD.out,nd1_yes HBB.out];exact hOj
             case measure=> simp [intOf];omega
     · obtain rfl:q=4:=by omega
       go_wp2_with fail;go_roundw
       case rel=>
        refine ⟨k+1,by omega,by go_num,?_,hb⟩;rw [nds_snoc HX.out];exact hown
       case measure=> simp [intOf];omega
  · go_wp2;go_ret;obtain rfl:k=l.length:=by omega
    rw [List.take_length] at hown;exact ⟨_,_,rfl,own_base hown HB0.out.size,rfl,below_next HB0.out hb⟩
end
section
open Go.RowKit
theorem above_not {x:Nat} (h:(FloatKind.f64.format.order x 0==some Ordering.gt)=false):notAbove x=true:=by
 have e:ford x 0=FloatKind.f64.format.order x 0:=rfl;unfold notAbove;rw [e,h]
 rfl
theorem above_gt {x:Nat} (h:(FloatKind.f64.format.order x 0==some Ordering.gt)=true):notAbove x=false:=by
 have e:ford x 0=FloatKind.f64.format.order x 0:=rfl;unfold notAbove;rw [e,h]
 rfl
theorem rcheck_any (e:El) (w:World) (he:e.Ok):
 Calls Tryz.prog 31 #[.agg #[.int .u8 e.kind,.string e.name,.string e.a,.string e.b,.string e.c,.string e.d,.float .f64 e.val,.int .i64 e.ph]] w (RetI (checkE e) w):=by
 have HE:=hid he;clear he;cases hk:isK e.kind
 · have HK:=hid hk;clear hk;go_enter Tryz.func31,Tryz.ntmps31;go_wp2_with (go_at_call 62;refine (rrow13_agg _ _).mono ?_;rintro e1 w1 ⟨rfl,hb1⟩;rw [HK.out])
   (try rw [Exit.noGoto_ret])
   go_ret;have hb:=((Below.refl _ w).alloc (Nat.le_refl _) _).trans (hb1.mono (by simp));exact ⟨ret_int (by unfold checkE;rw [HK.out];rfl),hb.alloc hb.size _⟩
 · have HK:=hid hk;clear hk;go_enter Tryz.func31,Tryz.ntmps31;go_upto_region 2 with (go_at_call 62;refine (rrow13_agg _ _).mono ?_;rintro e1 w1 ⟨rfl,hb1⟩;rw [HK.out,kin_yes HK.out];have HB1:=hid hb1;clear hb1);have hA0:=(HB1.out.block w.heap.size (by simp)).trans (heap_alloc_new w _);have hlt1:w.heap.size < w1.heap.size:=by have:=HB1.out.size;simp at this;omega
   have HBW1:=hid ((((Below.refl _ w).alloc (Nat.le_refl _) _).trans (HB1.out.mono (by simp))).alloc (Nat.le_of_lt hlt1) (.cells #[.int .u8 e.kind,.int .u8 (kLet e.kind),.string (kUnit e.kind),.bool (kAb e.kind),.bool (kPh e.kind),.bool (kFo e.kind)] 124));have hA1:=heap_past_of (o':=.cells #[.int .u8 e.kind,.int .u8 (kLet e.kind),.string (kUnit e.kind),.bool (kAb e.kind),.bool (kPh e.kind),.bool (kFo e.kind)] 124) hA0;have hR1:=heap_alloc_new w1 (.cells #[.int .u8 e.kind,.int .u8 (kLet e.kind),.string (kUnit e.kind),.bool (kAb e.kind),.bool (kPh e.kind),.bool (kFo e.kind)] 124);obtain ⟨gr,hgr⟩:∃gr,w1.heap.size=gr:=⟨_,rfl⟩;generalize w1.alloc (.cells #[.int .u8 e.kind,.int .u8 (kLet e.kind),.string (kUnit e.kind),.bool (kAb e.kind),.bool (kPh e.kind),.bool (kFo e.kind)] 124)=w2 at *;rw [hgr] at *;clear hgr hA0 HB1 hlt1;have k1:=(block_cells hA1).1 1 _ rfl;have HA:=hid hA1;have HR:=hid hR1;clear hA1 hR1;go_upto_region 5 with (go_at_call 63;refine (rname_any _ _ HE.out.name).mono ?_;rintro e3 w3 ⟨rfl,hb3⟩;have HB3:=hid hb3;clear hb3);have HBW3:=hid (HBW1.out.trans (HB3.out.mono HBW1.out.size));obtain ⟨hac,_⟩:=block_cells (heap_later2 HB3.out HA.out);obtain ⟨hrc,_⟩:=block_cells (heap_later2 HB3.out HR.out);have c0:=hac 0 _ rfl;have c2:=hac 2 _ rfl;have c3:=hac 3 _ rfl;have c4:=hac 4 _ rfl;have c5:=hac 5 _ rfl;have c6:=hac 6 _ rfl;have c7:=hac 7 _ rfl;have r2:=hrc 5 _ rfl;have r3:=hrc 3 _ rfl;have r4:=hrc 4 _ rfl;clear hac hrc HA HR HBW1 HB3 k1
   go_cut [5,6,56] (fun _ _ t wx=> t=.bool (nameBad e)∧Below w3.heap.size w3 wx)
   case first=>
    have hself:=Below.refl w3.heap.size w3;rcases name_ways e with ⟨h1,h0⟩ | ⟨h1,h2,h0⟩ | ⟨h1,h2,h3,h0⟩ | ⟨h1,h2,h3,h4,h0⟩ | ⟨h1,h2,h3,h4,h5,h0⟩ | ⟨h1,h2,h3,h4,h5,h6,h0⟩ | ⟨h1,h2,h3,h4,h5,h6,h7,h0⟩ | ⟨h1,h2,h3,h4,h5,h6,h7,h0⟩
    all_goals
     have H0:=hid h0;clear h0;go_wp2_with (go_at_call 64;refine (rnode_any _ _ (by first | exact HE.out.a | exact HE.out.b | exact HE.out.c | exact HE.out.d)).mono ?_;rintro en wn ⟨rfl,rfl⟩);go_meet;exact ⟨by rw [H0.out],by assumption⟩
   case rest=>
    obtain ⟨wa,rfl⟩:∃wa:World,wa=wc:=⟨_,rfl⟩;obtain ⟨rfl,hbn⟩:=hcut;have HBA:=hid (HBW3.out.trans (hbn.mono HBW3.out.size));have d0:=cell_later hbn c0;have d2:=cell_later hbn c2;have d3:=cell_later hbn c3;have d4:=cell_later hbn c4;have d5:=cell_later hbn c5;have d6:=cell_later hbn c6;have d7:=cell_later hbn c7;have s2:=cell_later hbn r2;have s3:=cell_later hbn r3;have s4:=cell_later hbn r4;clear c0 c2 c3 c4 c5 c6 c7 r2 r3 r4 hbn HBW3;cases hn:nameBad e
    · have HN:=hid hn;clear hn;go_upto_region 7 with fail
      go_cut [86] (fun t wx=> t=.bool (argBad e)∧wx=wa)
      case first=>
       rcases arg_ways e with ⟨h1,h0⟩ | ⟨h1,g1,h2,h3,h0⟩ | ⟨h1,g1,h2,h3,h4,h0⟩ | ⟨h1,g1,h2,h3,h4,h5,h0⟩ | ⟨h1,g1,h2,h3,h4,h5,h6,h0⟩ | ⟨h1,g1,h2,h3,h4,h5,h6,h0⟩ | ⟨h1,g1,h2,h3,h0⟩ | ⟨h1,g1,h2,h3,h4,h0⟩ | ⟨h1,g1,h2,h3,h4,h0⟩
       all_goals
        have H0:=hid h0;clear h0;go_wp2_with fail;go_meet;exact ⟨by rw [H0.out],rfl⟩
      case rest=>
       obtain ⟨rfl,rfl⟩:=hcut;cases hg:argBad e
       · have HG:=hid hg;clear hg
         by_cases hk2:2 < kindF e.val
         · go_wp2_with (go_at_call 65;refine (kind01_any _ _).mono ?_;rintro e5 w5 ⟨rfl,rfl⟩)
           (try rw [Exit.noGoto_ret])
           go_ret;exact ⟨ret_int (by unfold checkE;rw [HK.out,HN.out,HG.out,if_pos hk2];rfl),HBA.out⟩
         · have HK2:=hid (show kindF e.val≤2 by omega);cases ha:kAb e.kind
           · go_wp2_with (go_at_call 65;refine (kind01_any _ _).mono ?_;rintro e5 w5 ⟨rfl,rfl⟩)
             (try rw [Exit.noGoto_ret])
             go_ret;exact ⟨ret_int (check_end HK.out HN.out HG.out HK2.out (b:=false) (by rw [ha];rfl)).symm,HBA.out⟩
           · have HA:=hid ha;cases hord:(FloatKind.f64.format.order e.val 0==some Ordering.gt)
             · have HO:=hid (above_not hord);go_wp2_with (go_at_call 65;refine (kind01_any _ _).mono ?_;rintro e5 w5 ⟨rfl,rfl⟩);clear hord
               (try rw [Exit.noGoto_ret])
               go_ret;exact ⟨ret_int (check_end HK.out HN.out HG.out HK2.out (b:=true) (by rw [HA.out,HO.out];rfl)).symm,HBA.out⟩
             · have HO:=hid (above_gt hord);go_wp2_with (go_at_call 65;refine (kind01_any _ _).mono ?_;rintro e5 w5 ⟨rfl,rfl⟩);clear hord
               (try rw [Exit.noGoto_ret])
               go_ret;exact ⟨ret_int (check_end HK.out HN.out HG.out HK2.out (b:=false) (by rw [HA.out,HO.out];rfl)).symm,HBA.out⟩
       · have HG:=hid hg;clear hg;go_wp2_with fail
         (try rw [Exit.noGoto_ret])
         go_ret;exact ⟨ret_int (by unfold checkE;rw [HK.out,HN.out,HG.out];rfl),HBA.out⟩
    · have HN:=hid hn;clear hn;go_wp2_with fail
      (try rw [Exit.noGoto_ret])
      go_ret;exact ⟨ret_int (by unfold checkE;rw [HK.out,HN.out];rfl),HBA.out⟩
end
end Go.Proofs.YtaegmlhfecfgkaaGreatDoor
