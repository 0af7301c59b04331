/- a part of the proof of the last text -/
import Derived.Test.YtejooaeppcjhjaaGreatZMFVal
import Derived.StillTailTactics
namespace Go.Proofs.YtejooaeppcjhjaaGreat
set_option linter.all false
set_option maxHeartbeats 4000000
set_option maxRecDepth 100000
section
open Go.RowKit
theorem zAb {w:World} {g t:Nat} {cs:Array Value} (h:w.heap[g]? =some (.cells cs t (0,0))):(∀ (o:Nat) (x:Value),cs[o]? =some x→w.cell? ⟨g,o,none⟩=some x)∧∀o,w.frozen? ⟨g,o,none⟩=false:=
 ⟨fun o x hx=> (cell_of_row _ _ _ _ _ _ h).trans hx,fun o=> by simp [World.frozen?,h]⟩
theorem heap_past_of {w:World} {g:Nat} {o o':Obj} (h:w.heap[g]? =some o):(w.alloc o').heap[g]? =some o:=(heap_alloc_old w o' (Array.getElem?_eq_some_iff.1 h).1).trans h
theorem zAc {w w':World} {g:Nat} {o:Obj} (hb:Below w.heap.size w w') (h:w.heap[g]? =some o):w'.heap[g]? =some o:=(hb.block g (Array.getElem?_eq_some_iff.1 h).1).trans h
theorem order_zero {x:Nat} (h:kindF x≤2):FloatKind.f64.format.order x 0=some .lt∨FloatKind.f64.format.order x 0=some .eq∨FloatKind.f64.format.order x 0=some .gt:=by
 have hx:FV.fin x=true:=by
  have hz:((zBf x:Nat):Int) < 9218868437227405312:=by
   unfold kindF at h;rcases zEy ((zBf x:Nat):Int) with c | c | c | c | c <;> omega
  have hf:zBf x=x % 9223372036854775808:=rfl;have e1:(2:Nat) ^ 63=9223372036854775808:=by decide
  have e2:2047 * (2:Nat) ^ 52=9218868437227405312:=by decide
  unfold FV.fin;rw [e1,e2,←hf];exact decide_eq_true (by omega)
 have h0:FV.fin 0=true:=by decide+kernel
 have ho:FloatKind.f64.format.order x 0=some (compare (FV.val x) (FV.val 0)):=FV.order_fin hx h0;rw [ho];cases compare (FV.val x) (FV.val 0) <;> simp
theorem above_no {x:Nat} (h:(FloatKind.f64.format.order x 0==some Ordering.lt)=true∨(FloatKind.f64.format.order x 0==some Ordering.eq)=true):zFa x=true:=by
 have:ford x 0=FloatKind.f64.format.order x 0:=rfl;unfold zFa;rw [this];rcases h with h | h <;> rw [eq_of_beq h] <;> rfl
theorem above_yes {x:Nat} (hk:kindF x≤2) (h:(FloatKind.f64.format.order x 0==some Ordering.lt)=false∧(FloatKind.f64.format.order x 0==some Ordering.eq)=false):zFa x=false:=by
 have e:ford x 0=FloatKind.f64.format.order x 0:=rfl;unfold zFa;rw [e];rcases order_zero hk with c | c | c
 · rw [c] at h;exact absurd h.1 (by decide)
 · rw [c] at h;exact absurd h.2 (by decide)
 · rw [c];rfl
theorem zGx {e:El} {b:Bool} (hk:isK e.kind=true) (hn:zCu e=false) (hg:zEt e=false) (h2:kindF e.val≤2) (ha:(kAb e.kind && zFa e.val)=b):zBc e=if b=true then 2 else 0:=by
 unfold zBc;rw [hk,hn,hg,ha,if_neg (show¬2 < kindF e.val by omega)]
 rfl
theorem zAd {w w1 w2:World} (h:Below w.heap.size w w1) (h2:Below w1.heap.size w1 w2):Below w.heap.size w w2:=h.trans (h2.mono h.size)
theorem zFp (e:El) (w:World) (he:e.Ok):
 Calls Tryz.prog 18 #[.agg #[.int .u8 e.kind,.string e.name,.string e.a,.string e.b,.string e.c,.string e.d,.float .f64 e.val,.int .i64 e.ph]] w (RetI (zBc e) w):=by
 have HE:=hid he;clear he;cases hk:isK e.kind
 · have HK:=hid hk;clear hk;go_enter Tryz.func18,Tryz.ntmps18;go_wp2_with (go_at_call 57;refine (rowof_agg _ _).mono ?_;rintro e1 w1 ⟨rfl,hb1⟩;rw [HK.out])
   (try rw [Exit.noGoto_ret])
   go_ret;have hb:=((Below.refl _ w).alloc (Nat.le_refl _) _).trans (hb1.mono (by simp));exact ⟨zCe (by unfold zBc;rw [HK.out];rfl),hb.alloc hb.size _⟩
 · have HK:=hid hk;clear hk;go_enter Tryz.func18,Tryz.ntmps18;go_upto_region 2 with (go_at_call 57;refine (rowof_agg _ _).mono ?_;rintro e1 w1 ⟨rfl,hb1⟩;rw [HK.out];have HB1:=hid hb1;clear hb1);have hA0:=(HB1.out.block w.heap.size (by simp)).trans (heap_alloc_new w _);have hlt1:w.heap.size < w1.heap.size:=by have:=HB1.out.size;simp at this;omega
   have HBW1:=hid ((((Below.refl _ w).alloc (Nat.le_refl _) _).trans (HB1.out.mono (by simp))).alloc (Nat.le_of_lt hlt1) (.cells #[.int .u8 (kLet e.kind),.string (kUnit e.kind),.bool (kAb e.kind),.bool (kFo e.kind),.bool (kPh e.kind)] 108));have hA1:=heap_past_of (o':=.cells #[.int .u8 (kLet e.kind),.string (kUnit e.kind),.bool (kAb e.kind),.bool (kFo e.kind),.bool (kPh e.kind)] 108) hA0;have hR1:=heap_alloc_new w1 (.cells #[.int .u8 (kLet e.kind),.string (kUnit e.kind),.bool (kAb e.kind),.bool (kFo e.kind),.bool (kPh e.kind)] 108);obtain ⟨gr,hgr⟩:∃gr,w1.heap.size=gr:=⟨_,rfl⟩;generalize w1.alloc (.cells #[.int .u8 (kLet e.kind),.string (kUnit e.kind),.bool (kAb e.kind),.bool (kFo e.kind),.bool (kPh e.kind)] 108)=w2 at *;rw [hgr] at *;clear hgr hA0 HB1 hlt1;have k1:=(zAb hA1).1 1 _ rfl;have HA:=hid hA1;have HR:=hid hR1;clear hA1 hR1;go_upto_region 5 with (go_at_call 58;refine (vname_any _ _ HE.out.name).mono ?_;rintro e3 w3 ⟨rfl,hb3⟩;have HB3:=hid hb3;clear hb3);have HBW3:=hid (HBW1.out.trans (HB3.out.mono HBW1.out.size));obtain ⟨hac,_⟩:=zAb (zAc HB3.out HA.out);obtain ⟨hrc,_⟩:=zAb (zAc HB3.out HR.out);have c0:=hac 0 _ rfl;have c2:=hac 2 _ rfl;have c3:=hac 3 _ rfl;have c4:=hac 4 _ rfl;have c5:=hac 5 _ rfl;have c6:=hac 6 _ rfl;have c7:=hac 7 _ rfl;have r2:=hrc 2 _ rfl;have r3:=hrc 3 _ rfl;have r4:=hrc 4 _ rfl;clear hac hrc HA HR HBW1 HB3 k1
   go_cut [5,6,56] (fun _ _ t wx=> t=.bool (zCu e)∧Below w3.heap.size w3 wx)
   case first=>
    have hself:=Below.refl w3.heap.size w3;rcases name_ways e with ⟨h1,h0⟩ | ⟨h1,h2,h0⟩ | ⟨h1,h2,h3,h0⟩ | ⟨h1,h2,h3,h4,h0⟩ | ⟨h1,h2,h3,h4,h5,h0⟩ | ⟨h1,h2,h3,h4,h5,h6,h0⟩ | ⟨h1,h2,h3,h4,h5,h6,h7,h0⟩ | ⟨h1,h2,h3,h4,h5,h6,h7,h0⟩
    all_goals
     have H0:=hid h0;clear h0;go_wp2_with (go_at_call 59;refine (vnode_any _ _ (by first | exact HE.out.a | exact HE.out.b | exact HE.out.c | exact HE.out.d)).mono ?_;rintro en wn ⟨rfl,hbn⟩;have:=zAd (w:=w3) (by assumption) hbn;have:=cell_later (a:=⟨w.heap.size,0,none⟩) hbn (by assumption);have:=cell_later (a:=⟨w.heap.size,2,none⟩) hbn (by assumption);have:=cell_later (a:=⟨w.heap.size,3,none⟩) hbn (by assumption);have:=cell_later (a:=⟨w.heap.size,4,none⟩) hbn (by assumption);have:=cell_later (a:=⟨w.heap.size,5,none⟩) hbn (by assumption);have:=cell_later (a:=⟨w.heap.size,6,none⟩) hbn (by assumption);have:=cell_later (a:=⟨w.heap.size,7,none⟩) hbn (by assumption);have:=cell_later (a:=⟨gr,2,none⟩) hbn (by assumption);have:=cell_later (a:=⟨gr,3,none⟩) hbn (by assumption);have:=cell_later (a:=⟨gr,4,none⟩) hbn (by assumption));go_meet;exact ⟨by rw [H0.out],by assumption⟩
   case rest=>
    obtain ⟨wa,rfl⟩:∃wa:World,wa=wc:=⟨_,rfl⟩;obtain ⟨rfl,hbn⟩:=hcut;have HBA:=hid (HBW3.out.trans (hbn.mono HBW3.out.size));have d0:=cell_later hbn c0;have d2:=cell_later hbn c2;have d3:=cell_later hbn c3;have d4:=cell_later hbn c4;have d5:=cell_later hbn c5;have d6:=cell_later hbn c6;have d7:=cell_later hbn c7;have s2:=cell_later hbn r2;have s3:=cell_later hbn r3;have s4:=cell_later hbn r4;clear c0 c2 c3 c4 c5 c6 c7 r2 r3 r4 hbn HBW3;cases hn:zCu e
    · have HN:=hid hn;clear hn;go_upto_region 7 with fail
      go_cut [86] (fun t wx=> t=.bool (zEt e)∧wx=wa)
      case first=>
       rcases arg_ways e with ⟨h1,h0⟩ | ⟨h1,g1,h2,h3,h0⟩ | ⟨h1,g1,h2,h3,h4,h0⟩ | ⟨h1,g1,h2,h3,h4,h5,h0⟩ | ⟨h1,g1,h2,h3,h4,h5,h6,h0⟩ | ⟨h1,g1,h2,h3,h4,h5,h6,h0⟩ | ⟨h1,g1,h2,h3,h0⟩ | ⟨h1,g1,h2,h3,h4,h0⟩ | ⟨h1,g1,h2,h3,h4,h0⟩
       all_goals
        have H0:=hid h0;clear h0;go_wp2_with fail;go_meet;exact ⟨by rw [H0.out],rfl⟩
      case rest=>
       obtain ⟨rfl,rfl⟩:=hcut;cases hg:zEt e
       · have HG:=hid hg;clear hg
         by_cases hk2:2 < kindF e.val
         · go_wp2_with (go_at_call 60;refine (kind_any _ _ HE.out.val).mono ?_;rintro e5 w5 ⟨rfl,rfl⟩)
           (try rw [Exit.noGoto_ret])
           go_ret;exact ⟨zCe (by unfold zBc;rw [HK.out,HN.out,HG.out,if_pos hk2];rfl),HBA.out⟩
         · have HK2:=hid (show kindF e.val≤2 by omega);cases ha:kAb e.kind
           · go_wp2_with (go_at_call 60;refine (kind_any _ _ HE.out.val).mono ?_;rintro e5 w5 ⟨rfl,rfl⟩)
             (try rw [Exit.noGoto_ret])
             go_ret;exact ⟨zCe (zGx HK.out HN.out HG.out HK2.out (b:=false) (by rw [ha];rfl)).symm,HBA.out⟩
           · have HA:=hid ha;go_wp2_with (go_at_call 60;refine (kind_any _ _ HE.out.val).mono ?_;rintro e5 w5 ⟨rfl,rfl⟩)
             · rename_i hord;have HO:=hid hord;clear hord
               (try rw [Exit.noGoto_ret])
               go_ret;exact ⟨zCe (zGx HK.out HN.out HG.out HK2.out (b:=true) (by rw [HA.out,above_no HO.out];rfl)).symm,HBA.out⟩
             · rename_i hord;have HO:=hid hord;clear hord
               (try rw [Exit.noGoto_ret])
               go_ret;exact ⟨zCe (zGx HK.out HN.out HG.out HK2.out (b:=false) (by rw [HA.out,above_yes HK2.out HO.out];rfl)).symm,HBA.out⟩
       · have HG:=hid hg;clear hg;go_wp2_with fail
         (try rw [Exit.noGoto_ret])
         go_ret;exact ⟨zCe (by unfold zBc;rw [HK.out,HN.out,HG.out];rfl),HBA.out⟩
    · have HN:=hid hn;clear hn;go_wp2_with fail
      (try rw [Exit.noGoto_ret])
      go_ret;exact ⟨zCe (by unfold zBc;rw [HK.out,HN.out];rfl),HBA.out⟩
end
section
open Go.RowKit
theorem ffin_of {x r:Nat} (h:fc r=fop .sub (fc x) (fc x)):(FloatKind.f64.format.order r 0==some .eq)=ffin (fc x):=by
 have e0:fc 0=0:=zCw (by decide+kernel);show (ford r 0==some .eq)=_;rw [←ford_fc,h,e0];rfl
theorem cfin_yes {a b r s:Nat} (h1:fc r=fop .sub (fc a) (fc a)) (t:FloatKind.f64.format.order r 0=some .eq) (h2:fc s=fop .sub (fc b) (fc b)):
 (FloatKind.f64.format.order s 0==some .eq)=cfin (fc a,fc b):=by
 rw [ffin_of h2,cfin,←ffin_of h1,t];rfl
theorem cfin_no {a b r:Nat} (h1:fc r=fop .sub (fc a) (fc a)) (t:¬FloatKind.f64.format.order r 0=some .eq):false=cfin (fc a,fc b):=by
 rw [cfin,←ffin_of h1];have:(FloatKind.f64.format.order r 0==some .eq)=false:=by simpa using t
 rw [this];rfl
theorem ret_bool {a b:Bool} (h:a=b):Ending.returned (.bool a)=.returned (.bool b):=by rw [h]
theorem zCj (a b:Nat) (w:World):
 Calls Tryz.prog 38 #[.complex .f64 a b] w (Ret (fun v=> v=.bool (cfin (fc a,fc b))) w):=by
 go_enter Tryz.func38,Tryz.ntmps38;go_wp2_with (refine zAp rfl _ _ _ _ _ rfl rfl _ _ rfl rfl ?_;intro _ _ _)
 all_goals go_ret
 · rename_i r1 n1 h1 t r2 n2 h2;exact ⟨_,_,rfl,rfl,congrArg Value.bool (cfin_yes h1 t h2)⟩
 · rename_i r1 n1 h1 t;exact ⟨_,_,rfl,rfl,congrArg Value.bool (cfin_no h1 t)⟩
theorem zCq (a:Nat) (w:World):
 Calls Tryz.prog 80 #[.float .f64 a] w (Ret (fun v=> v=.bool (ffin (fc a))) w):=by
 go_enter Tryz.func80,Tryz.ntmps80;go_wp2_with (refine zAp rfl _ _ _ _ _ rfl rfl _ _ rfl rfl ?_;intro _ _ _);go_ret;rename_i r1 n1 h1;exact ⟨_,_,rfl,rfl,congrArg Value.bool (ffin_of h1)⟩
theorem zBp (a b:Nat) (w:World):
 Calls Tryz.prog 35 #[.complex .f64 a b] w (Ret (fun v=> v=.bool (cfin (fc a,fc b))) w):=by
 by_cases ha:ffin (fc a)=true
 · have hf:cfin (fc a,fc b)=ffin (fc b):=by simp [cfin,ha]
   rw [hf];clear hf;go_enter Tryz.func35,Tryz.ntmps35;go_wp2_with (go_at_call 80;refine (zCq _ _).mono ?_;rintro e w' ⟨v,n,rfl,rfl,rfl⟩);go_ret;exact ⟨_,_,rfl,rfl,rfl⟩
 · have ha':=Bool.eq_false_iff.2 ha;clear ha;have hf:cfin (fc a,fc b)=false:=by simp [cfin,ha']
   rw [hf];clear hf;go_enter Tryz.func35,Tryz.ntmps35;go_wp2_with (go_at_call 80;refine (zCq _ _).mono ?_;rintro e w' ⟨v,n,rfl,rfl,rfl⟩);go_ret;exact ⟨_,_,rfl,rfl,rfl⟩
theorem same_bits_nan {a b:Nat} (h:¬(a=b)):(fc a=fc b) ↔ (fnan a=true∧fnan b=true):=by
 constructor
 · intro hf
   by_cases ha:fnan a=true
   · refine ⟨ha,?_⟩;rw [zCx ha] at hf;exact fc_eq_qnan.1 hf.symm
   · by_cases hb:fnan b=true
     · rw [zCx hb] at hf;exact absurd (fc_eq_qnan.1 hf) ha
     · rw [zCw (by simpa using ha),zCw (by simpa using hb)] at hf;exact absurd hf h
 · rintro ⟨ha,hb⟩;rw [zCx ha,zCx hb]
theorem neq_self (x:Nat):(FloatKind.f64.format.order x x !=some .eq)=fnan x:=by
 have:=ford_self x;unfold ford at this;unfold bne;rw [this];simp
theorem same_1 {a b:Nat} (h:(a:Int)=b):true=(fc a==fc b):=by
 have:a=b:=by omega
 simp [this]
theorem same_2 {a b:Nat} (h:¬(a:Int)=b) (h2:FloatKind.f64.format.order a a=some .eq):((a:Int)==b)=(fc a==fc b):=by
 have hab:¬a=b:=by omega
 have hn:fnan a=false:=by rw [←neq_self,h2];rfl
 have h1:((a:Int)==b)=false:=by simpa using h
 have h3:(fc a==fc b)=false:=by
  rw [beq_eq_false_iff_ne];intro e;have:=((same_bits_nan hab).1 e).1;rw [hn] at this;cases this
 rw [h1,h3]
theorem same_3 {a b:Nat} (h:¬(a:Int)=b):
 ((a:Int)==b || FloatKind.f64.format.order a a !=some .eq && FloatKind.f64.format.order b b !=some .eq)=(fc a==fc b):=by
 have hab:¬a=b:=by omega
 have h1:((a:Int)==b)=false:=by simpa using h
 rw [h1,neq_self,neq_self,Bool.eq_iff_iff]
 simp [same_bits_nan hab]
theorem samereal_any (a b:Nat) (w:World):
 Calls Tryz.prog 11 #[.float .f64 a,.float .f64 b] w fun e w'=> e=.returned (.bool (fc a==fc b))∧w=w':=by
 have b1:=bits_law;go_enter Tryz.func11,Tryz.ntmps11;go_wp2
 all_goals go_ret
 · rename_i h;exact ⟨ret_bool (same_1 h),rfl⟩
 · rename_i h h2;exact ⟨ret_bool (same_2 h h2),rfl⟩
 · rename_i h h2;exact ⟨ret_bool (same_3 h),rfl⟩
end
section
open Go.RowKit
end
section
open Go.RowKit
abbrev mkC (z:Cx):Value:=.complex .f64 z.1 z.2
def ck (z:Cx):Cx:=(fc z.1,fc z.2)
theorem zEm:(Tryz.prog.info? 49).map (fun i=> (i.zero,i.size,i.bytes))=some (some (.complex .f64 0 0),1,16):=by kernel_rfl
end
section
open Go.RowKit
section
variable {α:Type} {mk:α→Value} {mark:Nat→Nat→α} {E ST B m:Nat} {v0:Value} {V:Nat→Value} {N:Nat→Nat}
theorem IsSl.atV {P:Program} {SST:TypeId} {i:TypeInfo} (ht:P.underlying SST=some (.slice ST)) (hi:P.info? ST=some i) (hs:i.size=1) {wr:World} {a0:Option Addr} {c0:Nat}
 (h:IsSl wr 1 (.slice a0 m c0) m ((List.range m).map V)) {k:Nat} (hk:k < m) {x:Value} (hv:V k=x):
 ∃g o,(∀w',(Instr.indexAt SST (.slice a0 m c0) (.int .i64 k)).run P w'=.ok (.pointer (some ⟨g,o,none⟩)) w')∧g < wr.heap.size∧wr.cell? ⟨g,o,none⟩=some x∧(Value.slice a0 m c0).ownBlock=some g:=by
 obtain ⟨g,o,y,h1,h2,h3,h4⟩:=IsSl.at1 ht hi hs h hk;have hx:y=x:=by
  rw [List.getElem?_map,List.getElem?_range hk] at h4;rw [←hv];simpa using h4.symm
 subst hx;refine ⟨g,o,h1,h2,h3,?_⟩;have:=h1 wr;rcases h.2 with ⟨_,h0⟩ | ⟨g',off,c',he,_,_,_⟩
 · omega
 · cases he;have he:P.elem SST=ST:=by simp [Program.elem,ht]
   rw [run_indexAt_slice wr SST _ m c0 .i64 k (by rw [he];exact ht),if_pos ⟨by omega,by omega⟩,he] at this;simp only [sizeOf,typeInfo,Sem.run_bind,Result.andThen] at this;have hb:((⟨g',off,none⟩:Addr).add k).block=g':=by unfold Addr.add;split <;> rfl
   simp [hi,hs] at this
   have hb2:=congrArg Addr.block this;rw [hb] at hb2;show some g'=some g;rw [hb2]
theorem InSl.atV {P:Program} {SST:TypeId} {i:TypeInfo} (ht:P.underlying SST=some (.slice ST)) (hi:P.info? ST=some i) (hs:i.size=1) {wr:World} {a0:Option Addr} {c0:Nat}
 (h:InSl wr 1 (.slice a0 m c0) m ((List.range m).map V)) {k:Nat} (hk:k < m) {x:Value} (hv:V k=x):
 ∃g o,(∀w',(Instr.indexAt SST (.slice a0 m c0) (.int .i64 k)).run P w'=.ok (.pointer (some ⟨g,o,none⟩)) w')∧g < wr.heap.size∧wr.cell? ⟨g,o,none⟩=some x∧(Value.slice a0 m c0).ownBlock=some g:=
 IsSl.atV ht hi hs (h.pos (by omega)) hk hv
theorem own_ne {w w':World} {base e size n:Nat} {v:Value} {xs:List Value} {g:Nat} (h:w.ownsRow base e size v n xs) (hg:w.grownBy w' (some g)) (hne:v.ownBlock≠some g):w'.ownsRow base e size v n xs:=h.kept hg (.inr hne)
theorem zBa {w w':World} {base e size n:Nat} {v:Value} {xs:List Value} (h:w.ownsRow base e size v n xs) (hg:w.grownBy w' none):w'.ownsRow base e size v n xs:=h.kept hg (by cases v.ownBlock <;> simp)
theorem zCk {g g' n c:Nat} (h:(Value.slice (some ⟨g,0,none⟩) n c).ownBlock=some g'):g'=g:=by simpa [Value.ownBlock] using h.symm
end
end
section
open Go.RowKit
theorem zAq {w w':World} (h:Below w.drew.heap.size w.drew w'):Below w.heap.size w w':=⟨h.os,h.tape,h.output,h.size,h.block⟩
def Dis (a b:Value):Prop:=∀g,a.ownBlock=some g→b.ownBlock≠some g
structure ORow where
 v:Value
 e:Nat
 size:Nat
 n:Nat
 xs:List Value
def ORow.ok (B:Nat) (w:World) (o:ORow):Prop:=w.ownsRow B o.e o.size o.v o.n o.xs
structure Owns (B:Nat) (dom:Nat × Nat→Prop) (row:Nat × Nat→ORow) (w:World):Prop where
 size:B≤w.heap.size
 ok:∀i,dom i→(row i).ok B w
 dis:∀i j,dom i→dom j→i≠j→Dis (row i).v (row j).v
section
variable {B:Nat} {dom dom':Nat × Nat→Prop} {row row':Nat × Nat→ORow} {w w1:World}
theorem zAe (hb:Below w.heap.size w w1) (r:Option Nat):w.grownBy w1 r:=⟨hb.os,hb.tape,hb.output,hb.size,fun k hk _=> hb.block k hk⟩
theorem zCz (hg:w.grownBy w1 Option.none):Below w.heap.size w w1:=⟨hg.os,hg.tape,hg.output,hg.size,fun k hk=> hg.block k hk (by simp)⟩
end
end
section
open Go.RowKit
end
section
open Go.RowKit
theorem infoEz:(Tryz.prog.info? 57).map (fun i=> (i.zero,i.size,i.bytes))=some (some (.agg #[.int .u8 0,.string ⟨#[]⟩,.string ⟨#[]⟩,.string ⟨#[]⟩,.string ⟨#[]⟩,.string ⟨#[]⟩,.int .u64 0,.int .i64 0]),8,104):=by kernel_rfl
theorem zFh:(Tryz.prog.info? 48).map (fun i=> (i.zero,i.size,i.bytes))=some (some (.agg #[.int .u8 0,.string ⟨#[]⟩,.string ⟨#[]⟩,.string ⟨#[]⟩,.string ⟨#[]⟩,.string ⟨#[]⟩,.float .f64 0,.int .i64 0]),8,104):=by kernel_rfl
def agE (e:El):Value:=.agg #[.int .u8 e.kind,.string e.name,.string e.a,.string e.b,.string e.c,.string e.d,.float .f64 e.val,.int .i64 e.ph]
theorem zDk (w:World) (o1 o2:Obj):((w.alloc o1).alloc o2).heap[w.heap.size]? =some o1∧((w.alloc o1).alloc o2).heap[w.heap.size+1]? =some o2∧Below w.heap.size w ((w.alloc o1).alloc o2):=by
 have h1:(w.alloc o1).heap.size=w.heap.size+1:=by simp
 have h2:=heap_alloc_new (w.alloc o1) o2;rw [h1] at h2;exact ⟨(heap_alloc_old (w.alloc o1) o2 (by simp)).trans (heap_alloc_new w o1),h2,((Below.refl _ w).alloc (Nat.le_refl _) _).alloc (by simp) _⟩
theorem element_any (e:El) (w:World):
 Calls Tryz.prog 17 #[.agg #[.int .u8 e.kind,.string e.name,.string e.a,.string e.b,.string e.c,.string e.d,.int .u64 e.val,.int .i64 e.ph]] w fun en w'=> en=.returned (agE e)∧Below w.heap.size w w':=by
 have b2:=zDi;go_enter Tryz.func17,Tryz.ntmps17;go_upto_region 1 with fail;obtain ⟨hA,hR,hB⟩:=zDk w (.cells #[.int .u8 e.kind,.string e.name,.string e.a,.string e.b,.string e.c,.string e.d,.int .u64 e.val,.int .i64 e.ph] 57) (.cells #[.int .u8 0,.string ⟨#[]⟩,.string ⟨#[]⟩,.string ⟨#[]⟩,.string ⟨#[]⟩,.string ⟨#[]⟩,.float .f64 0,.int .i64 0] 48);generalize hW:(w.alloc (.cells #[.int .u8 e.kind,.string e.name,.string e.a,.string e.b,.string e.c,.string e.d,.int .u64 e.val,.int .i64 e.ph] 57)).alloc (.cells #[.int .u8 0,.string ⟨#[]⟩,.string ⟨#[]⟩,.string ⟨#[]⟩,.string ⟨#[]⟩,.string ⟨#[]⟩,.float .f64 0,.int .i64 0] 48)=W at *;obtain ⟨hc,_⟩:=zAb hA;have c0:=hc 0 _ rfl;have c1:=hc 1 _ rfl;have c2:=hc 2 _ rfl;have c3:=hc 3 _ rfl;have c4:=hc 4 _ rfl;have c5:=hc 5 _ rfl;have c6:=hc 6 _ rfl;have c7:=hc 7 _ rfl;have HB:=hid hB;have HR:=hid hR;have HW:=hid hW;clear hc hA hR hB hW
 go_still_tail 18,(by kernel_rfl)
 change wpList _ _ _ _ _ W.drew;rw [←HW.out];go_wp2;refine bodyPost_ret (v:=.agg #[.int .u8 e.kind,.string e.name,.string e.a,.string e.b,.string e.c,.string e.d,.float .f64 e.val,.int .i64 e.ph]) ?_ rfl ⟨rfl,?_⟩
 · first | (rw [results_cell rfl];go_simp;done) | (unfold results;go_simp;done) | (go_simp;done) | skip
 exact (((Below.refl _ w).alloc (Nat.le_refl _) _).alloc (by simp) _).drew
theorem ea_len (e:El):(ea e).length=8:=rfl
theorem ez_len (e:El):(ez e).length=8:=rfl
theorem elements_any (v:Value) (l:List El) (w:World) (hv:InSl w 8 v l.length (l.flatMap ez)) (hl:l.length * 104≤140737488351232):
 Calls Tryz.prog 5 #[v] w (RetRow 48 8 l.length (fun xs=> xs=l.flatMap ea) w):=by
 obtain ⟨a,c,rfl⟩:=hv.form;obtain ⟨i0,hi,hz0,hz1,hz2⟩:=info_parts zFh;obtain ⟨iu,hiu,hu0,hu1,hu2⟩:=info_parts infoEz;go_enter Tryz.func5,Tryz.ntmps5;go_wp2
 go_loopw [3,4] (fun out i wr=> ∃k:Nat,k≤l.length∧i=.int .i64 k∧wr.ownsRow w.heap.size 48 8 out k ((l.take k).flatMap ea)∧Below w.heap.size w wr) (fun _ i _=> l.length - (intOf i).toNat)
 case atStart=> exact ⟨0,Nat.zero_le _,rfl,World.ownsRow_nil _ _ _ _,Below.refl _ _⟩
 case round=>
  obtain ⟨k,hk,rfl,hown,hb⟩:=hrel
  by_cases hlt:k < l.length
  · obtain ⟨g,o,x,hidx,hg,hx,hcell⟩:=InSl.atF Tryz.underlying28 hiu hu1 ez_len (hv.below hb (Nat.le_refl _)) rfl hlt;have c0:=hcell 0 _ rfl;have c1:=hcell 1 _ rfl;have c2:=hcell 2 _ rfl;have c3:=hcell 3 _ rfl;have c4:=hcell 4 _ rfl;have c5:=hcell 5 _ rfl;have c6:=hcell 6 _ rfl;have c7:=hcell 7 _ rfl;rw [Nat.add_zero] at c0;have HX:=hid hx;have HB:=hid hb;have HO:=hid hown;clear hx hb hown hcell;go_wp2_with fail;refine (element_any x _).mono ?_;rintro en w1 ⟨rfl,hb1⟩;have HB1:=hid (zBb HB.out hb1);have hsz:=HB1.out.size;have hown:w1.ownsRow w.heap.size 48 8 u3 k ((l.take k).flatMap ea):=zBa HO.out (zAe hb1 _);go_wp2_with (refine zBj rfl rfl _ rfl _ _ _ rfl rfl w.heap.size 48 8 104 i0 (.agg #[.int .u8 0,.string ⟨#[]⟩,.string ⟨#[]⟩,.string ⟨#[]⟩,.string ⟨#[]⟩,.string ⟨#[]⟩,.float .f64 0,.int .i64 0]) Tryz.underlying26 hi hz0 hz1 hz2 rfl (by decide) (by decide) _ k _ hown hsz (.agg #[.int .u8 x.kind,.string x.name,.string x.a,.string x.b,.string x.c,.string x.d,.float .f64 x.val,.int .i64 x.ph]) rfl rfl (ea_one x) rfl rfl (by simp [maxLen];omega) (by omega) ?_;intro g1 cap1 w2 hown1 hg1 htwo);go_roundw
    case rel=>
     refine ⟨k+1,by omega,by go_num,?_,?_⟩
     · rw [flat_take l k x HX.out];exact hown1
     · rcases htwo with ⟨h1,h2⟩ | ⟨_,h2⟩
       · exact zFz HB1.out h2 fun _ e=> by cases e;exact (hown.lt _ h1).1
       · exact zFz HB1.out h2 fun _ e=> by cases e
    case measure=> simp [intOf];omega
  · go_wp2;go_ret;obtain rfl:k=l.length:=by omega
    exact ⟨_,_,rfl,hown,by simp,hb⟩
end
section
open Go.RowKit
def RN (w:World) (p:Value) (l:List El):Prop:=
 (p=.pointer none∧l= [])∨∃g v,p=.pointer (some ⟨g,0,none⟩)∧w.cell? ⟨g,0,none⟩=some v∧w.cell? ⟨g,1,none⟩=some (.bool true)∧IsSl w 8 v l.length (l.flatMap ea)
theorem RN.below {w w':World} {B:Nat} {p:Value} {l:List El} (h:RN w p l) (hb:Below B w w') (hB:w.heap.size≤B):RN w' p l:=by
 rcases h with h | ⟨g,v,hp,h0,h1,hs⟩
 · exact .inl h
 · exact .inr ⟨g,v,hp,(hb.cell (p:=⟨g,0,none⟩) (Nat.lt_of_lt_of_le (cell_lt h0) hB)).trans h0,(hb.cell (p:=⟨g,1,none⟩) (Nat.lt_of_lt_of_le (cell_lt h1) hB)).trans h1,hs.below hb hB⟩
theorem infoSt:(Tryz.prog.info? 9).map (fun i=> (i.zero,i.size,i.bytes))=some (some (.string ⟨#[]⟩),1,16):=by kernel_rfl
def sts (l:List ByteArray):List Value:=l.map Value.string
theorem none_nil (w:World):Calls Tryz.prog 94 #[.pointer none] w fun e w'=> e=.returned (.bool true)∧w=w':=by
 go_enter Tryz.func94,Tryz.ntmps94;go_wp2;go_ret;exact ⟨rfl,rfl⟩
theorem none_made (g:Nat) (w:World) (h1:w.cell? ⟨g,1,none⟩=some (.bool true)):Calls Tryz.prog 94 #[.pointer (some ⟨g,0,none⟩)] w fun e w'=> e=.returned (.bool false)∧w=w':=by
 go_enter Tryz.func94,Tryz.ntmps94;go_wp2;go_ret;exact ⟨rfl,rfl⟩
theorem zFk (p:Value) (l:List El) (w:World) (hp:RN w p l) (hl:l.length * 104≤140737488351232):
 Calls Tryz.prog 66 #[p] w (RetRow 48 8 l.length (fun xs=> xs=l.flatMap ea) w):=by
 obtain ⟨i0,hi,hz0,hz1,hz2⟩:=info_parts zFh;rcases hp with ⟨rfl,rfl⟩ | ⟨g,v,rfl,h0,h1,hs⟩
 · go_enter Tryz.func66,Tryz.ntmps66;go_wp2_with (go_at_call 94;refine (none_nil _).mono ?_;rintro e w1 ⟨rfl,rfl⟩)
   (try rw [Exit.noGoto_ret])
   go_ret;exact ⟨_,_,rfl,World.ownsRow_nil _ _ _ _,rfl,Below.refl _ _⟩
 · have H1:=hid h1;have HS:=hid hs;clear h1 hs;go_enter Tryz.func66,Tryz.ntmps66;go_wp2_with (first | (go_at_call 94;refine (none_made _ _ H1.out).mono ?_;rintro e w1 ⟨rfl,rfl⟩) | (refine zCg rfl _ _ _ rfl w.heap.size 48 8 104 i0 (.agg #[.int .u8 0,.string ⟨#[]⟩,.string ⟨#[]⟩,.string ⟨#[]⟩,.string ⟨#[]⟩,.string ⟨#[]⟩,.float .f64 0,.int .i64 0]) Tryz.underlying26 hi hz0 hz1 hz2 rfl (by decide) _ 0 [] (World.ownsRow_nil _ _ _ _) (Nat.le_refl _) _ _ _ HS.out rfl rfl (by intro u hu;obtain ⟨z,_,hz⟩:=List.mem_flatMap.1 hu;exact ea_one z u hz) (by simp [maxLen];omega) (by omega) ?_;intro v1 w1 hown1 hgr1 hat1));go_ret;refine ⟨_,_,rfl,?_,rfl,(Below.refl _ _).grown hgr1 (Nat.le_refl _) (by intro k e;cases e)⟩
   simpa using hown1
theorem zBs {w:World} {B B' e size n:Nat} {v:Value} {xs:List Value} (h:w.ownsRow B' e size v n xs) (hB:B≤B'):w.ownsRow B e size v n xs:=by
 obtain ⟨h1,h2⟩:=h;refine ⟨h1,?_⟩;rcases h2 with h | ⟨g,cap,cur,ha,hb,hc⟩
 · exact .inl h
 · exact .inr ⟨g,cap,cur,ha,Nat.le_trans hB hb,hc⟩
def isBr (e:El):Bool:=e.kind==5 || e.kind==7
def brs (l:List El):List ByteArray:=(l.filter isBr).map (·.name)
theorem brs_yes {l:List El} {k:Nat} {x:El} (h:l[k]? =some x) (hx:isBr x=true):brs (l.take (k+1))=brs (l.take k)++ [x.name]:=by
 obtain ⟨hk,e⟩:=List.getElem?_eq_some_iff.1 h;subst e;unfold brs;rw [List.take_succ_eq_append_getElem hk,List.filter_append,List.map_append]
 simp [hx]
theorem brs_no {l:List El} {k:Nat} {x:El} (h:l[k]? =some x) (hx:isBr x=false):brs (l.take (k+1))=brs (l.take k):=by
 obtain ⟨hk,e⟩:=List.getElem?_eq_some_iff.1 h;subst e;unfold brs;rw [List.take_succ_eq_append_getElem hk,List.filter_append,List.map_append]
 simp [hx]
theorem brs_len (l:List El):(brs l).length≤l.length:=by
 unfold brs;rw [List.length_map];exact List.length_filter_le _ _
theorem brs_take_len (l:List El) (k:Nat):(brs (l.take k)).length≤k:=Nat.le_trans (brs_len _) (by rw [List.length_take];omega)
theorem sts_snoc (l:List ByteArray) (s:ByteArray):sts (l++ [s])=sts l++ [.string s]:=by simp [sts]
theorem sts_one {l:List ByteArray} {u:Value} (h:u∈sts l):u.oneCell'=true:=by
 obtain ⟨s,_,rfl⟩:=List.mem_map.1 h
 rfl
theorem br_ways (x:El):((x.kind==5)=true∧isBr x=true)∨((x.kind==5)=false∧(x.kind==7)=true∧isBr x=true)∨((x.kind==5)=false∧(x.kind==7)=false∧isBr x=false):=by
 unfold isBr;cases (x.kind==5) <;> cases (x.kind==7) <;> simp
theorem pushed {w wr w2:World} {e size n g:Nat} {v:Value} {xs:List Value} (hb:Below w.heap.size w wr) (ho:wr.ownsRow w.heap.size e size v n xs)
 (h:(v.ownBlock=some g∧wr.grownBy w2 (some g))∨(wr.heap.size≤g∧wr.grownBy w2 none)):Below w.heap.size w w2:=by
 rcases h with ⟨h1,h2⟩ | ⟨_,h2⟩
 · exact zFz hb h2 fun _ e=> by cases e;exact (ho.lt _ h1).1
 · exact zFz hb h2 fun _ e=> by cases e
theorem zHc (p:Value) (l:List El) (w:World) (hp:RN w p l) (hl:l.length≤100000):
 Calls Tryz.prog 67 #[p] w (RetRow 9 1 (brs l).length (fun xs=> xs=sts (brs l)) w):=by
 obtain ⟨i0,hi,hz0,hz1,hz2⟩:=info_parts infoSt;obtain ⟨iu,hiu,hu0,hu1,hu2⟩:=info_parts zFh;go_enter Tryz.func67,Tryz.ntmps67;go_wp2_with (go_at_call 66;refine (zFk _ l _ hp (by omega)).mono ?_;rintro e w0 ⟨v0,xs,rfl,hown0,rfl,hb0⟩;obtain ⟨a,c,rfl⟩:=(IsSl.of_own hown0).form);have HI:=hid (IsSl.of_own hown0);have HB0:=hid hb0;clear hb0 hown0 hp
 go_loopw [3,5] (fun out i wr=> ∃k:Nat,k≤l.length∧i=.int .i64 k∧wr.ownsRow w0.heap.size 9 1 out (brs (l.take k)).length (sts (brs (l.take k)))∧Below w0.heap.size w0 wr) (fun _ i _=> l.length - (intOf i).toNat)
 case atStart=> exact ⟨0,Nat.zero_le _,rfl,World.ownsRow_nil _ _ _ _,Below.refl _ _⟩
 case round=>
  obtain ⟨k,hk,rfl,hown,hb⟩:=hrel
  by_cases hlt:k < l.length
  · obtain ⟨g,o,x,hidx,hg,hx,hcell⟩:=IsSl.atF Tryz.underlying26 hiu hu1 ea_len (HI.out.below hb (Nat.le_refl _)) rfl hlt;have c0:=hcell 0 _ rfl;have c1:=hcell 1 _ rfl;rw [Nat.add_zero] at c0;have HX:=hid hx;have HB:=hid hb;have HO:=hid hown;have hlen:=brs_take_len l k;clear hx hb hown hcell;rcases br_ways x with ⟨h5,h0⟩ | ⟨h5,h7,h0⟩ | ⟨h5,h7,h0⟩
    · have HBR:=hid h0;clear h0;have hown:=HO.out;have hsz:=HB.out.size;go_wp2_with (refine zBj rfl rfl _ rfl _ _ _ rfl rfl w0.heap.size 9 1 16 i0 (.string ⟨#[]⟩) Tryz.underlying45 hi hz0 hz1 hz2 rfl (by decide) (by decide) _ (brs (l.take k)).length _ hown hsz (.string x.name) rfl rfl (by intro u hu;simp [Value.cells] at hu;subst hu;rfl) rfl rfl (by simp [maxLen];omega) (by omega) ?_;intro g1 cap1 w2 hown1 hg1 htwo);go_roundw
      case rel=>
       refine ⟨k+1,by omega,by go_num,?_,?_⟩
       · rw [brs_yes HX.out HBR.out,List.length_append,sts_snoc];exact hown1
       · exact pushed HB.out HO.out htwo
      case measure=> simp [intOf];omega
    · have HBR:=hid h0;clear h0;have hown:=HO.out;have hsz:=HB.out.size;go_wp2_with (refine zBj rfl rfl _ rfl _ _ _ rfl rfl w0.heap.size 9 1 16 i0 (.string ⟨#[]⟩) Tryz.underlying45 hi hz0 hz1 hz2 rfl (by decide) (by decide) _ (brs (l.take k)).length _ hown hsz (.string x.name) rfl rfl (by intro u hu;simp [Value.cells] at hu;subst hu;rfl) rfl rfl (by simp [maxLen];omega) (by omega) ?_;intro g1 cap1 w2 hown1 hg1 htwo);go_roundw
      case rel=>
       refine ⟨k+1,by omega,by go_num,?_,?_⟩
       · rw [brs_yes HX.out HBR.out,List.length_append,sts_snoc];exact hown1
       · exact pushed HB.out HO.out htwo
      case measure=> simp [intOf];omega
    · have HBR:=hid h0;clear h0;go_wp2_with fail;go_roundw
      case rel=>
       refine ⟨k+1,by omega,by go_num,?_,HB.out⟩;rw [brs_no HX.out HBR.out];exact HO.out
      case measure=> simp [intOf];omega
  · go_wp2;go_ret;obtain rfl:k=l.length:=by omega
    rw [List.take_length] at hown;exact ⟨_,_,rfl,zBs hown HB0.out.size,rfl,zAd HB0.out hb⟩
end
end Go.Proofs.YtejooaeppcjhjaaGreat
