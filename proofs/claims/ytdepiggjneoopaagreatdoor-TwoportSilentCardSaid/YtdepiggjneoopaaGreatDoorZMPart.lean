/- a part of the proof of the last text -/
import Derived.Test.YtdepiggjneoopaaGreatDoorZMSrc1
import Derived.Laws.MakeOwn
import Derived.Laws.CopyOwn
import Derived.Deep.Onto
namespace Go.Proofs.YtdepiggjneoopaaGreatDoor
set_option linter.all false
set_option maxHeartbeats 4000000
set_option maxRecDepth 100000
section
open Go.RowKit
def zrow (n:Nat):Array Value:=((List.replicate n (0,0)).map mkC).toArray
theorem zrow_made (n:Nat):madeCells (Value.complex .f64 0 0).cells (n * 1)=zrow n:=by
 apply Array.ext
 · simp [madeCells,zrow]
 · intro i h1 h2
   simp [madeCells,zrow,Value.cells,mkC,Nat.mod_one]
theorem mk_many (n:Nat) (w:World) (hn:n≤4096):(Instr.makeSlice 41 (.int .i64 n) (.int .i64 n)).run Tryz.prog w=.ok (.slice (some ⟨w.heap.size,0,none⟩) n n) (w.alloc (.cells (zrow n) 48)):=by
 obtain ⟨i0,hi,cG,bD,cB⟩:=info_parts zFh;have h:=run_make (P:=Tryz.prog) w 41 48 i0 (.complex .f64 0 0) Tryz.underlying41 hi cG .i64 .i64 n n (by omega) (Int.le_refl _) (by rw [cB];omega) (by omega);rw [h,Int.toNat_natCast,bD,zrow_made]
end
section
open Go.RowKit
theorem snone_any (p:Value) (l:List El) (w:World) (hp:NN w p l) (hl:l.length≤100000) (aY:∀y∈l,y.Ok):
 Calls Tryz.prog 64 #[p] w fun e w'=> e=.returned (.bool (zBp p))∧Below w.heap.size w w':=by
 obtain ⟨pa,rfl⟩:∃pa:Option Addr,p=.pointer pa:=by
  obtain ⟨pa,h,_⟩:=nn_form hp;exact ⟨pa,h⟩
 cases pa with
 | none=>
  go_enter Tryz.func64,Tryz.ntmps64;go_wp2;go_ret;exact ⟨rfl,Below.refl _ _⟩
 | some pa=>
  have HP:=hid hp;have cH:=hid aY;have fR:=hid (ofL_ne (l++ [zeroE]));clear hp aY;go_enter Tryz.func64,Tryz.ntmps64;go_upto_region 4 with (go_at_call 98;refine (nwith_any pa l zeroE _ HP.out hl cH.out zeroE_ok).mono ?_;rintro e w1 ⟨⟨p',rfl⟩,hb⟩;have HB:=hid hb;clear hb);obtain ⟨f,hf⟩:∃f,(ofL (l++ [zeroE])).2=f:=⟨_,rfl⟩;rw [show (ofL (l++ [zeroE])).2=f from hf] at fR⊢;clear hf;obtain ⟨fa,fb⟩:=f;have aK:(fa==1)=false:=by have:=fR.out;simpa using this
  have aG:=hid (zAd HB.out ((Below.refl w1.heap.size w1).alloc (Nat.le_refl _) (.cells #[.int .i64 fa,.int .i64 fb] 38)));have hX:=hid (heap_alloc_new w1 (.cells #[.int .i64 fa,.int .i64 fb] 38));clear HB fR;dsimp only;generalize w1.alloc (.cells #[.int .i64 fa,.int .i64 fb] 38)=w2 at *;have b0:=(zAb hX.out).1 0 _ rfl;go_wp2;go_ret;exact ⟨rfl,aG.out⟩
def RetRg (S:List Cx × (Int × Int)) (w:World) (e:Ending) (w':World):Prop:=
 ∃ (v:Value) (xs:List Cx),e=.returned (.tuple #[v,.agg #[.int .i64 S.2.1,.int .i64 S.2.2]])∧xs.map ck=S.1∧w'.ownsRow w.heap.size 48 1 v xs.length (xs.map mkC)∧Below w.heap.size w w'
theorem RetRg.bad {w w':World} {S:List Cx × (Int × Int)} {a b:Int} (h:S=([],(a,b))) (hb:Below w.heap.size w w'):RetRg S w (.returned (.tuple #[.slice none 0 0,.agg #[.int .i64 a,.int .i64 b]])) w':=
 ⟨.slice none 0 0, [],by rw [h],by rw [h];rfl,World.ownsRow_nil _ _ _ _,hb⟩
theorem vec_new {w:World} {b n:Nat} (h:w.heap[b]? =some (.cells (zrow n) 48 (0,0))):VecR w b n (fun _=> (fc 0,fc 0)):=
 ⟨List.replicate n (0,0),by simp,h,fun k hk=> by rw [List.getD_eq_getElem?_getD,List.getElem?_replicate,if_pos hk];rfl⟩
theorem vec_own {w:World} {b n B:Nat} {r:Nat→Cx} (h:VecR w b n r) (hB:B≤b) (hn:n≤4096):
 ∃xs:List Cx,xs.length=n∧xs.map ck=(List.range n).map r∧w.ownsRow B 48 1 (.slice (some ⟨b,0,none⟩) n n) xs.length (xs.map mkC):=by
 obtain ⟨M,hM⟩:=h;refine ⟨M,hM.len,?_,?_⟩
 · apply List.ext_getElem
   · simp [hM.len]
   · intro i h1 h2;have hi:i < n:=by simpa using h2
     have:=hM.num i hi;rw [List.getD_eq_getElem?_getD,List.getElem?_eq_getElem (by rw [hM.len];exact hi)] at this
     simpa using this
 · refine ⟨by simp,.inr ⟨b,n,(M.map mkC).toArray,by rw [hM.len],hB,hM.row,by rw [hM.len];exact Nat.le_refl _,by unfold maxLen;omega,by simp [hM.len],?_⟩⟩;rw [List.take_of_length_le (by simp)]
end
section
open Go.RowKit
def czero (z:Cx):Bool:=ford z.1 0==some .eq && ford z.2 0==some .eq
def csize1 (z:Cx):Nat:=fadd (zBc z.1) (zBc z.2)
def cgt (x y:Cx):Bool:=ford (csize1 x) (csize1 y)==some .gt
theorem ford_zero (x:Nat):FloatKind.f64.format.order x 0=ford (fc x) 0:=by
 show ford x 0=_;have e0:fc 0=0:=zBv (by decide+kernel)
 conv=> rhs;rw [←e0]
 rw [ford_fc]
theorem pzero_any (a b:Nat) (w:World):
 Calls Tryz.prog 77 #[.complex .f64 a b] w fun e w'=> e=.returned (.bool (czero (fc a,fc b)))∧w=w':=by
 unfold czero;dsimp only;rw [←ford_zero,←ford_zero];go_enter Tryz.func77,Tryz.ntmps77;cases h:(FloatKind.f64.format.order a 0==some .eq)
 all_goals go_wp2
 all_goals go_ret
 all_goals exact ⟨by simp [*],rfl⟩
theorem psize1_any (a b:Nat) (w:World):
 Calls Tryz.prog 175 #[.complex .f64 a b] w (Ret (IsF (csize1 (fc a,fc b))) w):=by
 go_enter Tryz.func175,Tryz.ntmps175;go_wp2_with (first | (refine zAo rfl _ _ _ _ _ rfl rfl _ _ rfl rfl ?_;intro _ _ _) | (go_at_call 108;refine (psize_any _ _).mono ?_;rintro e w' ⟨rfl,rfl⟩));go_ret;refine ⟨_,_,rfl,rfl,_,rfl,?_⟩;rename_i h;rw [h];unfold csize1 fadd;dsimp only;rw [←fop_fc .add (zBc (fc a)),fc_fsize,fc_fsize]
theorem pfin_b (a b:Nat) (w:World):Calls Tryz.prog 41 #[.complex .f64 a b] w fun e w'=> e=.returned (.bool (cfin (fc a,fc b)))∧Below w.heap.size w w':=
 (zBk a b w).mono fun _ _ ⟨v,n,he,hw,hv⟩=> ⟨by rw [he,hv],by rw [hw];exact zAg (Below.refl _ _) n⟩
theorem psize1_b (a b:Nat) (w:World):Calls Tryz.prog 175 #[.complex .f64 a b] w (RetB (IsF (csize1 (fc a,fc b))) w):=
 (psize1_any a b w).mono fun _ _ ⟨v,n,he,hw,hv⟩=> ⟨v,he,by rw [hw];exact zAg (Below.refl _ _) n,hv⟩
def chS (c:List Cx) (k:Nat):Nat→Option (Nat × Bool)
 | 0=> some (k,true)
 | m+1=> match chS c k m with
  | none=> none
  | some s=> if cfin (c.getD (k+m) (0,0)) then some (if cgt (c.getD (k+m) (0,0)) (c.getD s.1 (0,0)) then k+m else s.1,s.2 && czero (c.getD (k+m) (0,0))) else none
theorem chS_none {c:List Cx} {k m:Nat} (h:chS c k m=none):∀j,chS c k (m+j)=none
 | 0=> h
 | j+1=> by
  show chS c k (m+j+1)=none;unfold chS;rw [chS_none h j]
def zCb (c:List Cx) (k:Nat):Int × Int:=
 match chS c k (c.length - k) with
 | none=> (0,5)
 | some s=> if s.2 then (0,7) else (s.1,0)
theorem choose_none {c:List Cx} {k m:Nat} (h:chS c k m=none) (hm:k+m≤c.length):zCb c k=(0,5):=by
 unfold zCb;have:=chS_none h (c.length - k - m);rw [show m+(c.length - k - m)=c.length - k by omega] at this;rw [this]
def RetIE (S:Int × Int) (w:World) (en:Ending) (w':World):Prop:=∃b e,en=.returned (.tuple #[.int .i64 b,.int .i64 e])∧(b,e)=S∧Below w.heap.size w w'
theorem getD_ck (c:List Cx) (i:Nat) (x:Cx) (h:c[i]? =some x):(c.map ck).getD i (0,0)=ck x:=by
 rw [List.getD_eq_getElem?_getD,List.getElem?_map,h];rfl
theorem choose_any (v:Value) (c:List Cx) (k:Nat) (w:World) (hv:IsSl w 1 v c.length (c.map mkC)) (hl:c.length≤64) (hk:k < c.length):
 Calls Tryz.prog 155 #[v,.int .i64 k] w (RetIE (zCb (c.map ck) k) w):=by
 obtain ⟨a,cap,rfl⟩:=hv.form;obtain ⟨i0,hi,cG,bD,cB⟩:=info_parts zFh;have h0:¬(64:Int) < (c.length:Int):=by omega
 have h1:¬(k:Int) < 0:=by omega
 have h2:¬(c.length:Int)≤ (k:Int):=by omega
 have HV:=hid hv;clear hv;go_enter Tryz.func155,Tryz.ntmps155;go_wp2
 go_loopw [6,7,8] (fun b z i wr=> ∃ (p bb:Nat) (zz:Bool),k≤p∧p≤c.length∧i=.int .i64 p∧b=.int .i64 bb∧z=.bool zz∧chS (c.map ck) k (p - k)=some (bb,zz)∧bb < c.length∧Below w.heap.size w wr) (fun _ _ i _=> c.length - (intOf i).toNat)
 case atStart=> exact ⟨k,k,true,Nat.le_refl _,by omega,rfl,rfl,rfl,by rw [Nat.sub_self];rfl,hk,Below.refl _ _⟩
 case round=>
  obtain ⟨p,bb,zz,hkp,hm,rfl,rfl,rfl,hch,nM,hb⟩:=hrel;have hpk:k+(p - k)=p:=by omega
  obtain ⟨wo,rfl⟩:∃wo:World,wo=wr:=⟨_,rfl⟩;have HB:=hid hb;have vV:=hid hch;have HVO:=hid (HV.out.below hb (Nat.le_refl _));clear hb hch
  by_cases aM:p < c.length
  · obtain ⟨g1,o1,x0,oH,fM,kN,hx1⟩:=IsSl.at1 Tryz.underlying41 hi bD HVO.out aM;obtain ⟨x,hx,rfl⟩:=map_getElem? hx1;obtain ⟨g2,o2,y0,oG,iR,cC,kL⟩:=IsSl.at1 Tryz.underlying41 hi bD HVO.out nM;obtain ⟨y,hy,rfl⟩:=map_getElem? kL;have HX:=hid (getD_ck c _ x hx);have HY:=hid (getD_ck c _ y hy);unfold mkC at kN cC;clear hx hy hx1 kL;cases hf:cfin (fc x.1,fc x.2)
    · have HF:=hid hf;clear hf;go_wp2_with (go_at_call 41;refine (pfin_b _ _ _).mono ?_;rintro e w1 ⟨rfl,aI⟩;rw [HF.out])
      (try simp only [Exit.inBlock,Exit.then])
      (try rw [Exit.noGoto_ret])
      refine bodyPost_ret (v:=.tuple #[.int .i64 0,.int .i64 5]) ?_ rfl ⟨0,5,rfl,?_,zBh HB.out (by assumption)⟩
      · rw [results_tmp2 rfl];rfl
      · refine (choose_none (m:=p - k+1) ?_ (by rw [List.length_map];omega)).symm;unfold chS;rw [vV.out];dsimp only;rw [hpk,HX.out,show cfin (ck x)=false from HF.out];rfl
    · have HF:=hid hf;clear hf;cases zz
      all_goals
       go_upto_region 13 with (first | (go_at_call 41;refine (pfin_b _ _ _).mono ?_;rintro e w1 ⟨rfl,aI⟩;rw [HF.out];have aL:=hid aI;have c1:=cell_later aI kN;have c2:=cell_later aI cC;clear aI) | (go_at_call 77;refine (pzero_any _ _ _).mono ?_;rintro e w' ⟨rfl,rfl⟩));clear kN cC
       go_region_held3 (fun w'=> Below w1.heap.size w1 w'∧w'.cell? ⟨g1,o1,none⟩=some (.complex .f64 x.1 x.2)∧w'.cell? ⟨g2,o2,none⟩=some (.complex .f64 y.1 y.2))
        (((try dsimp only);(try go_split_ands);refine ⟨?_,?_,?_⟩ <;> (first | with_reducible exact zBh (by assumption) hb | with_reducible exact cell_later hb (by assumption) | with_reducible exact (Below.refl _ _).drew | with_reducible assumption | (go_keep;done))))
        ((go_at_call 175;refine (psize1_b _ _ _).mono ?_;rintro en w' ⟨v,rfl,hb,r,rfl,hr⟩;have HR:=hid hr;clear hr))
       rename_i wa zP r1 qC hH;obtain ⟨w6,rfl⟩:∃w6:World,w6=w':=⟨_,rfl⟩;clear hb zP;obtain ⟨hb,-⟩:=hH;have cJ:=hid (zBh HB.out (zBh aL.out hb));clear hb;have eR:(FloatKind.f64.format.order r1 r==some .gt)=cgt (ck x) (ck y):=by
        show (ford r1 r==_)=_;rw [←ford_fc,qC.out,HR.out];rfl
       (try simp only [Exit.inBlock,Exit.then])
       go_wp2_with fail
       all_goals
        rename_i hq;rw [eR] at hq;have HG:=hid hq;clear hq;go_roundw
        case rel=>
         refine ⟨p+1,_,_,by omega,by omega,by go_num,rfl,rfl,?_,?_,cJ.out⟩
         · rw [show p+1 - k=(p - k)+1 by omega];unfold chS;rw [vV.out];dsimp only;rw [hpk,HX.out,HY.out,if_pos (show cfin (ck x)=true from HF.out),HG.out]
           rfl
         · omega
        case measure=> simp [intOf];omega
  · obtain rfl:p=c.length:=by omega
    have hs:zCb (c.map ck) k=if zz then (0,7) else ((bb:Int),0):=by
     unfold zCb;rw [List.length_map,vV.out]
    have HS:=hid hs;clear hs;cases zz
    · go_wp2_with fail
      (try simp only [Exit.inBlock,Exit.then])
      (try rw [Exit.noGoto_ret])
      refine bodyPost_ret (v:=.tuple #[.int .i64 bb,.int .i64 0]) ?_ rfl ⟨bb,0,rfl,(show ((bb:Int),(0:Int))=zCb (c.map ck) k by rw [HS.out];rfl),HB.out⟩;rw [results_tmp2 rfl];rfl
    · go_wp2_with fail
      (try simp only [Exit.inBlock,Exit.then])
      (try rw [Exit.noGoto_ret])
      refine bodyPost_ret (v:=.tuple #[.int .i64 0,.int .i64 7]) ?_ rfl ⟨0,7,rfl,(show ((0:Int),(7:Int))=zCb (c.map ck) k by rw [HS.out];rfl),HB.out⟩;rw [results_tmp2 rfl];rfl
end
section
open Go.RowKit
theorem ret_b {S:Value→Prop} {w w':World} {e:Ending} (h:Ret S w e w'):RetB S w e w':=by
 obtain ⟨v,n,he,hw,hs⟩:=h;exact ⟨v,he,by rw [hw];exact zAg (Below.refl _ _) n,hs⟩
theorem zDz {w:World} {g:Nat} {v:Value} {t:TypeId} (h:w.heap[g]? =some (.cells #[v] t (0,0))):w.cell? ⟨g,0,none⟩=some v∧w.frozen? ⟨g,0,none⟩=false:=by
 constructor
 · unfold World.cell?;rw [h];rfl
 · unfold World.frozen?;rw [h];rfl
theorem zBn {w w':World} {g:Nat} {o:Obj} (hb:Below w.heap.size w w') (h:w.heap[g]? =some o):w'.heap[g]? =some o:=(hb.block g (Array.getElem?_eq_some_iff.1 h).1).trans h
def RetLook (z:Cx) (g:Nat) (ov:Bool) (w:World) (en:Ending) (w':World):Prop:=
 ∃r i w3,en=.returned (.complex .f64 r i)∧(fc r,fc i)=z∧Below w.heap.size w w3∧w'=w3.setCell ⟨g,0,none⟩ (.bool (ov || !cfin z))
theorem by_any (g:Nat) (ov:Bool) (a b c d:Nat) (w:World) (h:w.heap[g]? =some (.cells #[.bool ov] 173 (0,0))):
 Calls Tryz.prog 105 #[.pointer (some ⟨g,0,none⟩),.complex .f64 a b,.complex .f64 c d] w (RetLook (cdiv (fc a,fc b) (fc c,fc d)) g ov w):=by
 have H:=hid h;clear h;go_enter Tryz.func105,Tryz.ntmps105;go_upto_region 2 with (go_at_call 79;refine ((pdiv_any _ _ _ _ _).mono fun _ _=> ret_b).mono ?_;rintro e w1 ⟨v,rfl,aI,r,i,rfl,hz⟩;have aL:=hid aI;have HZ:=hid hz;clear aI hz);have H1:=hid (zBn aL.out H.out);have c1:=(zDz H1.out).1;have f1:=(zDz H1.out).2;have hsz:=(Array.getElem?_eq_some_iff.1 H1.out).1;cases ov
 · go_wp2_with (go_at_call 41;refine (pfin_b _ _ _).mono ?_;rintro e w2 ⟨rfl,aV⟩;have aG:=hid aV;have c2:=(zDz (zBn aV H1.out)).1;have f2:=(zDz (zBn aV H1.out)).2;clear aV);go_ret
   exact ⟨r,i,w2,rfl,HZ.out,zBh aL.out aG.out,by rw [HZ.out];rfl⟩
 · go_wp2_with fail;go_ret
   exact ⟨r,i,w1,rfl,HZ.out,aL.out,rfl⟩
theorem less_any (g:Nat) (ov:Bool) (a b c d e f:Nat) (w:World) (h:w.heap[g]? =some (.cells #[.bool ov] 173 (0,0))):
 Calls Tryz.prog 104 #[.pointer (some ⟨g,0,none⟩),.complex .f64 a b,.complex .f64 c d,.complex .f64 e f] w (RetLook (csub (fc a,fc b) (cmul (fc c,fc d) (fc e,fc f))) g ov w):=by
 have H:=hid h;clear h;go_enter Tryz.func104,Tryz.ntmps104;go_upto_region 2 with (first | (go_at_call 80;refine ((pmul_any _ _ _ _ _).mono fun _ _=> ret_b).mono ?_;rintro e w0 ⟨v,rfl,kP,p,q,rfl,hy⟩;have oB:=hid kP;have HY:=hid hy;clear kP hy) | (go_at_call 45;refine ((psub_any _ _ _ _ _).mono fun _ _=> ret_b).mono ?_;rintro e w1 ⟨v,rfl,aI,r,i,rfl,hz⟩;have aL:=hid (zBh oB.out aI);have HZ:=hid (hz.trans (by rw [HY.out]));clear aI hz));have H1:=hid (zBn aL.out H.out);have c1:=(zDz H1.out).1;have f1:=(zDz H1.out).2;have hsz:=(Array.getElem?_eq_some_iff.1 H1.out).1;cases ov
 · go_wp2_with (go_at_call 41;refine (pfin_b _ _ _).mono ?_;rintro e w2 ⟨rfl,aV⟩;have aG:=hid aV;have c2:=(zDz (zBn aV H1.out)).1;have f2:=(zDz (zBn aV H1.out)).2;clear aV);go_ret
   exact ⟨r,i,w2,rfl,HZ.out,zBh aL.out aG.out,by rw [HZ.out];rfl⟩
 · go_wp2_with fail;go_ret
   exact ⟨r,i,w1,rfl,HZ.out,aL.out,rfl⟩
end
section
open Go.RowKit
def LowAt (w:World) (p:Value) (n:Nat) (R:Nat→List Cx) (ord:List Int) (sg:Int):Prop:=
 ∃ (g:Nat) (vR vO:Value) (V:Nat→Value),p=.pointer (some ⟨g,0,none⟩)∧w.heap[g]? =some (.cells #[.bool true,vR,vO,.int .i64 sg] 206 (0,0))∧
  IsSl w 1 vO n (ord.map (Value.int .i64))∧IsSl w 1 vR n ((List.range n).map V)∧∀j,j < n→IsSl w 1 (V j) n ((R j).map mkC)
theorem LowAt.below {w w':World} {p:Value} {n:Nat} {R:Nat→List Cx} {ord:List Int} {sg:Int} (h:LowAt w p n R ord sg) (hb:Below w.heap.size w w'):LowAt w' p n R ord sg:=by
 obtain ⟨g,vR,vO,V,hp,h1,h2,h3,h4⟩:=h;exact ⟨g,vR,vO,V,hp,zBn hb h1,h2.below hb (Nat.le_refl _),h3.below hb (Nat.le_refl _),fun j hj=> (h4 j hj).below hb (Nat.le_refl _)⟩
theorem zDc {w:World} {g:Nat} {a b c d:Value} {t:TypeId} (h:w.heap[g]? =some (.cells #[a,b,c,d] t (0,0))):
 w.cell? ⟨g,0,none⟩=some a∧w.cell? ⟨g,1,none⟩=some b∧w.cell? ⟨g,2,none⟩=some c∧w.cell? ⟨g,3,none⟩=some d:=by
 refine ⟨?_,?_,?_,?_⟩ <;> (unfold World.cell?;rw [h];rfl)
theorem low_is (p:Value) (n:Nat) (R:Nat→List Cx) (ord:List Int) (sg:Int) (w:World) (h:LowAt w p n R ord sg):
 Calls Tryz.prog 156 #[p] w fun e w'=> e=.returned (.bool true)∧w=w':=by
 obtain ⟨g,vR,vO,V,rfl,h1,h2,h3,h4⟩:=h;obtain ⟨c0,c1,c2,c3⟩:=zDc h1;go_enter Tryz.func156,Tryz.ntmps156;go_wp2;go_ret;exact ⟨rfl,rfl⟩
theorem low_sign (p:Value) (n:Nat) (R:Nat→List Cx) (ord:List Int) (sg:Int) (w:World) (h:LowAt w p n R ord sg):
 Calls Tryz.prog 134 #[p] w fun e w'=> e=.returned (.int .i64 sg)∧w=w':=by
 have H:=hid h;obtain ⟨g,vR,vO,V,rfl,h1,h2,h3,h4⟩:=h;obtain ⟨c0,c1,c2,c3⟩:=zDc h1;go_enter Tryz.func134,Tryz.ntmps134;go_wp2_with (go_at_call 156;refine (low_is _ _ _ _ _ _ H.out).mono ?_;rintro e w' ⟨rfl,rfl⟩);go_ret;exact ⟨rfl,rfl⟩
theorem low_size (p:Value) (n:Nat) (R:Nat→List Cx) (ord:List Int) (sg:Int) (w:World) (h:LowAt w p n R ord sg):
 Calls Tryz.prog 135 #[p] w fun e w'=> e=.returned (.int .i64 n)∧w=w':=by
 have H:=hid h;obtain ⟨g,vR,vO,V,rfl,h1,h2,h3,h4⟩:=h;obtain ⟨c0,c1,c2,c3⟩:=zDc h1;obtain ⟨a,cap,rfl⟩:=h3.form;go_enter Tryz.func135,Tryz.ntmps135;go_wp2_with (go_at_call 156;refine (low_is _ _ _ _ _ _ H.out).mono ?_;rintro e w' ⟨rfl,rfl⟩);go_ret;exact ⟨rfl,rfl⟩
end
section
open Go.RowKit
theorem infoRow:(Tryz.prog.info? 41).map (fun i=> (i.zero,i.size,i.bytes))=some (some (.slice none 0 0),1,24):=by kernel_rfl
def one1:Cx:=(4607182418800017408,0)
def lowL (R:Nat→List Cx) (i j:Nat):Cx:=if i=j then one1 else if j < i then (R i).getD j (0,0) else (0,0)
def lowU (R:Nat→List Cx) (i j:Nat):Cx:=if j < i then (0,0) else (R i).getD j (0,0)
theorem box_cell {w:World} {b:Nat} {p:Value} {t:TypeId} (h:w.heap[b]? =some (.cells #[p] t (0,0))):w.cell? ⟨b,0,none⟩=some p:=(zDz h).1
theorem lowU_any (b:Nat) (p:Value) (n:Nat) (R:Nat→List Cx) (ord:List Int) (sg:Int) (i j:Nat) (w:World) (h:LowAt w p n R ord sg) (hb:w.heap[b]? =some (.cells #[p] 125 (0,0))) (hi:i < n) (hj:j < n):
 Calls Tryz.prog 159 #[.int .i64 i,.int .i64 j,.pointer (some ⟨b,0,none⟩)] w fun e w'=> e=.returned (mkC (lowU R i j))∧w=w':=by
 obtain ⟨g,vR,vO,V,rfl,h1,h2,h3,h4⟩:=h;obtain ⟨c0,c1,c2,c3⟩:=zDc h1;have cb:=box_cell hb;obtain ⟨a,cap,rfl⟩:=h3.form;obtain ⟨i1,hr,hr0,nG,fO⟩:=info_parts infoRow;obtain ⟨i0,hc,cG,bD,cB⟩:=info_parts zFh;obtain ⟨g1,o1,x1,oH,fM,kN,hx1⟩:=IsSl.at1 Tryz.underlying204 hr nG h3 hi;obtain ⟨k,hk,rfl⟩:=map_getElem? hx1;obtain rfl:k=i:=by
  rw [List.getElem?_range hi] at hk;exact (Option.some.inj hk).symm
 have hV:=h4 k hi;obtain ⟨a2,cap2,uG⟩:=hV.form;rw [uG] at hV kN;obtain ⟨g2,o2,x2,oG,iR,cC,oX⟩:=IsSl.at1 Tryz.underlying41 hc bD hV hj;obtain ⟨z,hz,rfl⟩:=map_getElem? oX;have HZ:=hid hz;unfold mkC at cC;clear hx1 oX hz hk h4
 by_cases lI:j < k
 · have h5:(j:Int) < (k:Int):=by omega
   have HS:=hid (show lowU R k j=(0,0) from if_pos lI);clear lI;go_enter Tryz.func159,Tryz.ntmps159;go_wp2;go_ret;exact ⟨by rw [HS.out];rfl,rfl⟩
 · have h5:¬(j:Int) < (k:Int):=by omega
   have HS:=hid (show lowU R k j=z from (if_neg lI).trans (by rw [List.getD_eq_getElem?_getD,HZ.out];rfl));clear lI;go_enter Tryz.func159,Tryz.ntmps159;go_wp2;go_ret;exact ⟨by rw [HS.out];rfl,rfl⟩
theorem lowL_any (b:Nat) (p:Value) (n:Nat) (R:Nat→List Cx) (ord:List Int) (sg:Int) (i j:Nat) (w:World) (h:LowAt w p n R ord sg) (hb:w.heap[b]? =some (.cells #[p] 125 (0,0))) (hi:i < n) (hj:j < n):
 Calls Tryz.prog 158 #[.int .i64 i,.int .i64 j,.pointer (some ⟨b,0,none⟩)] w fun e w'=> e=.returned (mkC (lowL R i j))∧w=w':=by
 obtain ⟨g,vR,vO,V,rfl,h1,h2,h3,h4⟩:=h;obtain ⟨c0,c1,c2,c3⟩:=zDc h1;have cb:=box_cell hb;obtain ⟨a,cap,rfl⟩:=h3.form;obtain ⟨i1,hr,hr0,nG,fO⟩:=info_parts infoRow;obtain ⟨i0,hc,cG,bD,cB⟩:=info_parts zFh;obtain ⟨g1,o1,x1,oH,fM,kN,hx1⟩:=IsSl.at1 Tryz.underlying204 hr nG h3 hi;obtain ⟨k,hk,rfl⟩:=map_getElem? hx1;obtain rfl:k=i:=by
  rw [List.getElem?_range hi] at hk;exact (Option.some.inj hk).symm
 have hV:=h4 k hi;obtain ⟨a2,cap2,uG⟩:=hV.form;rw [uG] at hV kN;obtain ⟨g2,o2,x2,oG,iR,cC,oX⟩:=IsSl.at1 Tryz.underlying41 hc bD hV hj;obtain ⟨z,hz,rfl⟩:=map_getElem? oX;have HZ:=hid hz;unfold mkC at cC;clear hx1 oX hz hk h4
 by_cases wM:k=j
 · have h6:(k:Int)=(j:Int):=by omega
   have HS:=hid (show lowL R k j=one1 from if_pos wM);subst wM;clear h6;go_enter Tryz.func158,Tryz.ntmps158;go_wp2;go_ret;exact ⟨by rw [HS.out];rfl,rfl⟩
 · have h6:¬(k:Int)=(j:Int):=by omega
   by_cases lI:j < k
   · have h5:(j:Int) < (k:Int):=by omega
     have HS:=hid (show lowL R k j=z from (if_neg wM).trans ((if_pos lI).trans (by rw [List.getD_eq_getElem?_getD,HZ.out];rfl)));clear lI wM;go_enter Tryz.func158,Tryz.ntmps158;go_wp2;go_ret;exact ⟨by rw [HS.out];rfl,rfl⟩
   · have h5:¬(j:Int) < (k:Int):=by omega
     have HS:=hid (show lowL R k j=(0,0) from (if_neg wM).trans (if_neg lI));clear lI wM;go_enter Tryz.func158,Tryz.ntmps158;go_wp2;go_ret;exact ⟨by rw [HS.out];rfl,rfl⟩
end
section
open Go.RowKit
theorem own_block {w:World} {B e g n c:Nat} {xs:List Value} (h:w.ownsRow B e 1 (.slice (some ⟨g,0,none⟩) n c) n xs) (hc:n=c):B≤g∧w.heap[g]? =some (.cells xs.toArray e (0,0))∧xs.length=n∧c≤maxLen:=by
 rcases h.2 with ⟨h0,_⟩ | ⟨g',cap,cur,hv,hB,gM,hn,hm,hsz,hx⟩
 · cases h0
 · cases hv;subst hc;refine ⟨hB,?_,by simpa using h.1,hm⟩;rw [gM];have:cur.toList=xs:=by rw [←hx];exact (List.take_of_length_le (by simp [hsz])).symm
   rw [←this]
theorem block_own {w:World} {B e g n:Nat} {xs:List Value} (hB:B≤g) (h:w.heap[g]? =some (.cells xs.toArray e (0,0))) (hn:xs.length=n) (hm:n≤maxLen):w.ownsRow B e 1 (.slice (some ⟨g,0,none⟩) n n) n xs:=
 ⟨by simpa using hn,.inr ⟨g,n,xs.toArray,rfl,hB,h,Nat.le_refl _,hm,by simpa using hn,by simp [←hn]⟩⟩
theorem low_order (p:Value) (n:Nat) (R:Nat→List Cx) (ord:List Int) (sg:Int) (w:World) (h:LowAt w p n R ord sg) (hlen:ord.length=n) (hn:n≤64):
 Calls Tryz.prog 138 #[p] w (RetRow 3 1 n (fun xs=> xs=ord.map (Value.int .i64)) w):=by
 have H:=hid h;obtain ⟨g,vR,vO,V,rfl,h1,h2,h3,h4⟩:=h;have H1:=hid h1;obtain ⟨c0,c1,c2,c3⟩:=zDc h1;obtain ⟨a,cap,rfl⟩:=h2.form;have H2:=hid h2;clear h1 h2 h3 h4;obtain ⟨i0,hi,cG,bD,cB⟩:=info_parts infoI;go_enter Tryz.func138,Tryz.ntmps138;go_upto_region 4 with (first | (go_at_call 156;refine (low_is _ _ _ _ _ _ H.out).mono ?_;rintro e w' ⟨rfl,rfl⟩) | (refine wpList_make_full _ rfl _ _ _ rfl w.heap.size 3 i0 (.int .i64 0) 1 Tryz.underlying151 hi cG bD .i64 .i64 _ _ n rfl rfl rfl rfl (by rw [cB];omega) (by simp [maxLen];omega) (Nat.le_refl _) ?_;intro w1 aS fX;have HO:=hid aS;have HG:=hid fX;clear aS fX));have fT:w1.ownsRow w.heap.size 3 1 (.slice (some ⟨w.heap.size,0,none⟩) n n) n (List.replicate n (Value.int .i64 0)):=by
  have h:=HO.out;rw [Nat.mul_one,show (Value.int .i64 0).cells=#[.int .i64 0] from rfl,toList_madeCells_one] at h;exact h
 have aL:=hid (show Below w.heap.size w w1 from (Below.refl _ _).grown HG.out (Nat.le_refl _) (by intro k e;cases e));obtain ⟨_,gM,hzl,hmx⟩:=own_block fT rfl;have HBLK:=hid gM;have k2:=(zDc (zBn aL.out H1.out)).2.2.1;have lD:=hid (H2.out.below aL.out (Nat.le_refl _));obtain ⟨gs,eH⟩:∃gs,w.heap.size=gs:=⟨_,rfl⟩;clear fT gM HO HG c0 c1 c2 c3;go_wp2_with (refine wpList_copy_splice rfl (.tmp 13) (.tmp 17) _ _ rfl _ Tryz.underlying151 (by rw [hi];simp [bD]) (some ⟨w.heap.size,0,none⟩) a n n n cap rfl rfl w.heap.size 0 (List.replicate n (Value.int .i64 0)) _ HBLK.out (ord.map (Value.int .i64)) (by simp [hlen]) (fun hp=> ⟨rfl,?_⟩) (by simp [hlen]) (by intro v hv;obtain ⟨x,_,rfl⟩:=List.mem_map.1 hv;rfl) w.heap.size w aL.out (Nat.le_refl _) ?_)
 · rcases lD.out.2 with ⟨h0,h00⟩ | ⟨g2,off,c2,hv,hc,iR,aA⟩
   · simp [hlen,h00] at hp
   · cases hv;refine ⟨_,rfl,fun j v hv=> ?_⟩;have hj:=(List.getElem?_eq_some_iff.1 hv).1;rw [List.length_map,hlen] at hj;rw [show (⟨g2,off,none⟩:Addr).add j=⟨g2,off+j,none⟩ by unfold Addr.add;split <;> simp_all,aA j (by omega),hv]
 · intro w2 iR aV;have aG:=hid aV;have eM:=hid iR;clear aV iR;go_wp2_with fail;go_ret;have hsp:Go.splice (List.replicate n (Value.int .i64 0)) 0 (ord.map (Value.int .i64))=ord.map (Value.int .i64):=by
    unfold Go.splice;rw [List.take_zero,List.nil_append,Nat.zero_add,List.drop_eq_nil_of_le (by simp [hlen]),List.append_nil]
   have hb:=eM.out;rw [hsp] at hb;exact ⟨_,_,rfl,block_own (Nat.le_of_eq eH) hb (by simp [hlen]) hmx,rfl,by rw [eH];exact aG.out⟩
end
section
open Go.RowKit
def wrongS (n:Int) (b:List Cx):Int:=if ((b.length:Int) !=n)=true then 4 else if b.all cfin then 0 else 5
theorem swrong_any (n:Int) (vl vu vo v:Value) (bs:List Cx) (w:World) (hv:IsSl w 1 v bs.length (bs.map mkC)) (hl:bs.length≤100000):
 Calls Tryz.prog 103 #[.agg #[.int .i64 n,vl,vu,vo],v] w fun e w'=> e=.returned (.int .i64 (wrongS n (bs.map ck)))∧Below w.heap.size w w':=by
 obtain ⟨a,cap,rfl⟩:=hv.form;obtain ⟨i0,hi,cG,bD,cB⟩:=info_parts zFh;have cN:=(Below.refl w.heap.size w).alloc (Nat.le_refl _) (.cells #[.int .i64 n,vl,vu,vo] 167);have hA:=heap_alloc_new w (.cells #[.int .i64 n,vl,vu,vo] 167);have HV:=hid (hv.below cN (Nat.le_refl _));have bC:=hid cN;have c0:=(zDc hA).1;clear hv cN hA;cases aK:((bs.length:Int) !=n)
 · have HN:=hid aK;have hs:wrongS n (bs.map ck)=if (bs.map ck).all cfin then 0 else 5:=if_neg (by rw [List.length_map,HN.out];simp);have HS:=hid hs;clear hs;go_enter Tryz.func103,Tryz.ntmps103;go_upto_region 3 with fail;generalize w.alloc (.cells #[.int .i64 n,vl,vu,vo] 167)=w1 at *;go_wp2
   go_loopw [14] (fun i wr=> ∃k:Nat,k≤bs.length∧i=.int .i64 k∧((bs.take k).map ck).all cfin=true∧Below w1.heap.size w1 wr) (fun i _=> bs.length - (intOf i).toNat)
   case atStart=> exact ⟨0,Nat.zero_le _,rfl,rfl,Below.refl _ _⟩
   case round=>
    obtain ⟨k,hk,rfl,bN,hb⟩:=hrel;obtain ⟨wo,rfl⟩:∃wo:World,wo=wr:=⟨_,rfl⟩;have HB:=hid hb;have HAL:=hid bN;clear hb bN
    by_cases aM:k < bs.length
    · obtain ⟨g,o,x0,aZ,hg,hc,pW⟩:=IsSl.at1 Tryz.underlying41 hi bD (HV.out.below HB.out (Nat.le_refl _)) aM;obtain ⟨x,hx,rfl⟩:=map_getElem? pW;have HX:=hid hx;unfold mkC at hc;clear hx pW;cases hf:cfin (fc x.1,fc x.2)
      · have HF:=hid hf;clear hf;go_wp2_with (go_at_call 41;refine (pfin_b _ _ _).mono ?_;rintro e w2 ⟨rfl,aV⟩;rw [HF.out])
        (try simp only [Exit.inBlock,Exit.then])
        (try rw [Exit.noGoto_ret])
        go_ret;refine ⟨?_,bC.out.trans ((zBh HB.out (by assumption)).mono bC.out.size)⟩;rw [HS.out,if_neg]
        · rfl
        · intro h;rw [List.all_eq_true] at h;have h2:=h (ck x) (List.mem_map.2 ⟨x,List.mem_of_getElem? HX.out,rfl⟩);rw [show cfin (ck x)=false from HF.out] at h2;cases h2
      · have HF:=hid hf;clear hf;go_wp2_with (go_at_call 41;refine (pfin_b _ _ _).mono ?_;rintro e w2 ⟨rfl,aV⟩;rw [HF.out]);go_roundw
        case rel=>
         refine ⟨k+1,by omega,by go_num,?_,zBh HB.out (by assumption)⟩;rw [zDx ck bs k x HX.out,List.all_append,HAL.out];simp only [List.all_cons,List.all_nil,Bool.and_true,Bool.true_and];exact HF.out
        case measure=> simp [intOf];omega
    · obtain rfl:k=bs.length:=by omega
      go_wp2_with fail;go_ret
      refine ⟨?_,bC.out.trans (HB.out.mono bC.out.size)⟩;have:=HAL.out;rw [List.take_length] at this;rw [HS.out,if_pos this];rfl
 · have HN:=hid aK;have hs:wrongS n (bs.map ck)=4:=if_pos (by rw [List.length_map];exact HN.out);have HS:=hid hs;clear hs;go_enter Tryz.func103,Tryz.ntmps103;go_wp2;go_ret;exact ⟨by rw [HS.out];rfl,bC.out⟩
end
section
open Go.RowKit
theorem zFa {fn:Func} {p:Tmp} {ty:TypeId} (h:fn.results=#[.cell p ty]) (tmps:Array Value) (P:Program) (w:World):
 (results fn tmps).run P w=((asAddr (tmps.getD p undef)).run P w).andThen fun a w₁=> (loadVar ty a).run P w₁:=by
 simp only [results,h]
 simp [Sem.run_bind,Result.andThen]
def matL (F:Nat→Nat→Cx) (n i j:Nat):List Cx:=(List.range i).flatMap (fun a=> (List.range n).map (F a))++(List.range j).map (F i)
theorem matL_succ (F:Nat→Nat→Cx) (n i j:Nat):matL F n i (j+1)=matL F n i j++ [F i j]:=by
 unfold matL;rw [range_succ_map,List.append_assoc]
theorem matL_row (F:Nat→Nat→Cx) (n i:Nat):matL F n (i+1) 0=matL F n i n:=by
 unfold matL;rw [List.range_succ,List.flatMap_append];simp
theorem mat_atP {w1:World} {g t:Nat} {x y z:Value} (h:w1.heap[g]? =some (.cells #[x,y,z] t (0,0))):
 w1.cell? ⟨g,0,none⟩=some x∧w1.cell? ⟨g,1,none⟩=some y∧w1.cell? ⟨g,2,none⟩=some z∧w1.frozen? ⟨g,0,none⟩=false∧w1.frozen? ⟨g,1,none⟩=false∧w1.frozen? ⟨g,2,none⟩=false:=by
 refine ⟨cell_of_row _ _ _ _ _ _ h,cell_of_row _ _ _ _ _ _ h,cell_of_row _ _ _ _ _ _ h,?_,?_,?_⟩ <;> simp [World.frozen?,h]
theorem cell_pastP {w:World} {g j:Nat} {x:Value} {o:Obj} (hg:g < w.heap.size) (h:w.cell? ⟨g,j,none⟩=some x):(w.alloc o).cell? ⟨g,j,none⟩=some x:=by
 rw [World.cell?_of_block (w:=w) (heap_alloc_old w o hg)];exact h
theorem grown_setP (w:World) (g o:Nat) (v:Value):w.grownBy (w.setCell ⟨g,o,none⟩ v) (some g):=
 ⟨rfl,rfl,rfl,by simp,fun k _ hk=> Below.heap_setCell w ⟨g,o,none⟩ v k (fun e=> hk (by rw [e]))⟩
def MatIn (w wr:World) (g n:Nat) (xs:List Cx):Prop:=
 ∃ (a:Option Addr) (c:Nat),wr.heap[g]? =some (.cells #[.int .i64 n,.int .i64 n,.slice a xs.length c] 43 (0,0))∧
  wr.ownsRow w.heap.size 48 1 (.slice a xs.length c) xs.length (xs.map mkC)∧(Value.slice a xs.length c).ownBlock≠some g∧Below w.heap.size w wr
theorem part_any (p:Value) (n:Nat) (R:Nat→List Cx) (ord:List Int) (sg:Int) (f:FuncId) (cap:Value) (F:Nat→Nat→Cx) (w:World) (h:LowAt w p n R ord sg) (hn:n≤64)
 (dK:∀ (args:Array Value) (w':World),(callFunc f args).run Tryz.prog w'=.ok (.enter f args) w')
 (hf:∀ (i j:Nat) (w':World),i < n→j < n→Below w.heap.size w w'→Calls Tryz.prog f #[.int .i64 i,.int .i64 j,cap] w' fun e w''=> e=.returned (mkC (F i j))∧w'=w''):
 Calls Tryz.prog 157 #[p,.func (.func f) #[] #[cap]] w fun e w'=> ∃v,e=.returned (.agg #[.int .i64 n,.int .i64 n,v])∧w'.ownsRow w.heap.size 48 1 v (n * n) ((matL F n n 0).map mkC)∧Below w.heap.size w w':=by
 have H:=hid h;have HF:=hid hf;clear h hf;obtain ⟨i0,hi,cG,bD,cB⟩:=info_parts zFh;have fU:n * n≤4096:=Nat.mul_le_mul hn hn;have hww:wrap64 ((n:Int) * (n:Int))=((n * n:Nat):Int):=by
  rw [show (n:Int) * (n:Int)=((n * n:Nat):Int) by simp];unfold wrap64;omega
 have bC:=hid ((Below.refl w.heap.size w).alloc (Nat.le_refl _) (.cells #[.int .i64 0,.int .i64 0,.slice none 0 0] 43));have HL:=hid (H.out.below bC.out);go_enter Tryz.func157,Tryz.ntmps157;have hZ:=heap_alloc_new w (.cells #[.int .i64 0,.int .i64 0,.slice none 0 0] 43);have HZ:=hid hZ;have uL:w.heap.size < (w.alloc (.cells #[.int .i64 0,.int .i64 0,.slice none 0 0] 43)).heap.size:=by simp
 have gY:=hid uL;clear hZ uL;go_upto_region 2 with (go_at_call 135;refine (low_size _ _ _ _ _ _ HL.out).mono ?_;rintro e w' ⟨rfl,rfl⟩);generalize w.alloc (.cells #[.int .i64 0,.int .i64 0,.slice none 0 0] 43)=w1 at *;have hsz1:=bC.out.size;go_upto_region 3 with (refine wpList_make_own _ rfl _ _ _ rfl w1.heap.size 48 i0 (.complex .f64 0 0) 1 Tryz.underlying41 hi cG bD .i64 .i64 _ (n * n) rfl rfl (by first | exact hww | simp) (by rw [cB];omega) (by simp [maxLen];omega) (Nat.le_refl _) ?_;intro w2 cV nJ;have mN:=hid cV;have aG:=hid (show Below w1.heap.size w1 w2 from (Below.refl _ _).grown nJ (Nat.le_refl _) (by intro k e;cases e));clear cV nJ);obtain ⟨g,hg⟩:∃g,w2.heap.size=g:=⟨_,rfl⟩;have HM:=hid (show MatIn w1 (w2.alloc (.cells #[.int .i64 n,.int .i64 n,.slice (some ⟨w1.heap.size,0,none⟩) 0 (n * n)] 43)) g n [] from
  ⟨some ⟨w1.heap.size,0,none⟩,n * n,by rw [←hg];exact heap_alloc_new _ _,mN.out.alloc _,fun e=> by have:=(mN.out.lt _ e).2;omega,aG.out.alloc aG.out.size _⟩)
 generalize w2.alloc (.cells #[.int .i64 n,.int .i64 n,.slice (some ⟨w1.heap.size,0,none⟩) 0 (n * n)] 43)=w3 at *;rw [hg];go_wp2_with fail
 go_loopw [19] (fun i wr=> ∃k:Nat,k≤n∧i=.int .i64 k∧MatIn w1 wr g n (matL F n k 0)) (fun i _=> n - (intOf i).toNat)
 case atStart=> exact ⟨0,Nat.zero_le _,rfl,HM.out⟩
 case round=>
  obtain ⟨k,hk,rfl,hm⟩:=hrel;have xR:=hid hm;clear hm
  by_cases aM:k < n
  · go_wp2_with fail
    go_loopw [23] (fun j wr'=> ∃m:Nat,m≤n∧j=.int .i64 m∧MatIn w1 wr' g n (matL F n k m)) (fun j _=> n - (intOf j).toNat)
    case atStart=> exact ⟨0,Nat.zero_le _,rfl,xR.out⟩
    case round=>
     obtain ⟨m,hmn,rfl,hm⟩:=hrel
     by_cases hlt2:m < n
     · obtain ⟨a,c,gM,aC,aK,hb⟩:=hm;obtain ⟨d0,d1,d2,e0,e1,e2⟩:=mat_atP gM;have hglt:=(Array.getElem?_eq_some_iff.1 gM).1;go_upto_region 9 with fail;obtain ⟨wo,rfl⟩:∃wo:World,wo=wr:=⟨_,rfl⟩;have ca:∀o,(wo.alloc o).cell? ⟨g,2,none⟩=some (.slice a (matL F n k m).length c):=fun o=> cell_pastP hglt d2
       have kJ:=hid aC;have aT:=hid hb;have HBK3:=hid gM;have fR:=hid aK;clear aC hb gM aK d0 d1 e0 e1;have hlen:(matL F n k m).length=k * n+m:=by
        unfold matL;have:∀i,((List.range i).flatMap fun a=> (List.range n).map (F a)).length=i * n:=by
         intro i
         induction i with
         | zero=> simp
         | succ i ih=> rw [List.range_succ,List.flatMap_append,List.length_append,ih,Nat.add_mul];simp
        simp [this]
       have zD:(matL F n k m).length≤8192:=by
        rw [hlen];have:=Nat.mul_le_mul (Nat.le_of_lt aM) (Nat.le_refl n)
        omega
       clear hlen
       go_region_law
        (first | (go_simp;refine (HF.out k m _ aM hlt2 (bC.out.trans (aT.out.drew.mono hsz1))).mono ?_;rintro e w' ⟨rfl,rfl⟩) | (refine zCk rfl _ _ _ rfl w1.heap.size 48 1 16 i0 (.complex .f64 0 0) Tryz.underlying41 hi cG bD cB rfl _ (matL F n k m).length _ (by exact World.ownsRow.alloc kJ.out _) _ 1 1 [mkC (F k m)] rfl rfl rfl (by exact news_new) (by intro u hu;rw [List.mem_singleton.1 hu];rfl) (by decide) (by simp [maxLen];omega) (by omega) (by have:=aT.out.size;simp;omega) ?_;intro r1 cap1 w4 lV hlt4 mA;have mP:=hid (show wo.grownBy w4 (Value.slice a (matL F n k m).length c).ownBlock from (by first | exact zBg (zBr (zBj (v:=Value.slice a (matL F n k m).length c) mA)) | exact zBr (zBg (zBj (v:=Value.slice a (matL F n k m).length c) mA)) | exact zBg (zBj (v:=Value.slice a (matL F n k m).length c) mA)));have HK4:=(mP.out.block g (Array.getElem?_eq_some_iff.1 HBK3.out).1 (fun x=> fR.out x.symm)).trans HBK3.out;have z4:=(mat_atP HK4).2.2.1;have y4:=(mat_atP HK4).2.2.2.2.2;have vK:=hid HK4;have HRG:=hid (show¬r1=g from by (rintro rfl;rcases mA with ⟨h1,_⟩ | ⟨h1,_⟩;exact fR.out h1;have:=hglt;simp at h1;omega));have nS:=hid lV;clear HK4 mA lV))
       all_goals
        (try simp only [Exit.inBlock,Exit.then])
        go_wp2_with fail;go_roundw
        case rel=>
         refine ⟨m+1,by omega,by go_num,?_⟩;rw [matL_succ];refine ⟨some ⟨r1,0,none⟩,cap1,?_,?_,fun e=> HRG.out (by simpa [Value.ownBlock] using e),?_⟩
         · rw [List.length_append];exact Go.heap_setCell_same _ g 2 _ _ _ vK.out
         · have h1:=nS.out;rw [List.length_append,List.map_append];exact h1.kept (grown_setP _ _ _ _) (.inr fun e=> HRG.out (by simpa [Value.ownBlock] using e))
         · exact (aT.out.grown mP.out aT.out.size (fun _ e=> (kJ.out.lt _ e).1)).setCell (by show _≤g;rw [←hg];exact aG.out.size) _
        case measure=> simp [intOf];omega
     · obtain rfl:m=n:=by omega
       go_wp2_with fail;go_roundw
       case rel=> exact ⟨k+1,by omega,by go_num,by rw [matL_row];exact hm⟩
       case measure=> simp [intOf];omega
  · obtain rfl:k=n:=by omega
    obtain ⟨a,c,gM,aC,aK,hb⟩:=xR.out;obtain ⟨d0,d1,d2,e0,e1,e2⟩:=mat_atP gM;have hz:=zBn hb HZ.out;obtain ⟨z0,z1,z2,y0,y1,y2⟩:=mat_atP hz;have hlen:(matL F k k 0).length=k * k:=by
     unfold matL;have:∀i,((List.range i).flatMap fun a=> (List.range k).map (F a)).length=i * k:=by
      intro i
      induction i with
      | zero=> simp
      | succ i ih=> rw [List.range_succ,List.flatMap_append,List.length_append,ih,Nat.add_mul];simp
     simp [this]
    have kJ:=hid aC;have aT:=hid hb;clear aC hb gM;go_wp2_with fail
    (try simp only [Exit.inBlock,Exit.then])
    (try rw [Exit.noGoto_ret])
    refine bodyPost_ret (v:=.agg #[.int .i64 k,.int .i64 k,.slice a (matL F k k 0).length c]) ?_ rfl ⟨_,rfl,?_,?_⟩
    · rw [zFa rfl];go_simp
    · have h1:=kJ.out;rw [hlen] at h1;rw [hlen];exact World.ownsRow.mono (ownsRow_setCell_below (ownsRow_setCell_below (ownsRow_setCell_below h1 gY.out _) gY.out _) gY.out _) (Nat.le_of_lt gY.out)
    · exact (((bC.out.trans (aT.out.mono hsz1)).setCell (Nat.le_refl _) _).setCell (Nat.le_refl _) _).setCell (Nat.le_refl _) _
end
end Go.Proofs.YtdepiggjneoopaaGreatDoor
