/- a part of the proof of the last text -/
import Derived.Test.YtaegmlhfecfgkaaGreatDoorZMRMtx0
namespace Go.Proofs.YtaegmlhfecfgkaaGreatDoor
set_option linter.all false
set_option maxHeartbeats 4000000
set_option maxRecDepth 100000
open Go.RowKit
theorem snone_any (p:Value) (l:List El) (w:World) (hp:NN w p l) (hl:l.length≤100000) (hok:∀y∈l,y.Ok):
 Calls Tryz.prog 44 #[p] w fun e w'=> e=.returned (.bool (noNet p))∧Below w.heap.size w w':=by
 obtain ⟨pa,rfl⟩:∃pa:Option Addr,p=.pointer pa:=by
  obtain ⟨pa,h,_⟩:=nn_form hp;exact ⟨pa,h⟩
 cases pa with
 | none=>
  go_enter Tryz.func44,Tryz.ntmps44;go_wp2;go_ret;exact ⟨rfl,Below.refl _ _⟩
 | some pa=>
  have HP:=hid hp;have HOK:=hid hok;have HNE:=hid (ofL_ne (l++ [zeroE]));clear hp hok;go_enter Tryz.func44,Tryz.ntmps44;go_upto_region 4 with (go_at_call 68;refine (nwith_any pa l zeroE _ HP.out hl HOK.out zeroE_ok).mono ?_;rintro e w1 ⟨⟨p',rfl⟩,hb⟩;have HB:=hid hb;clear hb);obtain ⟨f,hf⟩:∃f,(ofL (l++ [zeroE])).2=f:=⟨_,rfl⟩;rw [show (ofL (l++ [zeroE])).2=f from hf] at HNE⊢;clear hf;obtain ⟨fa,fb⟩:=f;have hne:(fa==1)=false:=by have:=HNE.out;simpa using this
  have HB2:=hid (below_next HB.out ((Below.refl w1.heap.size w1).alloc (Nat.le_refl _) (.cells #[.int .i64 fa,.int .i64 fb] 38)));have HFB:=hid (heap_alloc_new w1 (.cells #[.int .i64 fa,.int .i64 fb] 38));clear HB HNE;dsimp only;generalize w1.alloc (.cells #[.int .i64 fa,.int .i64 fb] 38)=w2 at *;have b0:=(cells_ofS HFB.out).1 0 _ rfl;go_wp2;go_ret;exact ⟨rfl,HB2.out⟩
def RetRg (S:List Cx × (Int × Int)) (w:World) (e:Ending) (w':World):Prop:=
 ∃ (v:Value) (xs:List Cx),e=.returned (.tuple #[v,.agg #[.int .i64 S.2.1,.int .i64 S.2.2]])∧xs.map ck=S.1∧w'.ownsRow w.heap.size 43 1 v xs.length (xs.map mkC)∧Below w.heap.size w w'
theorem RetRg.bad {w w':World} {S:List Cx × (Int × Int)} {a b:Int} (h:S=([],(a,b))) (hb:Below w.heap.size w w'):RetRg S w (.returned (.tuple #[.slice none 0 0,.agg #[.int .i64 a,.int .i64 b]])) w':=
 ⟨.slice none 0 0, [],by rw [h],by rw [h];rfl,World.ownsRow_nil _ _ _ _,hb⟩
theorem wp_gen3 {P:Program} {c:Code} {Q:Exit→Act→World→Prop} {a:Act} {w:World}
 (h:∀Q':Exit→Act→World→Prop,(∀a w,Q .normal a w→Q' .normal a w)→(∀a w,Q .ret a w→Q' .ret a w)→(∀i a w,Q (.exit i) a w→Q' (.exit i) a w)→c.wp P Q' a w):c.wp P Q a w:=
 h Q (fun _ _ h=> h) (fun _ _ h=> h) (fun _ _ _ h=> h)
theorem vec_new {w:World} {b n:Nat} (h:w.heap[b]? =some (.cells (zrow n) 43 (0,0))):VecR w b n (fun _=> (fc 0,fc 0)):=
 ⟨List.replicate n (0,0),by simp,h,fun k hk=> by rw [List.getD_eq_getElem?_getD,List.getElem?_replicate,if_pos hk];rfl⟩
theorem vec_own {w:World} {b n B:Nat} {r:Nat→Cx} (h:VecR w b n r) (hB:B≤b) (hn:n≤4096):
 ∃xs:List Cx,xs.length=n∧xs.map ck=(List.range n).map r∧w.ownsRow B 43 1 (.slice (some ⟨b,0,none⟩) n n) xs.length (xs.map mkC):=by
 obtain ⟨M,hM⟩:=h;refine ⟨M,hM.len,?_,?_⟩
 · apply List.ext_getElem
   · simp [hM.len]
   · intro i h1 h2;have hi:i < n:=by simpa using h2
     have:=hM.num i hi;rw [List.getD_eq_getElem?_getD,List.getElem?_eq_getElem (by rw [hM.len];exact hi)] at this
     simpa using this
 · refine ⟨by simp,.inr ⟨b,n,(M.map mkC).toArray,by rw [hM.len],hB,hM.row,by rw [hM.len];exact Nat.le_refl _,by unfold maxLen;omega,by simp [hM.len],?_⟩⟩;rw [List.take_of_length_le (by simp)]
theorem sright_any (p:Value) (l:List El) (w:World) (hp:NN w p l) (hl:l.length≤100000) (hok:∀x∈l,x.Ok) (hck:∀x∈l,checkE x=0) (hsz:szL l≤64):
 Calls Tryz.prog 23 #[p] w (RetRg (rgtE (noNet p) l) w):=by
 have hbw:=(Below.refl w.heap.size w).alloc (Nat.le_refl _) (.cells #[.int .i64 0,.int .i64 0] 38);have HP:=hid (hp.below hbw (Nat.le_refl _));have HBW:=hid hbw;have HZ:=hid (heap_alloc_new w (.cells #[.int .i64 0,.int .i64 0] 38));have HS1:=hid (show (w.alloc (.cells #[.int .i64 0,.int .i64 0] 38)).heap.size=w.heap.size+1 by simp);have HLE:=hid hl;have HOK:=hid hok;have HCK:=hid hck;have HSZ:=hid hsz;have hsz2:((nds l).length:Int)+((brs l).length:Int)=((szL l:Nat):Int):=by unfold szL;omega
 have HSZ2:=hid hsz2;clear hp hbw hok hck hsz hsz2;cases hn:noNet p
 · have HN:=hid hn;clear hn;go_enter Tryz.func23,Tryz.ntmps23;go_upto_region 1 with fail;generalize w.alloc (.cells #[.int .i64 0,.int .i64 0] 38)=w0 at *;go_upto_region 3 with (go_at_call 44;refine (snone_any p l _ HP.out HLE.out HOK.out).mono ?_;rintro e w1 ⟨rfl,hb⟩;rw [HN.out];have HP1:=hid (HP.out.below hb (Nat.le_refl _));have HB1:=hid (below_next HBW.out hb);have HZ1:=hid (heap_next hb HZ.out);have HG1:=hid (show w.heap.size+1≤w1.heap.size by have:=hb.size;have:=HS1.out;omega);clear hb HP HBW HZ HS1);obtain ⟨n,hnn⟩:∃n,szL l=n:=⟨_,rfl⟩;have HNN:=hid hnn;have hn64:n≤64:=by rw [←hnn];exact HSZ.out
   have HN64:=hid hn64;have hmk:=fun w'=> mk_many n w' (by omega)
   rw [hnn] at HSZ2;clear hnn hn64;go_upto_region 4 with (go_at_call 27;refine (norder_any p l _ HP1.out HLE.out).mono ?_;rintro e w2 ⟨rfl,hb⟩;rw [HSZ2.out];have HP2:=hid (HP1.out.below hb (Nat.le_refl _));have HB2:=hid (below_next HB1.out hb);have HZ2:=hid (heap_next hb HZ1.out);have HG2:=hid (Nat.le_trans HG1.out hb.size);clear hb HP1 HB1 HZ1 HG1);have hb3:=(Below.refl w2.heap.size w2).alloc (Nat.le_refl _) (.cells (zrow n) 43);have HV0:=hid (show VecR (w2.alloc (.cells (zrow n) 43)) w2.heap.size n (fun _=> (fc 0,fc 0)) from vec_new (heap_alloc_new w2 (.cells (zrow n) 43)));have HP3:=hid (HP2.out.below hb3 (Nat.le_refl _));have HB3:=hid (below_next HB2.out hb3);have HZ3:=hid (heap_next hb3 HZ2.out);have HNB:=hid (show NN w2 p l from HP2.out);have HWB:=hid hb3;clear hb3 HP2 HB2 HZ2 hmk;generalize w2.alloc (.cells (zrow n) 43)=w3 at *;generalize hb0:w2.heap.size=b at *;have HBE:=hid hb0;clear hb0;go_wp2_with (go_at_call 42;refine (nelements_any p l _ HP3.out HLE.out).mono ?_;rintro e w4 ⟨v0,xs,rfl,hown,rfl,hb⟩;obtain ⟨a0,c0,rfl⟩:=(IsSl.of_own hown).form;have HE:=hid hown;have HV4:=hid (HV0.out.below hb);have HB4:=hid (below_next HB3.out hb);have HZ4:=hid (heap_next hb HZ3.out);have HWB4:=hid (HWB.out.trans (hb.mono (by have:=HBE.out;have:=HWB.out.size;omega)));have HBL:=hid (show b < w3.heap.size by obtain ⟨M,hM⟩:=HV0.out;exact (Array.getElem?_eq_some_iff.1 hM.row).1);have HDB:=hid (show (Value.slice a0 l.length c0).ownBlock≠some b from fun e=> by have h1:=(World.ownsRow.lt hown b e).1;have h2:=HBL.out;omega);have HW4:=hid (show b < w4.heap.size from Nat.lt_of_lt_of_le HBL.out hb.size);clear hown hb HV0 HP3 HB3 HZ3 HWB);obtain ⟨ie,hie,hi0,hi1,hi2⟩:=info_parts infoEa
   go_loopw [21] (fun i wr=> ∃k:Nat,k≤l.length∧i=.int .i64 k∧VecR wr b n (rgtK l k)∧w4.grownBy wr (some b)∧∀ (i:Nat) (x:El),i < k→l[i]? =some x→(rgtS l (rgtK l i) x).2=true) (fun i _=> l.length - (intOf i).toNat)
   case atStart=> exact ⟨0,Nat.zero_le _,rfl,HV4.out,World.grownBy.refl _ _,fun i x hi=> absurd hi (Nat.not_lt_zero _)⟩
   case round=>
    obtain ⟨k,hk,rfl,hv,hgr,hst⟩:=hrel;have HV:=hid hv;have HGR:=hid hgr;have HST:=hid hst;have HO:=hid (kept_ne HE.out hgr (fun r e e2=> by cases e2;exact HDB.out e));have HBR:=hid (HB4.out.grown hgr HB4.out.size (fun r e=> by cases e;have:=HG2.out;have:=HBE.out;omega));have HZR:=hid (heap_nextG hgr (show w.heap.size≠b by have:=HG2.out;have:=HBE.out;omega) HZ4.out);have HPR:=hid (HNB.out.below ((HWB4.out.grown hgr (by have:=HW4.out;omega) (fun r e=> by cases e;exact Nat.le_refl _)):Below b w2 wr) (by have:=HBE.out;omega));clear hv hgr hst
    by_cases hlt:k < l.length
    · obtain ⟨g1,o1,x,hidx,hg,hx,hcell⟩:=IsSl.atF Tryz.underlying45 hie hi1 ea_len (IsSl.of_own HO.out) rfl hlt;have HX:=hid hx;have hxm:=List.mem_of_getElem? hx;have HXOK:=hid (HOK.out x hxm);have HXC:=hid (HCK.out x hxm);have HK1:=hid (show k+1≤l.length from hlt);have e0:wr.cell? ⟨g1,o1,none⟩=some (.int .u8 x.kind):=hcell 0 _ rfl;have e1:wr.cell? ⟨g1,o1+1,none⟩=some (.string x.name):=hcell 1 _ rfl;have e2:wr.cell? ⟨g1,o1+2,none⟩=some (.string x.a):=hcell 2 _ rfl;have e3:wr.cell? ⟨g1,o1+3,none⟩=some (.string x.b):=hcell 3 _ rfl;have e4:wr.cell? ⟨g1,o1+4,none⟩=some (.string x.c):=hcell 4 _ rfl;have e5:wr.cell? ⟨g1,o1+5,none⟩=some (.string x.d):=hcell 5 _ rfl;have e6:wr.cell? ⟨g1,o1+6,none⟩=some (.float .f64 x.val):=hcell 6 _ rfl;have e7:wr.cell? ⟨g1,o1+7,none⟩=some (.int .i64 x.ph):=hcell 7 _ rfl;clear hcell hg hx hxm;refine wp_gen3 ?_;intro QQ HQN HQR HQE;go_upto_region 7 with fail;have hb5:=(Below.refl wr.heap.size wr).alloc (Nat.le_refl _) (.cells #[.int .u8 x.kind,.string x.name,.string x.a,.string x.b,.string x.c,.string x.d,.float .f64 x.val,.int .i64 x.ph] 47);have HEB:=hid (heap_alloc_new wr (.cells #[.int .u8 x.kind,.string x.name,.string x.a,.string x.b,.string x.c,.string x.d,.float .f64 x.val,.int .i64 x.ph] 47));have HV5:=hid (HV.out.below hb5);have HG5:=hid (grown_trans HGR.out (grown_of_below hb5 (some b)));have HB5:=hid (below_next HBR.out hb5);have HZ5:=hid (heap_next hb5 HZR.out);have HP5:=hid (HPR.out.below hb5 (Nat.le_refl _));have HEN:=hid (show wr.heap.size≠b by have h1:=HGR.out.size;have h2:=HW4.out;omega);clear hb5 HV HGR HBR HZR HPR HO e0 e1 e2 e3 e4 e5 e6 e7 hidx;generalize wr.alloc (.cells #[.int .u8 x.kind,.string x.name,.string x.a,.string x.b,.string x.c,.string x.d,.float .f64 x.val,.int .i64 x.ph] 47)=w5 at *
      generalize wr.heap.size=eb at *;have hx8:=cells_ofS HEB.out;have b0:=hx8.1 0 _ rfl;have b1:=hx8.1 1 _ rfl;have b2:=hx8.1 2 _ rfl;have b3:=hx8.1 3 _ rfl;have b4:=hx8.1 4 _ rfl;have b5:=hx8.1 5 _ rfl;have b6:=hx8.1 6 _ rfl;have b7:=hx8.1 7 _ rfl;clear hx8;go_upto_region 8 with (go_at_call 45;refine (sphasor_any x _ HXOK.out).mono ?_;rintro e w6 ⟨v,rfl,hb,y1,y2,er,rfl,hz⟩;have HER:=hid (congrArg Prod.snd hz);have HY:=hid (congrArg Prod.fst hz);have HEB6:=hid (heap_next hb HEB.out);have HV6:=hid (HV5.out.below hb);have HG6:=hid (grown_trans HG5.out (grown_of_below hb (some b)));have HB6:=hid (below_next HB5.out hb);have HZ6:=hid (heap_next hb HZ5.out);have HP6:=hid (HP5.out.below hb (Nat.le_refl _));clear hz hb HEB HV5 HG5 HB5 HZ5 HP5 b0 b1 b2 b3 b4 b5 b6 b7);have HBZ:=hid (show w.heap.size≠b by have:=HG2.out;have:=HBE.out;omega);have HBB:=hid (show w.heap.size≤b by have:=HG2.out;have:=HBE.out;omega)
      by_cases he:er=0
      · have HE0:=hid ((HER.out).symm.trans he);subst he
        by_cases hk5:x.kind=5
        · have HK5:=hid hk5;have h5:(x.kind==5)=true:=by rw [hk5];rfl
          have hbrx:has (brs l) x.name=true:=by
           unfold has brs;rw [List.any_eq_true];exact ⟨x.name,List.mem_map.2 ⟨x,List.mem_filter.2 ⟨List.mem_of_getElem? HX.out,by unfold isBr;rw [h5];rfl⟩,rfl⟩,by simp⟩
          have hp0:0≤plI (brs l) x.name∧plI (brs l) x.name < (brs l).length:=by
           unfold plI;rw [if_pos hbrx];have:(brs l).findIdx (fun u=> u.toList==x.name.toList) < (brs l).length:=by
            rw [List.findIdx_lt_length];have h1:=hbrx;unfold has at h1
            simpa using h1
           omega
          obtain ⟨j,hj⟩:∃j,brAt l x=j:=⟨_,rfl⟩;have HJN:=hid (show j < n by rw [←hj,←HNN.out];unfold brAt szL;omega);have hwr:IntKind.i64.wrap (((nds l).length:Int)+plI (brs l) x.name)=(j:Int):=by
           have h1:=HJN.out;have h2:=HN64.out;rw [←hj];unfold brAt;rw [IntWalk.i64_in _ ⟨by omega,by rw [←hj] at h1;unfold brAt at h1;omega⟩]
           omega
          have HS0:=hid (show rgtS l (rgtK l k) x=(upd (rgtK l k) j (srcS x).1,cfin (srcS x).1) by unfold rgtS;rw [if_neg (fun h=> h HE0.out),if_pos HK5.out,hj]);have HY2:=hid (show (srcS x).1=ck (y1,y2) from HY.out.symm);have hat:∀w',(Instr.indexAt 33 (.slice (some ⟨b,0,none⟩) n n) (.int .i64 j)).run Tryz.prog w'=.ok (.pointer (some ⟨b,j,none⟩)) w':=fun w'=> idx_at HJN.out w'
          have b0:=(cells_ofS HEB6.out).1 0 _ rfl;have b1:=(cells_ofS HEB6.out).1 1 _ rfl;clear hk5 hbrx hp0 hj;go_upto_region 12 with (go_at_call 46;refine (nbranch_any p l x.name _ HP6.out HXOK.out.name).mono ?_;rintro e wn ⟨rfl,rfl⟩);clear b0 b1;go_upto_region 13 with (go_at_call 37;refine (nnodes_any p l _ HP6.out HLE.out).mono ?_;rintro e w8 ⟨v,xs,rfl,hown,rfl,hb⟩;obtain ⟨a8,c8,rfl⟩:=(IsSl.of_own hown).form;have HV8:=hid (HV6.out.below hb);have HG8:=hid (grown_trans HG6.out (grown_of_below hb (some b)));have HB8:=hid (below_next HB6.out hb);have HZ8:=hid (heap_next hb HZ6.out);obtain ⟨M,hM⟩:=HV8.out;have HM8:=hid hM;have cz:=(cells_ofS hM.row).1 j _ (row_at (by rw [hM.len];exact HJN.out));have fz:=(cells_ofS hM.row).2 j;clear hown hb HV6 HG6 HB6 HZ6 HP6 HEB6 hM);have HM9:Hid (VecM (w8.setCell ⟨b,j,none⟩ (.complex .f64 y1 y2)) b n (upd (rgtK l k) j (ck (y1,y2))) (M.set j (y1,y2))):=hid (HM8.out.put HJN.out (y1,y2));have HG9:=hid (grown_trans HG8.out (set1_grown w8 b j (.complex .f64 y1 y2)));have HB9:=hid (HB8.out.setCell (p:=⟨b,j,none⟩) HBB.out (.complex .f64 y1 y2));have HZ9:=hid (heap_nextG (set1_grown w8 b j (.complex .f64 y1 y2)) HBZ.out HZ8.out);clear HM8 HG8 HB8 HZ8 HV8 cz fz hwr hat;generalize w8.setCell ⟨b,j,none⟩ (.complex .f64 y1 y2)=w9 at *;go_upto_region 16 with (go_at_call 47;refine (pfin_any y1 y2 _).mono ?_;rintro e w10 ⟨v,nn,rfl,he,rfl⟩;have hb:Below w9.heap.size w9 w10:=(by rw [he];exact below_n (Below.refl _ _) nn);have HV10:=hid (show VecR w10 b n (upd (rgtK l k) j (srcS x).1) from ⟨M.set j (y1,y2),by rw [HY2.out];exact HM9.out.below hb⟩);have HG10:=hid (grown_trans HG9.out (grown_of_below hb (some b)));have HB10:=hid (below_next HB9.out hb);have HZ10:=hid (heap_next hb HZ9.out);clear he hb HM9 HG9 HB9 HZ9);cases hfn:cfin (fc y1,fc y2)
          · have HS:=hid (show rgtS l (rgtK l k) x=(upd (rgtK l k) j (srcS x).1,false) by rw [HS0.out,HY2.out];exact congrArg _ hfn);clear hfn;have z0:=(cells_ofS HZ10.out).1 0 _ rfl;have z1:=(cells_ofS HZ10.out).1 1 _ rfl;have f0:=(cells_ofS HZ10.out).2 0;have f1:=(cells_ofS HZ10.out).2 1;go_wp2_with fail
            (try simp only [Exit.inBlock,Exit.then])
            refine HQR _ _ ?_;refine bodyPost_ret (v:=.tuple #[.slice none 0 0,.agg #[.int .i64 6,.int .i64 k]]) ?_ rfl (RetRg.bad (rgt_stop HX.out HST.out (by rw [HS.out])) ?_)
            · rw [results_tmp_cell rfl];go_simp
            · repeat (first | with_reducible exact HB10.out | with_reducible refine Below.setCell ?_ (by dsimp only;omega) _)
          · have HS:=hid (show rgtS l (rgtK l k) x=(upd (rgtK l k) j (srcS x).1,true) by rw [HS0.out,HY2.out];exact congrArg _ hfn);clear hfn;have hll:=HLE.out;go_wp2_with fail
            (try simp only [Exit.inBlock,Exit.then])
            refine HQN _ _ ?_;go_wp2;go_roundw
            case rel=>
             refine ⟨k+1,HK1.out,by go_num,?_,HG10.out,?_⟩
             · rw [rgtK_succ HX.out,HS.out];exact HV10.out
             · intro i y hi hy
               by_cases e:i=k
               · subst e;obtain rfl:=Option.some.inj (hy.symm.trans HX.out);rw [HS.out]
               · exact HST.out i y (by omega) hy
            case measure=> simp [intOf];omega
        · have h5:(x.kind==5)=false:=by rw [beq_eq_false_iff_ne];exact hk5
          have HS0:=hid (show rgtS l (rgtK l k) x=((putS l (putS l (rgtK l k) x.a fun z=> csub z (srcS x).1).1 x.b fun z=> cadd z (srcS x).1).1,(putS l (putS l (rgtK l k) x.a fun z=> csub z (srcS x).1).1 x.b fun z=> cadd z (srcS x).1).2 && (putS l (rgtK l k) x.a fun z=> csub z (srcS x).1).2) by unfold rgtS;rw [if_neg (fun h=> h HE0.out),if_neg hk5]);have HY2:=hid (show (srcS x).1=(fc y1,fc y2) from HY.out.symm);rw [HY2.out] at HS0;have HNDN:=hid (show (nds l).length≤n by rw [←HNN.out];unfold szL;omega);clear hk5;have b0:=(cells_ofS HEB6.out).1 0 _ rfl;have b2:=(cells_ofS HEB6.out).1 2 _ rfl;go_upto_region 15 with (go_at_call 48;refine (putsub_any p l b n _ x.a y1 y2 _ HP6.out HV6.out HXOK.out.a HNDN.out (by have:=HN64.out;omega)).mono ?_;rintro e w8 ⟨rfl,hv,hgr⟩;have HV8:=hid hv;have HG8:=hid (grown_trans HG6.out hgr);have HB8:=hid (HB6.out.grown hgr HB6.out.size (fun r e=> by cases e;exact HBB.out));have HZ8:=hid (heap_nextG hgr HBZ.out HZ6.out);have HEB8:=hid (heap_nextG hgr HEN.out HEB6.out);have HP8:=hid (HNB.out.below ((HWB4.out.grown HG8.out (by have:=HW4.out;omega) (fun r e=> by cases e;exact Nat.le_refl _)):Below b w2 w8) (by have:=HBE.out;omega));clear hv hgr HV6 HG6 HB6 HZ6 HEB6 HP6 b0 b2);obtain ⟨S1,hS1⟩:∃S1,(putS l (rgtK l k) x.a fun z=> csub z (fc y1,fc y2))=S1:=⟨_,rfl⟩;rw [hS1] at HS0 HV8;rw [hS1];clear hS1;obtain ⟨r1,q1⟩:=S1;have b3:=(cells_ofS HEB8.out).1 3 _ rfl;dsimp only at HS0 HV8⊢;obtain ⟨S2,hS2⟩:∃S2,(putS l r1 x.b fun z=> cadd z (fc y1,fc y2))=S2:=⟨_,rfl⟩;rw [hS2] at HS0;have HS2:=hid hS2;clear hS2;obtain ⟨r2,q2⟩:=S2;dsimp only at HS0;go_upto_region 16 with (go_at_call 48;refine (putadd_any p l b n r1 x.b y1 y2 _ HP8.out HV8.out HXOK.out.b HNDN.out (by have:=HN64.out;omega)).mono ?_;rintro e w9 ⟨rfl,hv,hgr⟩;rw [HS2.out] at hv;rw [HS2.out];dsimp only at hv⊢;have HV9:=hid hv;have HG9:=hid (grown_trans HG8.out hgr);have HB9:=hid (HB8.out.grown hgr HB8.out.size (fun r e=> by cases e;exact HBB.out));have HZ9:=hid (heap_nextG hgr HBZ.out HZ8.out);clear hv hgr HV8 HG8 HB8 HZ8 HEB8 HP8 b3;cases q1 <;> cases q2)
          all_goals go_upto_region 16 with fail
          · have HS:=hid (show rgtS l (rgtK l k) x=(r2,false) from HS0.out);have z0:=(cells_ofS HZ9.out).1 0 _ rfl;have z1:=(cells_ofS HZ9.out).1 1 _ rfl;have f0:=(cells_ofS HZ9.out).2 0;have f1:=(cells_ofS HZ9.out).2 1;go_wp2_with fail
            (try simp only [Exit.inBlock,Exit.then])
            refine HQR _ _ ?_;refine bodyPost_ret (v:=.tuple #[.slice none 0 0,.agg #[.int .i64 6,.int .i64 k]]) ?_ rfl (RetRg.bad (rgt_stop HX.out HST.out (by rw [HS.out])) ?_)
            · rw [results_tmp_cell rfl];go_simp
            · repeat (first | with_reducible exact HB9.out | with_reducible refine Below.setCell ?_ (by dsimp only;omega) _)
          · have HS:=hid (show rgtS l (rgtK l k) x=(r2,false) from HS0.out);have z0:=(cells_ofS HZ9.out).1 0 _ rfl;have z1:=(cells_ofS HZ9.out).1 1 _ rfl;have f0:=(cells_ofS HZ9.out).2 0;have f1:=(cells_ofS HZ9.out).2 1;go_wp2_with fail
            (try simp only [Exit.inBlock,Exit.then])
            refine HQR _ _ ?_;refine bodyPost_ret (v:=.tuple #[.slice none 0 0,.agg #[.int .i64 6,.int .i64 k]]) ?_ rfl (RetRg.bad (rgt_stop HX.out HST.out (by rw [HS.out])) ?_)
            · rw [results_tmp_cell rfl];go_simp
            · repeat (first | with_reducible exact HB9.out | with_reducible refine Below.setCell ?_ (by dsimp only;omega) _)
          · have HS:=hid (show rgtS l (rgtK l k) x=(r2,false) from HS0.out);have z0:=(cells_ofS HZ9.out).1 0 _ rfl;have z1:=(cells_ofS HZ9.out).1 1 _ rfl;have f0:=(cells_ofS HZ9.out).2 0;have f1:=(cells_ofS HZ9.out).2 1;go_wp2_with fail
            (try simp only [Exit.inBlock,Exit.then])
            refine HQR _ _ ?_;refine bodyPost_ret (v:=.tuple #[.slice none 0 0,.agg #[.int .i64 6,.int .i64 k]]) ?_ rfl (RetRg.bad (rgt_stop HX.out HST.out (by rw [HS.out])) ?_)
            · rw [results_tmp_cell rfl];go_simp
            · repeat (first | with_reducible exact HB9.out | with_reducible refine Below.setCell ?_ (by dsimp only;omega) _)
          · have HS:=hid (show rgtS l (rgtK l k) x=(r2,true) from HS0.out);have hll:=HLE.out;go_wp2_with fail
            (try simp only [Exit.inBlock,Exit.then])
            refine HQN _ _ ?_;go_wp2;go_roundw
            case rel=>
             refine ⟨k+1,HK1.out,by go_num,?_,HG9.out,?_⟩
             · rw [rgtK_succ HX.out,HS.out];exact HV9.out
             · intro i y hi hy
               by_cases e:i=k
               · subst e;obtain rfl:=Option.some.inj (hy.symm.trans HX.out);rw [HS.out]
               · exact HST.out i y (by omega) hy
            case measure=> simp [intOf];omega
      · have HE0:=hid he;have hne:(er !=0)=true:=by rw [bne_iff_ne];exact he
        have HS:=hid (show rgtS l (rgtK l k) x=(rgtK l k,true) by unfold rgtS;rw [if_pos (by rw [←HER.out];exact HE0.out)]);clear he;have hll:=HLE.out;go_wp2_with fail
        (try simp only [Exit.inBlock,Exit.then])
        refine HQN _ _ ?_;go_wp2;go_roundw
        case rel=>
         refine ⟨k+1,HK1.out,by go_num,?_,HG6.out,?_⟩
         · rw [rgtK_succ HX.out,HS.out];exact HV6.out
         · intro i y hi hy
           by_cases e:i=k
           · subst e;obtain rfl:=Option.some.inj (hy.symm.trans HX.out);rw [HS.out]
           · exact HST.out i y (by omega) hy
        case measure=> simp [intOf];omega
    · obtain rfl:k=l.length:=by omega
      have z0:=(cells_ofS HZR.out).1 0 _ rfl;have z1:=(cells_ofS HZR.out).1 1 _ rfl;have f0:=(cells_ofS HZR.out).2 0;have f1:=(cells_ofS HZR.out).2 1;go_wp2
      (try simp only [Exit.inBlock,Exit.then])
      refine bodyPost_ret (v:=.tuple #[.slice (some ⟨b,0,none⟩) n n,.agg #[.int .i64 0,.int .i64 0]]) ?_ rfl ?_
      · rw [results_tmp_cell rfl];go_simp
      · rw [rgt_done (fun i x hx=> HST.out i x (List.getElem?_eq_some_iff.1 hx).1 hx),show (nds l).length+(brs l).length=n from HNN.out];obtain ⟨xs,h1,h2,h3⟩:=vec_own (B:=w.heap.size+1) HV.out (by have:=HG2.out;have:=HBE.out;omega) (by have:=HN64.out;omega);refine ⟨.slice (some ⟨b,0,none⟩) n n,xs,rfl,h2,?_,?_⟩
        · refine own_base (B':=w.heap.size+1) ?_ (by omega)
          repeat (first | with_reducible exact h3 | with_reducible refine ownsRow_setCell_below ?_ (by dsimp only;omega) _)
        · repeat (first | with_reducible exact HBR.out | with_reducible refine Below.setCell ?_ (by dsimp only;omega) _)
 · have HN:=hid hn;clear hn;go_enter Tryz.func23,Tryz.ntmps23;go_upto_region 1 with fail;generalize w.alloc (.cells #[.int .i64 0,.int .i64 0] 38)=w0 at *;go_upto_region 2 with (go_at_call 44;refine (snone_any p l _ HP.out HLE.out HOK.out).mono ?_;rintro e w1 ⟨rfl,hb⟩;rw [HN.out];have HB1:=hid (below_next HBW.out hb);have HZ1:=hid (heap_next hb HZ.out);clear hb HP HBW HZ HS1);have z0:=(cells_ofS HZ1.out).1 0 _ rfl;have z1:=(cells_ofS HZ1.out).1 1 _ rfl;have f0:=(cells_ofS HZ1.out).2 0;have f1:=(cells_ofS HZ1.out).2 1;go_wp2;refine bodyPost_ret (v:=.tuple #[.slice none 0 0,.agg #[.int .i64 1,.int .i64 (-1)]]) ?_ rfl (RetRg.bad rgt_none ?_)
   · rw [results_tmp_cell rfl];go_simp
   · repeat (first | with_reducible exact HB1.out | with_reducible refine Below.setCell ?_ (by dsimp only;omega) _)
end Go.Proofs.YtaegmlhfecfgkaaGreatDoor
