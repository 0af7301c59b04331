/- a part of the proof of the last text -/
import Derived.Test.YtdepiggjneoopaaGreatDoorZMNetAt
namespace Go.Proofs.YtdepiggjneoopaaGreatDoor
set_option linter.all false
set_option maxHeartbeats 4000000
set_option maxRecDepth 100000
open Go.RowKit Go.Maps
def brN (bs:List ByteArray) (e:El):List ByteArray:=if isBr e=true then bs++ [e.name] else bs
theorem brN_yes {bs:List ByteArray} {e:El} (h:isBr e=true):brN bs e=bs++ [e.name]:=by unfold brN;rw [if_pos h]
theorem brN_no {bs:List ByteArray} {e:El} (h:isBr e=false):brN bs e=bs:=by unfold brN;rw [if_neg (by rw [h];decide)]
theorem fr_ok {e:El} (h:e.Ok) {s:ByteArray} (hs:s∈fr e):s.size≤maxLen:=by
 simp only [fr,List.mem_cons,List.not_mem_nil,or_false] at hs;rcases hs with rfl | rfl | rfl | rfl
 · exact h.a
 · exact h.b
 · exact h.c
 · exact h.d
theorem zBz {w w1:World} {o:Obj} {v:Value} {g:Nat} (h:(v.ownBlock=some g∧(w.alloc o).grownBy w1 (some g))∨(g=(w.alloc o).heap.size∧(w.alloc o).grownBy w1 none)):zDw w w1 v g:=
 h.imp (fun x=> ⟨x.1,zBg x.2⟩) (fun x=> ⟨by have:=x.1;simp at this;omega,zBg x.2⟩)
theorem drew_or {w w1:World} {v:Value} {g:Nat} (h:(v.ownBlock=some g∧w.drew.grownBy w1 (some g))∨(g=w.drew.heap.size∧w.drew.grownBy w1 none)):(v.ownBlock=some g∧w.grownBy w1 (some g))∨(g=w.heap.size∧w.grownBy w1 none):=
 h.imp (fun x=> ⟨x.1,zBr x.2⟩) (fun x=> ⟨x.1,zBr x.2⟩)
theorem pushed_grown {w w1:World} {v:Value} {g:Nat} (h:zDw w w1 v g):w.grownBy w1 v.ownBlock:=by
 rcases h with ⟨h1,h2⟩ | ⟨_,h2⟩
 · rw [h1];exact h2
 · exact ⟨h2.os,h2.tape,h2.output,h2.size,fun k hk _=> h2.block k hk (by simp)⟩
theorem pushed_drew {w w1:World} {v:Value} {g:Nat} (h:zDw w.drew w1 v g):zDw w w1 v g:=
 h.imp (fun x=> ⟨x.1,zBr x.2⟩) (fun x=> ⟨x.1,zBr x.2⟩)
theorem put_any (e:El) (w:World) {B g bn bp bb:Nat} {vl vn vb:Value} {l:List El} {ns N bs:List ByteArray} (h:NetAt B w g vl vn vb bn bp bb l ns N N bs bs)
 (hB:B≤w.heap.size) (he:e.Ok) (hl:l.length≤100000) (hns:ns.length=l.length) (hN:N.length≤400000) (hbs:bs.length≤100000) (hn:has ns e.name=false) (hb:has bs e.name=false):
 Calls Tryz.prog 33 #[.pointer (some ⟨g,0,none⟩),.agg #[.int .u8 e.kind,.string e.name,.string e.a,.string e.b,.string e.c,.string e.d,.float .f64 e.val,.int .i64 e.ph]] w fun en w'=> en=.returned (.tuple #[])∧Below B w w'∧
  ∃vl' vn' vb',NetAt B w' g vl' vn' vb' bn bp bb (l++ [e]) (ns++ [e.name]) (nd4 N e) (nd4 N e) (brN bs e) (brN bs e):=by
 obtain ⟨i0,hi,cG,bD,cB⟩:=info_parts infoSt;obtain ⟨iu,dU,kD,lS,oY⟩:=info_parts zEo;have law:Keyed Tryz.prog 9 :=string_keyed Tryz.underlying9;have oF:=@run_makeMap Tryz.prog;obtain ⟨al,cl,rfl⟩:=(IsSl.of_own h.ol).form;obtain ⟨an,cn,rfl⟩:=(IsSl.of_own h.on).form;obtain ⟨ab,cb,rfl⟩:=(IsSl.of_own h.ob).form;go_enter Tryz.func33,Tryz.ntmps33;go_upto_region 1 with fail;have h1:=h.alloc (.cells #[.int .u8 e.kind,.string e.name,.string e.a,.string e.b,.string e.c,.string e.d,.float .f64 e.val,.int .i64 e.ph] 35);have hA:=heap_alloc_new w (.cells #[.int .u8 e.kind,.string e.name,.string e.a,.string e.b,.string e.c,.string e.d,.float .f64 e.val,.int .i64 e.ph] 35);have hB1:Below B w (w.alloc (.cells #[.int .u8 e.kind,.string e.name,.string e.a,.string e.b,.string e.c,.string e.d,.float .f64 e.val,.int .i64 e.ph] 35)):=(Below.refl _ w).alloc hB _;generalize w.alloc (.cells #[.int .u8 e.kind,.string e.name,.string e.a,.string e.b,.string e.c,.string e.d,.float .f64 e.val,.int .i64 e.ph] 35)=w1 at *;obtain ⟨hgc,_⟩:=zAc h1.blk;obtain ⟨kQ,_⟩:=zAc hA;have g1:=hgc 1 _ rfl;have g2:=hgc 2 _ rfl;have a1:=kQ 1 _ rfl;have HH:=hid h1;have HA:=hid hA;have aL:=hid hB1;have HE:=hid he;have cQ:=hid (show g≠w.heap.size from Nat.ne_of_lt (Array.getElem?_eq_some_iff.1 h.blk).1);have nT:=hid (show (Value.slice al l.length cl).ownBlock≠some w.heap.size from fun x=> Nat.lt_irrefl _ (h.ol.lt _ x).2);have lP:=hid (show (Value.slice an N.length cn).ownBlock≠some w.heap.size from fun x=> Nat.lt_irrefl _ (h.on.lt _ x).2);have HNC:=hid (show (Value.slice ab bs.length cb).ownBlock≠some w.heap.size from fun x=> Nat.lt_irrefl _ (h.ob.lt _ x).2);obtain ⟨D,aC,hD⟩:=h1.mn;have HD:=hid hD;have rZ:=hid aC;clear hgc kQ hA hB1 aC hD h h1
 go_still_tail 11,(by kernel_rfl)
 change wpList _ _ _ _ _ w1.drew;go_upto_region 2 with (at_mapUpdate;go_loud (refine wpList_mapUpdate_own _ rfl _ _ _ 69 rfl 9 3 law Tryz.underlying69 _ bn ns.length D rfl rZ.out.drew (by unfold maxLen;omega) _ _ _ rfl rfl (WideMaps.keyOf_string_mk Tryz.underlying9 HE.out.name) _ [] (plainElem_int Tryz.underlying3 (WalkArith.wf_i64 ⟨by omega,by omega⟩)) ?_;intro w2 cV nJ));have h2:NetAt B w2 g (.slice al l.length cl) (.slice an N.length cn) (.slice ab bs.length cb) bn bp bb l (ns++ [e.name]) N N bs bs:=HH.out.drew.names nJ ⟨_,by rw [List.length_append];exact cV,by have:=zFg HD.out hn;rwa [hns] at this⟩;have hA2:w2.heap[w.heap.size]? =some (.cells #[.int .u8 e.kind,.string e.name,.string e.a,.string e.b,.string e.c,.string e.d,.float .f64 e.val,.int .i64 e.ph] 35):=(nJ.block _ (Array.getElem?_eq_some_iff.1 HA.out).1 (by simpa using HH.out.mn.ne_blk HA.out)).trans HA.out;have hB2:Below B w w2:=(aL.out.drew).grown nJ (Nat.le_trans hB aL.out.size) (by intro k x;cases x;exact HH.out.bnB);clear cV nJ rZ HD HA aL HH g1 g2 a1;obtain ⟨hgc2,fg2⟩:=zAc h2.blk;obtain ⟨kZ,_⟩:=zAc hA2;have c1:=hgc2 1 _ rfl;have b0:=kZ 0 _ rfl;have b1:=kZ 1 _ rfl;have b2:=kZ 2 _ rfl;have b3:=kZ 3 _ rfl;have b4:=kZ 4 _ rfl;have b5:=kZ 5 _ rfl;have b6:=kZ 6 _ rfl;have b7:=kZ 7 _ rfl;have H2:=hid h2;have qH:=hid hA2;have aG:=hid hB2;have ca:∀o:Obj,(w2.alloc o).cell? ⟨g,1,none⟩=some (.slice al l.length cl):=fun o=> (World.cell?_alloc_some w2 ⟨g,1,none⟩ o (by rw [c1];rfl)).trans c1
 have n1:=World.new_ne w2 ⟨g,1,none⟩ c1;have n2:=World.new_ne w2 ⟨w.heap.size,0,none⟩ b0;have n3:¬g=w2.heap.size:=by have:=(Array.getElem?_eq_some_iff.1 h2.blk).1;omega
 have n4:¬w.heap.size=w2.heap.size:=by have:=(Array.getElem?_eq_some_iff.1 hA2).1;omega
 clear hgc2 kZ h2 hA2 hB2
 (try simp only [Act.put])
 go_cut [26] (fun s26 wx=> NetAt B wx g s26 (.slice an N.length cn) (.slice ab bs.length cb) bn bp bb (l++ [e]) (ns++ [e.name]) N N bs bs∧Below B w wx∧wx.heap[w.heap.size]? =some (.cells #[.int .u8 e.kind,.string e.name,.string e.a,.string e.b,.string e.c,.string e.d,.float .f64 e.val,.int .i64 e.ph] 35))
 case first=>
  go_region_law
   ((refine zCk rfl _ _ _ rfl B 35 8 104 iu (.agg #[.int .u8 0,.string ⟨#[]⟩,.string ⟨#[]⟩,.string ⟨#[]⟩,.string ⟨#[]⟩,.string ⟨#[]⟩,.float .f64 0,.int .i64 0]) Tryz.underlying31 dU kD lS oY rfl _ l.length _ (by exact World.ownsRow.alloc H2.out.ol _) _ 1 1 (ea e) rfl rfl rfl (by exact news_new) (ea_one e) (by decide) (by simp [maxLen];omega) (by omega) (by have:=aG.out.size;simp;omega) ?_;intro r1 cap1 w3 bA zB cW;have eL:=hid (show w2.grownBy w3 (Value.slice al l.length cl).ownBlock from (by first | exact zBg (zBr (zBj (v:=Value.slice al l.length cl) cW)) | exact zBr (zBg (zBj (v:=Value.slice al l.length cl) cW)) | exact zBg (zBj (v:=Value.slice al l.length cl) cW)));have nW:=(eL.out.block g (Array.getElem?_eq_some_iff.1 H2.out.blk).1 (fun x=> H2.out.lg x.symm)).trans H2.out.blk;have fz:=(zAc nW).2 1;have z1:=(zAc nW).1 1 _ rfl;clear nW;have kJ:=hid bA;have HP:=hid (show zDw w2 w3 (Value.slice al l.length cl) r1 from (by first | exact zBz cW | exact zBz (drew_or cW) | exact pushed_drew (zBz cW)));clear cW bA))
  all_goals (go_wp2_with fail)
  all_goals go_meet
  all_goals
   exact ⟨H2.out.pushL (e:=e) kJ.out HP.out,(aG.out.grown eL.out (by have:=aG.out.size;omega) (fun k x=> (H2.out.ol.lt _ x).1)).setCell H2.out.gB _,
    (Below.heap_setCell _ _ _ _ (fun x=> cQ.out x.symm)).trans ((eL.out.block _ (Array.getElem?_eq_some_iff.1 qH.out).1 (fun x=> nT.out x.symm)).trans qH.out)⟩
 case rest=>
  obtain ⟨hN2,hB3,hA3⟩:=hcut;obtain ⟨al2,cl2,mX⟩:=(IsSl.of_own hN2.ol).form;obtain ⟨nl2,oE⟩:∃n2,n2=(l++ [e]).length:=⟨_,rfl⟩;rw [←oE] at mX;clear oE;subst mX;have tH:=Array.getElem?_eq_some_iff.1 hN2.blk |>.1;obtain ⟨rJ,_⟩:=zAc hA3;have b2':=rJ 2 _ rfl;have b3':=rJ 3 _ rfl;have b4':=rJ 4 _ rfl;have b5':=rJ 5 _ rfl;clear rJ c1 b0 b1 b2 b3 b4 b5 b6 b7 ca n1 n2 n3 n4 fg2 H2 qH aG;go_upto_region 4 with fail;have hF:(wc.alloc (.cells #[.string e.a,.string e.b,.string e.c,.string e.d] 9)).heap[wc.heap.size]? =_:=heap_alloc_new wc _;have hN3:=hN2.alloc (.cells #[.string e.a,.string e.b,.string e.c,.string e.d] 9);have hB4:=hB3.alloc (Nat.le_trans hB hB3.size) (.cells #[.string e.a,.string e.b,.string e.c,.string e.d] 9);have hA4:=zCg (o':=.cells #[.string e.a,.string e.b,.string e.c,.string e.d] 9) hA3;have gZ:g≠wc.heap.size:=Nat.ne_of_lt tH;have hbf:w.heap.size≠wc.heap.size:=Nat.ne_of_lt (Array.getElem?_eq_some_iff.1 hA3).1;have hnf:(Value.slice an N.length cn).ownBlock≠some wc.heap.size:=fun x=> Nat.lt_irrefl _ (hN2.on.lt _ x).2
  generalize wc.alloc (.cells #[.string e.a,.string e.b,.string e.c,.string e.d] 9)=w5 at *;generalize wc.heap.size=gf at *;have H0:=hid hN3;have oB:=hid hB4;have HA0:=hid hA4;have HF0:=hid hF;have kK:=hid gZ;have gG:=hid hbf;have HNF:=hid hnf;clear hN2 hB3 hA3 hN3 hB4 hA4 hF gZ hbf hnf b2' b3' b4' b5' tH
  go_loopw [39] (fun i wr=> ∃ (q:Nat) (vn':Value),q≤4∧i=.int .i64 q∧NetAt B wr g (.slice al2 nl2 cl2) vn' (.slice ab bs.length cb) bn bp bb (l++ [e]) (ns++ [e.name]) (((fr e).take q).foldl nd1 N) (((fr e).take q).foldl nd1 N) bs bs∧Below B w wr∧wr.heap[w.heap.size]? =some (.cells #[.int .u8 e.kind,.string e.name,.string e.a,.string e.b,.string e.c,.string e.d,.float .f64 e.val,.int .i64 e.ph] 35)∧wr.heap[gf]? =some (.cells #[.string e.a,.string e.b,.string e.c,.string e.d] 9)∧vn'.ownBlock≠some gf∧vn'.ownBlock≠some w.heap.size) (fun i _=> 4 - (intOf i).toNat)
  case atStart=> exact ⟨0,_,Nat.zero_le _,rfl,H0.out,oB.out,HA0.out,HF0.out,HNF.out,lP.out⟩
  case round=>
   obtain ⟨q,vn',hq,rfl,hN,hBr,hAr,hFr,hnf,yZ⟩:=hrel;obtain ⟨wo,rfl⟩:∃wo:World,wo=wr:=⟨_,rfl⟩;obtain ⟨an2,cn2,rfl⟩:=(IsSl.of_own hN.on).form
   by_cases aM:q < 4
   · obtain ⟨s,hs⟩:∃s,(fr e)[q]? =some s:=⟨_,List.getElem?_eq_getElem (by rw [fr_len];omega)⟩;have hcq:=(zAc hFr).1 q (.string s) (by rw [←Array.getElem?_toList];show (sts (fr e))[q]? =_;rw [sts,List.getElem?_map,hs];rfl);have hsz:=fr_ok HE.out (List.mem_of_getElem? hs);have hd:decide ((q:Int) < 4)=true:=by simp;omega
     have iY:=fold_snoc hs N;have hlen2:(((fr e).take q).foldl nd1 N).length≤N.length+4:=by
      have h1:=fold_len ((fr e).take q) N;have h2:((fr e).take q).length≤4:=by rw [List.length_take];omega
      omega
     generalize ((fr e).take q).foldl nd1 N=M at *;obtain ⟨D,aC,hD⟩:=hN.mp;have hm:=hD.2 s;obtain ⟨hgc,_⟩:=zAc hN.blk;have g4:=hgc 4 _ rfl;go_upto_region 7 with (at_lookup;go_loud (refine wpList_lookup_own_ok_int _ rfl _ _ 69 rfl 9 3 .i64 law Tryz.underlying69 Tryz.underlying3 (zFj _) bp _ D rfl aC _ _ rfl (WideMaps.keyOf_string_mk Tryz.underlying9 hsz) ?_;intro c eD qP));have hh:Maps.has D (Lit.string s.data.toList)=has M s:=hm.2;rw [hh];have jQ:=hid iY;clear hh hm aC hD iY eD qP;have HN:=hid hN;have gA:=hid hBr;have iT:=hid hAr;have HFR:=hid hFr;have sC:=hid hnf;have sE:=hid yZ;clear hBr hAr hFr hnf yZ hgc hN;cases hb:has M s
     · have HH:=hid hb;clear hb;rcases gnd_ways s with ⟨h1,h0⟩ | ⟨h1,g1,h2,h0⟩ | ⟨h1,g1,h2,g2',h0⟩
       · have H0:=hid h0;clear h0;go_wp2_with fail;go_roundw
         case rel=> exact ⟨q+1,_,by omega,by go_num,by rw [jQ.out,nd1_yes (by rw [H0.out];rfl)];exact HN.out,gA.out,iT.out,HFR.out,sC.out,sE.out⟩
         case measure=> simp [intOf];omega
       · have H0:=hid h0;clear h0;go_wp2_with fail;go_roundw
         case rel=> exact ⟨q+1,_,by omega,by go_num,by rw [jQ.out,nd1_yes (by rw [H0.out];rfl)];exact HN.out,gA.out,iT.out,HFR.out,sC.out,sE.out⟩
         case measure=> simp [intOf];omega
       · have H0:=hid h0;clear h0;go_upto_region 8 with fail;obtain ⟨D2,cV,hD2⟩:=HN.out.mp;have wY:=hid cV;have uC:=hid hD2;have g3:=(zAc HN.out.blk).1 3 _ rfl;clear cV hD2
         go_still_tail 10,(by kernel_rfl)
         change wpList _ _ _ _ _ wo.drew;go_upto_region 9 with (at_mapUpdate;go_loud (refine wpList_mapUpdate_own _ rfl _ _ _ 69 rfl 9 3 law Tryz.underlying69 _ bp M.length D2 rfl wY.out.drew (by unfold maxLen;omega) _ _ _ rfl rfl (WideMaps.keyOf_string_mk Tryz.underlying9 hsz) _ [] (plainElem_int Tryz.underlying3 (WalkArith.wf_i64 ⟨by omega,by omega⟩)) ?_;intro w6 eG qY));have h6:NetAt B w6 g (.slice al2 nl2 cl2) (.slice an2 M.length cn2) (.slice ab bs.length cb) bn bp bb (l++ [e]) (ns++ [e.name]) M (M++ [s]) bs bs:=HN.out.drew.places qY ⟨_,by rw [List.length_append];exact eG,zFg uC.out HH.out⟩;have hA6:=(qY.block _ (Array.getElem?_eq_some_iff.1 iT.out).1 (by simpa using HN.out.mp.ne_blk iT.out)).trans iT.out;have hF6:=(qY.block _ (Array.getElem?_eq_some_iff.1 HFR.out).1 (by simpa using HN.out.mp.ne_blk HFR.out)).trans HFR.out;have hB6:Below B w w6:=(gA.out.drew).grown qY (Nat.le_trans hB gA.out.size) (by intro k x;cases x;exact HN.out.bpB);clear eG qY wY uC iT HFR gA HN g3 g4 hcq;obtain ⟨hgc6,_⟩:=zAc h6.blk;have c3:=hgc6 3 _ rfl;have H6:=hid h6;have HA6:=hid hA6;have sK:=hid hF6;have cJ:=hid hB6;have eG:=h6.on;have hsz6:B≤w6.heap.size:=Nat.le_trans hB hB6.size;clear h6 hA6 hF6 hB6 hgc6
         (try simp only [Act.put])
         go_wp2_with (refine zBq rfl rfl _ rfl _ _ _ rfl rfl B 9 1 16 i0 (.string ⟨#[]⟩) Tryz.underlying70 hi cG bD cB rfl (by decide) (by decide) _ M.length _ eG hsz6 (.string s) rfl rfl (by intro u hu;simp [Value.cells] at hu;subst hu;rfl) rfl rfl (by simp [maxLen];omega) (by omega) ?_;intro r1 cap1 w3 bA zB bU;have kJ:=hid bA;have HP:=hid (show zDw w6 w3 (Value.slice an2 M.length cn2) r1 from bU);have nW:=zEe HP.out H6.out.ng H6.out.blk;have fz:=(zAc nW).2 3;have z1:=(zAc nW).1 3 _ rfl;clear nW bU bA);go_roundw
         case rel=>
          exact ⟨q+1,.slice (some ⟨r1,0,none⟩) (M.length+1) cap1,by omega,by go_num,by rw [jQ.out,nd1_no (by rw [H0.out,HH.out];rfl)];exact H6.out.pushN kJ.out HP.out,(cJ.out.grown (pushed_grown HP.out) (Nat.le_trans hB cJ.out.size) (fun k x=> (H6.out.on.lt _ x).1)).setCell H6.out.gB _,
           (Below.heap_setCell _ _ _ _ (fun x=> cQ.out x.symm)).trans (zEe HP.out sE.out HA6.out),
           (Below.heap_setCell _ _ _ _ (fun x=> kK.out x.symm)).trans (zEe HP.out sC.out sK.out),
           fun x=> fresh_blk HP.out sC.out (Array.getElem?_eq_some_iff.1 sK.out).1 (Option.some.inj x).symm,fun x=> fresh_blk HP.out sE.out (Array.getElem?_eq_some_iff.1 HA6.out).1 (Option.some.inj x).symm⟩
         case measure=> simp [intOf];omega
     · have HH:=hid hb;clear hb;go_wp2_with fail;go_roundw
       case rel=> exact ⟨q+1,_,by omega,by go_num,by rw [jQ.out,nd1_yes (by rw [HH.out];simp)];exact HN.out,gA.out,iT.out,HFR.out,sC.out,sE.out⟩
       case measure=> simp [intOf];omega
   · obtain rfl:q=4:=by omega
     obtain ⟨vn4,hN4⟩:∃v,NetAt B wo g (.slice al2 nl2 cl2) v (.slice ab bs.length cb) bn bp bb (l++ [e]) (ns++ [e.name]) (nd4 N e) (nd4 N e) bs bs:=⟨_,hN⟩;obtain ⟨zQ,_⟩:=zAc hAr;have b0:=zQ 0 _ rfl;have b1:=zQ 1 _ rfl;obtain ⟨zI,_⟩:=zAc hN4.blk;have c5:=zI 5 _ rfl;have c6:=zI 6 _ rfl;obtain ⟨D3,bA,hD3⟩:=hN4.mb;have HN:=hid hN4;have gA:=hid hBr;have iT:=hid hAr;have oV:=hid bA;have kA:=hid hD3;clear hN4 hN hBr hAr hFr hnf yZ zQ zI bA hD3;rcases br_ways e with ⟨h1,h0⟩ | ⟨h1,h2,h0⟩ | ⟨h1,h2,h0⟩
     · skip;have H0:=hid h0;clear h0;go_upto_region 12 with fail
       go_still_tail 11,(by kernel_rfl)
       change wpList _ _ _ _ _ wo.drew;go_upto_region 13 with (at_mapUpdate;go_loud (refine wpList_mapUpdate_own _ rfl _ _ _ 69 rfl 9 3 law Tryz.underlying69 _ bb bs.length D3 rfl oV.out.drew (by unfold maxLen;omega) _ _ _ rfl rfl (WideMaps.keyOf_string_mk Tryz.underlying9 HE.out.name) _ [] (plainElem_int Tryz.underlying3 (WalkArith.wf_i64 ⟨by omega,by omega⟩)) ?_;intro w7 lU kX));have h7:NetAt B w7 g (.slice al2 nl2 cl2) vn4 (.slice ab bs.length cb) bn bp bb (l++ [e]) (ns++ [e.name]) (nd4 N e) (nd4 N e) bs (bs++ [e.name]):=HN.out.drew.branch kX ⟨_,by rw [List.length_append];exact lU,zFg kA.out hb⟩;have hA7:=(kX.block _ (Array.getElem?_eq_some_iff.1 iT.out).1 (by simpa using HN.out.mb.ne_blk iT.out)).trans iT.out;have hB7:Below B w w7:=(gA.out.drew).grown kX (Nat.le_trans hB gA.out.size) (by intro k x;cases x;exact HN.out.bbB);clear lU kX oV kA iT gA HN b0 b1 c5 c6;obtain ⟨qZ,_⟩:=zAc h7.blk;have c5:=qZ 5 _ rfl;have b1:=(zAc hA7).1 1 _ rfl;have ca:∀o:Obj,(w7.alloc o).cell? ⟨g,5,none⟩=some (.slice ab bs.length cb):=fun o=> (World.cell?_alloc_some w7 ⟨g,5,none⟩ o (by rw [c5];rfl)).trans c5
       have n1:=World.new_ne w7 ⟨g,5,none⟩ c5;have n2':=World.new_ne w7 ⟨w.heap.size,1,none⟩ b1;have n3:¬g=w7.heap.size:=by have:=(Array.getElem?_eq_some_iff.1 h7.blk).1;omega
       have n4:¬w.heap.size=w7.heap.size:=by have:=(Array.getElem?_eq_some_iff.1 hA7).1;omega
       have H7:=hid h7;have cT:=hid hB7;clear h7 hA7 hB7 qZ
       (try simp only [Act.put])
       go_region_law
        ((refine zCk rfl _ _ _ rfl B 9 1 16 i0 (.string ⟨#[]⟩) Tryz.underlying70 hi cG bD cB rfl _ bs.length _ (by exact World.ownsRow.alloc H7.out.ob _) _ 1 1 [.string e.name] rfl rfl rfl (by exact news_new) (by intro u hu;rw [List.mem_singleton.1 hu];rfl) (by decide) (by simp [maxLen];omega) (by omega) (by have:=cT.out.size;simp;omega) ?_;intro r1 cap1 w3 bA zB cW;have eL:=hid (show w7.grownBy w3 (Value.slice ab bs.length cb).ownBlock from (by first | exact zBg (zBr (zBj (v:=Value.slice ab bs.length cb) cW)) | exact zBr (zBg (zBj (v:=Value.slice ab bs.length cb) cW)) | exact zBg (zBj (v:=Value.slice ab bs.length cb) cW)));have nW:=(eL.out.block g (Array.getElem?_eq_some_iff.1 H7.out.blk).1 (fun x=> H7.out.bg x.symm)).trans H7.out.blk;have fz:=(zAc nW).2 5;have z1:=(zAc nW).1 5 _ rfl;clear nW;have kJ:=hid bA;have HP:=hid (show zDw w7 w3 (Value.slice ab bs.length cb) r1 from (by first | exact zBz cW | exact zBz (drew_or cW) | exact pushed_drew (zBz cW)));clear cW bA))
       all_goals (go_wp2_with fail)
       all_goals go_end0
       all_goals
        have dV:=H7.out.pushB (s:=e.name) kJ.out HP.out;rw [←brN_yes (bs:=bs) H0.out] at dV;have cN:Below B w w3:=cT.out.grown eL.out (Nat.le_trans hB cT.out.size) (fun k x=> (H7.out.ob.lt _ x).1);exact ⟨rfl,cN.setCell H7.out.gB _,_,_,_,dV⟩
     · skip;have H0:=hid h0;clear h0;go_upto_region 12 with fail
       go_still_tail 11,(by kernel_rfl)
       change wpList _ _ _ _ _ wo.drew;go_upto_region 13 with (at_mapUpdate;go_loud (refine wpList_mapUpdate_own _ rfl _ _ _ 69 rfl 9 3 law Tryz.underlying69 _ bb bs.length D3 rfl oV.out.drew (by unfold maxLen;omega) _ _ _ rfl rfl (WideMaps.keyOf_string_mk Tryz.underlying9 HE.out.name) _ [] (plainElem_int Tryz.underlying3 (WalkArith.wf_i64 ⟨by omega,by omega⟩)) ?_;intro w7 lU kX));have h7:NetAt B w7 g (.slice al2 nl2 cl2) vn4 (.slice ab bs.length cb) bn bp bb (l++ [e]) (ns++ [e.name]) (nd4 N e) (nd4 N e) bs (bs++ [e.name]):=HN.out.drew.branch kX ⟨_,by rw [List.length_append];exact lU,zFg kA.out hb⟩;have hA7:=(kX.block _ (Array.getElem?_eq_some_iff.1 iT.out).1 (by simpa using HN.out.mb.ne_blk iT.out)).trans iT.out;have hB7:Below B w w7:=(gA.out.drew).grown kX (Nat.le_trans hB gA.out.size) (by intro k x;cases x;exact HN.out.bbB);clear lU kX oV kA iT gA HN b0 b1 c5 c6;obtain ⟨qZ,_⟩:=zAc h7.blk;have c5:=qZ 5 _ rfl;have b1:=(zAc hA7).1 1 _ rfl;have ca:∀o:Obj,(w7.alloc o).cell? ⟨g,5,none⟩=some (.slice ab bs.length cb):=fun o=> (World.cell?_alloc_some w7 ⟨g,5,none⟩ o (by rw [c5];rfl)).trans c5
       have n1:=World.new_ne w7 ⟨g,5,none⟩ c5;have n2':=World.new_ne w7 ⟨w.heap.size,1,none⟩ b1;have n3:¬g=w7.heap.size:=by have:=(Array.getElem?_eq_some_iff.1 h7.blk).1;omega
       have n4:¬w.heap.size=w7.heap.size:=by have:=(Array.getElem?_eq_some_iff.1 hA7).1;omega
       have H7:=hid h7;have cT:=hid hB7;clear h7 hA7 hB7 qZ
       (try simp only [Act.put])
       go_region_law
        ((refine zCk rfl _ _ _ rfl B 9 1 16 i0 (.string ⟨#[]⟩) Tryz.underlying70 hi cG bD cB rfl _ bs.length _ (by exact World.ownsRow.alloc H7.out.ob _) _ 1 1 [.string e.name] rfl rfl rfl (by exact news_new) (by intro u hu;rw [List.mem_singleton.1 hu];rfl) (by decide) (by simp [maxLen];omega) (by omega) (by have:=cT.out.size;simp;omega) ?_;intro r1 cap1 w3 bA zB cW;have eL:=hid (show w7.grownBy w3 (Value.slice ab bs.length cb).ownBlock from (by first | exact zBg (zBr (zBj (v:=Value.slice ab bs.length cb) cW)) | exact zBr (zBg (zBj (v:=Value.slice ab bs.length cb) cW)) | exact zBg (zBj (v:=Value.slice ab bs.length cb) cW)));have nW:=(eL.out.block g (Array.getElem?_eq_some_iff.1 H7.out.blk).1 (fun x=> H7.out.bg x.symm)).trans H7.out.blk;have fz:=(zAc nW).2 5;have z1:=(zAc nW).1 5 _ rfl;clear nW;have kJ:=hid bA;have HP:=hid (show zDw w7 w3 (Value.slice ab bs.length cb) r1 from (by first | exact zBz cW | exact zBz (drew_or cW) | exact pushed_drew (zBz cW)));clear cW bA))
       all_goals (go_wp2_with fail)
       all_goals go_end0
       all_goals
        have dV:=H7.out.pushB (s:=e.name) kJ.out HP.out;rw [←brN_yes (bs:=bs) H0.out] at dV;have cN:Below B w w3:=cT.out.grown eL.out (Nat.le_trans hB cT.out.size) (fun k x=> (H7.out.ob.lt _ x).1);exact ⟨rfl,cN.setCell H7.out.gB _,_,_,_,dV⟩
     · have H0:=hid h0;clear h0;go_wp2_with fail
       go_end0
       exact ⟨rfl,gA.out,_,_,_,by rw [brN_no H0.out];exact HN.out⟩
end Go.Proofs.YtdepiggjneoopaaGreatDoor
