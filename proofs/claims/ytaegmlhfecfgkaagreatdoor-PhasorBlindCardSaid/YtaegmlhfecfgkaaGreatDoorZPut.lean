/- a part of the proof of the last text -/
import Derived.Test.YtaegmlhfecfgkaaGreatDoorZMNetAt
namespace Go.Proofs.YtaegmlhfecfgkaaGreatDoor
set_option linter.all false
set_option maxHeartbeats 4000000
set_option maxRecDepth 100000
open Go.RowKit Go.Maps
def brN (bs:List ByteArray) (e:El):List ByteArray:=if isBr e=true then bs++ [e.name] else bs
theorem brN_yes {bs:List ByteArray} {e:El} (h:isBr e=true):brN bs e=bs++ [e.name]:=by unfold brN;rw [if_pos h]
theorem brN_no {bs:List ByteArray} {e:El} (h:isBr e=false):brN bs e=bs:=by unfold brN;rw [if_neg (by rw [h];decide)]
theorem fr_ok {e:El} (h:e.Ok) {s:ByteArray} (hs:s∈fr e):s.size≤maxLen:=by
 simp only [fr,List.mem_cons,List.not_mem_nil,or_false] at hs;rcases hs with rfl | rfl | rfl | rfl
 · exact h.a
 · exact h.b
 · exact h.c
 · exact h.d
theorem pushed_alloc {w w1:World} {o:Obj} {v:Value} {g:Nat} (h:(v.ownBlock=some g∧(w.alloc o).grownBy w1 (some g))∨(g=(w.alloc o).heap.size∧(w.alloc o).grownBy w1 none)):Pushed w w1 v g:=
 h.imp (fun x=> ⟨x.1,grown_alloc x.2⟩) (fun x=> ⟨by have:=x.1;simp at this;omega,grown_alloc x.2⟩)
theorem drew_or {w w1:World} {v:Value} {g:Nat} (h:(v.ownBlock=some g∧w.drew.grownBy w1 (some g))∨(g=w.drew.heap.size∧w.drew.grownBy w1 none)):(v.ownBlock=some g∧w.grownBy w1 (some g))∨(g=w.heap.size∧w.grownBy w1 none):=
 h.imp (fun x=> ⟨x.1,grown_drew1 x.2⟩) (fun x=> ⟨x.1,grown_drew1 x.2⟩)
theorem pushed_grown {w w1:World} {v:Value} {g:Nat} (h:Pushed w w1 v g):w.grownBy w1 v.ownBlock:=by
 rcases h with ⟨h1,h2⟩ | ⟨_,h2⟩
 · rw [h1];exact h2
 · exact ⟨h2.os,h2.tape,h2.output,h2.size,fun k hk _=> h2.block k hk (by simp)⟩
theorem pushed_drew {w w1:World} {v:Value} {g:Nat} (h:Pushed w.drew w1 v g):Pushed w w1 v g:=
 h.imp (fun x=> ⟨x.1,grown_drew1 x.2⟩) (fun x=> ⟨x.1,grown_drew1 x.2⟩)
theorem put_any (e:El) (w:World) {B g bn bp bb:Nat} {vl vn vb:Value} {l:List El} {ns N bs:List ByteArray} (h:NetAt B w g vl vn vb bn bp bb l ns N N bs bs)
 (hB:B≤w.heap.size) (he:e.Ok) (hl:l.length≤100000) (hns:ns.length=l.length) (hN:N.length≤400000) (hbs:bs.length≤100000) (hn:has ns e.name=false) (hb:has bs e.name=false):
 Calls Tryz.prog 26 #[.pointer (some ⟨g,0,none⟩),.agg #[.int .u8 e.kind,.string e.name,.string e.a,.string e.b,.string e.c,.string e.d,.float .f64 e.val,.int .i64 e.ph]] w fun en w'=> en=.returned (.tuple #[])∧Below B w w'∧
  ∃vl' vn' vb',NetAt B w' g vl' vn' vb' bn bp bb (l++ [e]) (ns++ [e.name]) (nd4 N e) (nd4 N e) (brN bs e) (brN bs e):=by
 obtain ⟨i0,hi,hz0,hz1,hz2⟩:=info_parts infoSt;obtain ⟨iu,hiu,hu0,hu1,hu2⟩:=info_parts infoEa;have law:Keyed Tryz.prog 9 :=string_keyed Tryz.underlying9;have hmm:=@run_makeMap Tryz.prog;obtain ⟨al,cl,rfl⟩:=(IsSl.of_own h.ol).form;obtain ⟨an,cn,rfl⟩:=(IsSl.of_own h.on).form;obtain ⟨ab,cb,rfl⟩:=(IsSl.of_own h.ob).form;go_enter Tryz.func26,Tryz.ntmps26;go_upto_region 1 with fail;have h1:=h.alloc (.cells #[.int .u8 e.kind,.string e.name,.string e.a,.string e.b,.string e.c,.string e.d,.float .f64 e.val,.int .i64 e.ph] 47);have hA:=heap_alloc_new w (.cells #[.int .u8 e.kind,.string e.name,.string e.a,.string e.b,.string e.c,.string e.d,.float .f64 e.val,.int .i64 e.ph] 47);have hB1:Below B w (w.alloc (.cells #[.int .u8 e.kind,.string e.name,.string e.a,.string e.b,.string e.c,.string e.d,.float .f64 e.val,.int .i64 e.ph] 47)):=(Below.refl _ w).alloc hB _;generalize w.alloc (.cells #[.int .u8 e.kind,.string e.name,.string e.a,.string e.b,.string e.c,.string e.d,.float .f64 e.val,.int .i64 e.ph] 47)=w1 at *;obtain ⟨hgc,_⟩:=block_cells h1.blk;obtain ⟨hac,_⟩:=block_cells hA;have g1:=hgc 1 _ rfl;have g2:=hgc 2 _ rfl;have a1:=hac 1 _ rfl;have HH:=hid h1;have HA:=hid hA;have HB1:=hid hB1;have HE:=hid he;have HGW:=hid (show g≠w.heap.size from Nat.ne_of_lt (Array.getElem?_eq_some_iff.1 h.blk).1);have HNB:=hid (show (Value.slice al l.length cl).ownBlock≠some w.heap.size from fun x=> Nat.lt_irrefl _ (h.ol.lt _ x).2);have HNN:=hid (show (Value.slice an N.length cn).ownBlock≠some w.heap.size from fun x=> Nat.lt_irrefl _ (h.on.lt _ x).2);have HNC:=hid (show (Value.slice ab bs.length cb).ownBlock≠some w.heap.size from fun x=> Nat.lt_irrefl _ (h.ob.lt _ x).2);obtain ⟨D,hown,hD⟩:=h1.mn;have HD:=hid hD;have HOWN:=hid hown
 clear hgc hac hA hB1 hown hD h h1
 go_still_tail 11,(by kernel_rfl)
 change wpList _ _ _ _ _ w1.drew;go_upto_region 2 with (at_mapUpdate;go_loud (refine wpList_mapUpdate_own _ rfl _ _ _ 70 rfl 9 3 law Tryz.underlying70 _ bn ns.length D rfl HOWN.out.drew (by unfold maxLen;omega) _ _ _ rfl rfl (WideMaps.keyOf_string_mk Tryz.underlying9 HE.out.name) _ [] (plainElem_int Tryz.underlying3 (WalkArith.wf_i64 ⟨by omega,by omega⟩)) ?_;intro w2 hown2 hgr2));have h2:NetAt B w2 g (.slice al l.length cl) (.slice an N.length cn) (.slice ab bs.length cb) bn bp bb l (ns++ [e.name]) N N bs bs:=HH.out.drew.names hgr2 ⟨_,by rw [List.length_append];exact hown2,by have:=mapIs_put HD.out hn;rwa [hns] at this⟩;have hA2:w2.heap[w.heap.size]? =some (.cells #[.int .u8 e.kind,.string e.name,.string e.a,.string e.b,.string e.c,.string e.d,.float .f64 e.val,.int .i64 e.ph] 47):=(hgr2.block _ (Array.getElem?_eq_some_iff.1 HA.out).1 (by simpa using HH.out.mn.ne_blk HA.out)).trans HA.out;have hB2:Below B w w2:=(HB1.out.drew).grown hgr2 (Nat.le_trans hB HB1.out.size) (by intro k x;cases x;exact HH.out.bnB);clear hown2 hgr2 HOWN HD HA HB1 HH g1 g2 a1;obtain ⟨hgc2,fg2⟩:=block_cells h2.blk;obtain ⟨hac2,_⟩:=block_cells hA2;have c1:=hgc2 1 _ rfl;have b0:=hac2 0 _ rfl;have b1:=hac2 1 _ rfl;have b2:=hac2 2 _ rfl;have b3:=hac2 3 _ rfl;have b4:=hac2 4 _ rfl;have b5:=hac2 5 _ rfl;have b6:=hac2 6 _ rfl;have b7:=hac2 7 _ rfl;have H2:=hid h2;have HA2:=hid hA2;have HB2:=hid hB2;have ca:∀o:Obj,(w2.alloc o).cell? ⟨g,1,none⟩=some (.slice al l.length cl):=fun o=> (World.cell?_alloc_some w2 ⟨g,1,none⟩ o (by rw [c1];rfl)).trans c1
 have n1:=World.new_ne w2 ⟨g,1,none⟩ c1;have n2:=World.new_ne w2 ⟨w.heap.size,0,none⟩ b0;have n3:¬g=w2.heap.size:=by have:=(Array.getElem?_eq_some_iff.1 h2.blk).1;omega
 have n4:¬w.heap.size=w2.heap.size:=by have:=(Array.getElem?_eq_some_iff.1 hA2).1;omega
 clear hgc2 hac2 h2 hA2 hB2
 (try simp only [Act.put])
 go_cut [26] (fun s26 wx=> NetAt B wx g s26 (.slice an N.length cn) (.slice ab bs.length cb) bn bp bb (l++ [e]) (ns++ [e.name]) N N bs bs∧Below B w wx∧wx.heap[w.heap.size]? =some (.cells #[.int .u8 e.kind,.string e.name,.string e.a,.string e.b,.string e.c,.string e.d,.float .f64 e.val,.int .i64 e.ph] 47))
 case first=>
  go_region_law
   ((refine step_append_own rfl _ _ _ rfl B 47 8 104 iu (.agg #[.int .u8 0,.string ⟨#[]⟩,.string ⟨#[]⟩,.string ⟨#[]⟩,.string ⟨#[]⟩,.string ⟨#[]⟩,.float .f64 0,.int .i64 0]) Tryz.underlying45 hiu hu0 hu1 hu2 rfl _ l.length _ (by exact World.ownsRow.alloc H2.out.ol _) _ 1 1 (ea e) rfl rfl rfl (by exact news_new) (ea_one e) (by decide) (by simp [maxLen];omega) (by omega) (by have:=HB2.out.size;simp;omega) ?_;intro r1 cap1 w3 hown3 hlt3 hgr3;have HG3:=hid (show w2.grownBy w3 (Value.slice al l.length cl).ownBlock from (by first | exact grown_alloc (grown_drew1 (grown_either (v:=Value.slice al l.length cl) hgr3)) | exact grown_drew1 (grown_alloc (grown_either (v:=Value.slice al l.length cl) hgr3)) | exact grown_alloc (grown_either (v:=Value.slice al l.length cl) hgr3)));have HK3:=(HG3.out.block g (Array.getElem?_eq_some_iff.1 H2.out.blk).1 (fun x=> H2.out.lg x.symm)).trans H2.out.blk;have fz:=(block_cells HK3).2 1;have z1:=(block_cells HK3).1 1 _ rfl;clear HK3;have HO3:=hid hown3;have HP:=hid (show Pushed w2 w3 (Value.slice al l.length cl) r1 from (by first | exact pushed_alloc hgr3 | exact pushed_alloc (drew_or hgr3) | exact pushed_drew (pushed_alloc hgr3)));clear hgr3 hown3))
  all_goals (go_wp2_with fail)
  all_goals go_meet
  all_goals
   exact ⟨H2.out.pushL (e:=e) HO3.out HP.out,(HB2.out.grown HG3.out (by have:=HB2.out.size;omega) (fun k x=> (H2.out.ol.lt _ x).1)).setCell H2.out.gB _,
    (Below.heap_setCell _ _ _ _ (fun x=> HGW.out x.symm)).trans ((HG3.out.block _ (Array.getElem?_eq_some_iff.1 HA2.out).1 (fun x=> HNB.out x.symm)).trans HA2.out)⟩
 case rest=>
  obtain ⟨hN2,hB3,hA3⟩:=hcut;obtain ⟨al2,cl2,h26⟩:=(IsSl.of_own hN2.ol).form;obtain ⟨nl2,hn2⟩:∃n2,n2=(l++ [e]).length:=⟨_,rfl⟩;rw [←hn2] at h26;clear hn2;subst h26;have hgl:=Array.getElem?_eq_some_iff.1 hN2.blk |>.1;obtain ⟨hac3,_⟩:=block_cells hA3;have b2':=hac3 2 _ rfl;have b3':=hac3 3 _ rfl;have b4':=hac3 4 _ rfl;have b5':=hac3 5 _ rfl;clear hac3 c1 b0 b1 b2 b3 b4 b5 b6 b7 ca n1 n2 n3 n4 fg2 H2 HA2 HB2;go_upto_region 4 with fail;have hF:(wc.alloc (.cells #[.string e.a,.string e.b,.string e.c,.string e.d] 9)).heap[wc.heap.size]? =_:=heap_alloc_new wc _;have hN3:=hN2.alloc (.cells #[.string e.a,.string e.b,.string e.c,.string e.d] 9);have hB4:=hB3.alloc (Nat.le_trans hB hB3.size) (.cells #[.string e.a,.string e.b,.string e.c,.string e.d] 9);have hA4:=heap_past_of (o':=.cells #[.string e.a,.string e.b,.string e.c,.string e.d] 9) hA3;have hgf:g≠wc.heap.size:=Nat.ne_of_lt hgl;have hbf:w.heap.size≠wc.heap.size:=Nat.ne_of_lt (Array.getElem?_eq_some_iff.1 hA3).1;have hnf:(Value.slice an N.length cn).ownBlock≠some wc.heap.size:=fun x=> Nat.lt_irrefl _ (hN2.on.lt _ x).2
  generalize wc.alloc (.cells #[.string e.a,.string e.b,.string e.c,.string e.d] 9)=w5 at *;generalize wc.heap.size=gf at *;have H0:=hid hN3;have HB0:=hid hB4;have HA0:=hid hA4;have HF0:=hid hF;have HGF:=hid hgf;have HBF:=hid hbf;have HNF:=hid hnf;clear hN2 hB3 hA3 hN3 hB4 hA4 hF hgf hbf hnf b2' b3' b4' b5' hgl
  go_loopw [39] (fun i wr=> ∃ (q:Nat) (vn':Value),q≤4∧i=.int .i64 q∧NetAt B wr g (.slice al2 nl2 cl2) vn' (.slice ab bs.length cb) bn bp bb (l++ [e]) (ns++ [e.name]) (((fr e).take q).foldl nd1 N) (((fr e).take q).foldl nd1 N) bs bs∧Below B w wr∧wr.heap[w.heap.size]? =some (.cells #[.int .u8 e.kind,.string e.name,.string e.a,.string e.b,.string e.c,.string e.d,.float .f64 e.val,.int .i64 e.ph] 47)∧wr.heap[gf]? =some (.cells #[.string e.a,.string e.b,.string e.c,.string e.d] 9)∧vn'.ownBlock≠some gf∧vn'.ownBlock≠some w.heap.size) (fun i _=> 4 - (intOf i).toNat)
  case atStart=> exact ⟨0,_,Nat.zero_le _,rfl,H0.out,HB0.out,HA0.out,HF0.out,HNF.out,HNN.out⟩
  case round=>
   obtain ⟨q,vn',hq,rfl,hN,hBr,hAr,hFr,hnf,hnb⟩:=hrel;obtain ⟨wo,rfl⟩:∃wo:World,wo=wr:=⟨_,rfl⟩;obtain ⟨an2,cn2,rfl⟩:=(IsSl.of_own hN.on).form
   by_cases hlt:q < 4
   · obtain ⟨s,hs⟩:∃s,(fr e)[q]? =some s:=⟨_,List.getElem?_eq_getElem (by rw [fr_len];omega)⟩;have hcq:=(block_cells hFr).1 q (.string s) (by rw [←Array.getElem?_toList];show (sts (fr e))[q]? =_;rw [sts,List.getElem?_map,hs];rfl);have hsz:=fr_ok HE.out (List.mem_of_getElem? hs);have hd:decide ((q:Int) < 4)=true:=by simp;omega
     have hfold:=fold_snoc hs N;have hlen2:(((fr e).take q).foldl nd1 N).length≤N.length+4:=by
      have h1:=fold_len ((fr e).take q) N;have h2:((fr e).take q).length≤4:=by rw [List.length_take];omega
      omega
     generalize ((fr e).take q).foldl nd1 N=M at *;obtain ⟨D,hown,hD⟩:=hN.mp;have hm:=hD.2 s;obtain ⟨hgc,_⟩:=block_cells hN.blk;have g4:=hgc 4 _ rfl;go_upto_region 7 with (at_lookup;go_loud (refine wpList_lookup_own_ok_int _ rfl _ _ 70 rfl 9 3 .i64 law Tryz.underlying70 Tryz.underlying3 (zeroInt _) bp _ D rfl hown _ _ rfl (WideMaps.keyOf_string_mk Tryz.underlying9 hsz) ?_;intro c hat hwc));have hh:Maps.has D (Lit.string s.data.toList)=has M s:=hm.2;rw [hh];have HFOLD:=hid hfold;clear hh hm hown hD hfold hat hwc;have HN:=hid hN;have HBR:=hid hBr;have HAR:=hid hAr;have HFR:=hid hFr;have HNF2:=hid hnf;have HNB2:=hid hnb;clear hBr hAr hFr hnf hnb hgc hN;cases hb:has M s
     · have HH:=hid hb;clear hb;rcases gnd_ways s with ⟨h1,h0⟩ | ⟨h1,g1,h2,h0⟩ | ⟨h1,g1,h2,g2',h0⟩
       · have H0:=hid h0;clear h0;go_wp2_with fail;go_roundw
         case rel=> exact ⟨q+1,_,by omega,by go_num,by rw [HFOLD.out,nd1_yes (by rw [H0.out];rfl)];exact HN.out,HBR.out,HAR.out,HFR.out,HNF2.out,HNB2.out⟩
         case measure=> simp [intOf];omega
       · have H0:=hid h0;clear h0;go_wp2_with fail;go_roundw
         case rel=> exact ⟨q+1,_,by omega,by go_num,by rw [HFOLD.out,nd1_yes (by rw [H0.out];rfl)];exact HN.out,HBR.out,HAR.out,HFR.out,HNF2.out,HNB2.out⟩
         case measure=> simp [intOf];omega
       · have H0:=hid h0;clear h0;go_upto_region 8 with fail;obtain ⟨D2,hown2,hD2⟩:=HN.out.mp;have HOWN2:=hid hown2;have HD2:=hid hD2;have g3:=(block_cells HN.out.blk).1 3 _ rfl;clear hown2 hD2
         go_still_tail 10,(by kernel_rfl)
         change wpList _ _ _ _ _ wo.drew;go_upto_region 9 with (at_mapUpdate;go_loud (refine wpList_mapUpdate_own _ rfl _ _ _ 70 rfl 9 3 law Tryz.underlying70 _ bp M.length D2 rfl HOWN2.out.drew (by unfold maxLen;omega) _ _ _ rfl rfl (WideMaps.keyOf_string_mk Tryz.underlying9 hsz) _ [] (plainElem_int Tryz.underlying3 (WalkArith.wf_i64 ⟨by omega,by omega⟩)) ?_;intro w6 hown6 hgr6));have h6:NetAt B w6 g (.slice al2 nl2 cl2) (.slice an2 M.length cn2) (.slice ab bs.length cb) bn bp bb (l++ [e]) (ns++ [e.name]) M (M++ [s]) bs bs:=HN.out.drew.places hgr6 ⟨_,by rw [List.length_append];exact hown6,mapIs_put HD2.out HH.out⟩;have hA6:=(hgr6.block _ (Array.getElem?_eq_some_iff.1 HAR.out).1 (by simpa using HN.out.mp.ne_blk HAR.out)).trans HAR.out;have hF6:=(hgr6.block _ (Array.getElem?_eq_some_iff.1 HFR.out).1 (by simpa using HN.out.mp.ne_blk HFR.out)).trans HFR.out;have hB6:Below B w w6:=(HBR.out.drew).grown hgr6 (Nat.le_trans hB HBR.out.size) (by intro k x;cases x;exact HN.out.bpB);clear hown6 hgr6 HOWN2 HD2 HAR HFR HBR HN g3 g4 hcq;obtain ⟨hgc6,_⟩:=block_cells h6.blk;have c3:=hgc6 3 _ rfl;have H6:=hid h6;have HA6:=hid hA6;have HF6:=hid hF6;have HB6:=hid hB6;have hown6:=h6.on;have hsz6:B≤w6.heap.size:=Nat.le_trans hB hB6.size;clear h6 hA6 hF6 hB6 hgc6
         (try simp only [Act.put])
         go_wp2_with (refine wpList_push2 rfl rfl _ rfl _ _ _ rfl rfl B 9 1 16 i0 (.string ⟨#[]⟩) Tryz.underlying71 hi hz0 hz1 hz2 rfl (by decide) (by decide) _ M.length _ hown6 hsz6 (.string s) rfl rfl (by intro u hu;simp [Value.cells] at hu;subst hu;rfl) rfl rfl (by simp [maxLen];omega) (by omega) ?_;intro r1 cap1 w3 hown3 hlt3 htwo;have HO3:=hid hown3;have HP:=hid (show Pushed w6 w3 (Value.slice an2 M.length cn2) r1 from htwo);have HK3:=pushed_blk HP.out H6.out.ng H6.out.blk;have fz:=(block_cells HK3).2 3;have z1:=(block_cells HK3).1 3 _ rfl;clear HK3 htwo hown3);go_roundw
         case rel=>
          exact ⟨q+1,.slice (some ⟨r1,0,none⟩) (M.length+1) cap1,by omega,by go_num,by rw [HFOLD.out,nd1_no (by rw [H0.out,HH.out];rfl)];exact H6.out.pushN HO3.out HP.out,(HB6.out.grown (pushed_grown HP.out) (Nat.le_trans hB HB6.out.size) (fun k x=> (H6.out.on.lt _ x).1)).setCell H6.out.gB _,
           (Below.heap_setCell _ _ _ _ (fun x=> HGW.out x.symm)).trans (pushed_blk HP.out HNB2.out HA6.out),
           (Below.heap_setCell _ _ _ _ (fun x=> HGF.out x.symm)).trans (pushed_blk HP.out HNF2.out HF6.out),
           fun x=> fresh_blk HP.out HNF2.out (Array.getElem?_eq_some_iff.1 HF6.out).1 (Option.some.inj x).symm,fun x=> fresh_blk HP.out HNB2.out (Array.getElem?_eq_some_iff.1 HA6.out).1 (Option.some.inj x).symm⟩
         case measure=> simp [intOf];omega
     · have HH:=hid hb;clear hb;go_wp2_with fail;go_roundw
       case rel=> exact ⟨q+1,_,by omega,by go_num,by rw [HFOLD.out,nd1_yes (by rw [HH.out];simp)];exact HN.out,HBR.out,HAR.out,HFR.out,HNF2.out,HNB2.out⟩
       case measure=> simp [intOf];omega
   · obtain rfl:q=4:=by omega
     obtain ⟨vn4,hN4⟩:∃v,NetAt B wo g (.slice al2 nl2 cl2) v (.slice ab bs.length cb) bn bp bb (l++ [e]) (ns++ [e.name]) (nd4 N e) (nd4 N e) bs bs:=⟨_,hN⟩;obtain ⟨hac4,_⟩:=block_cells hAr;have b0:=hac4 0 _ rfl;have b1:=hac4 1 _ rfl;obtain ⟨hgc4,_⟩:=block_cells hN4.blk;have c5:=hgc4 5 _ rfl;have c6:=hgc4 6 _ rfl;obtain ⟨D3,hown3,hD3⟩:=hN4.mb;have HN:=hid hN4;have HBR:=hid hBr;have HAR:=hid hAr;have HOWN3:=hid hown3;have HD3:=hid hD3;clear hN4 hN hBr hAr hFr hnf hnb hac4 hgc4 hown3 hD3;rcases br_ways e with ⟨h1,h0⟩ | ⟨h1,h2,h0⟩ | ⟨h1,h2,h0⟩
     · skip;have H0:=hid h0;clear h0;go_upto_region 12 with fail
       go_still_tail 11,(by kernel_rfl)
       change wpList _ _ _ _ _ wo.drew;go_upto_region 13 with (at_mapUpdate;go_loud (refine wpList_mapUpdate_own _ rfl _ _ _ 70 rfl 9 3 law Tryz.underlying70 _ bb bs.length D3 rfl HOWN3.out.drew (by unfold maxLen;omega) _ _ _ rfl rfl (WideMaps.keyOf_string_mk Tryz.underlying9 HE.out.name) _ [] (plainElem_int Tryz.underlying3 (WalkArith.wf_i64 ⟨by omega,by omega⟩)) ?_;intro w7 hown7 hgr7));have h7:NetAt B w7 g (.slice al2 nl2 cl2) vn4 (.slice ab bs.length cb) bn bp bb (l++ [e]) (ns++ [e.name]) (nd4 N e) (nd4 N e) bs (bs++ [e.name]):=HN.out.drew.branch hgr7 ⟨_,by rw [List.length_append];exact hown7,mapIs_put HD3.out hb⟩;have hA7:=(hgr7.block _ (Array.getElem?_eq_some_iff.1 HAR.out).1 (by simpa using HN.out.mb.ne_blk HAR.out)).trans HAR.out;have hB7:Below B w w7:=(HBR.out.drew).grown hgr7 (Nat.le_trans hB HBR.out.size) (by intro k x;cases x;exact HN.out.bbB);clear hown7 hgr7 HOWN3 HD3 HAR HBR HN b0 b1 c5 c6;obtain ⟨hgc7,_⟩:=block_cells h7.blk;have c5:=hgc7 5 _ rfl;have b1:=(block_cells hA7).1 1 _ rfl;have ca:∀o:Obj,(w7.alloc o).cell? ⟨g,5,none⟩=some (.slice ab bs.length cb):=fun o=> (World.cell?_alloc_some w7 ⟨g,5,none⟩ o (by rw [c5];rfl)).trans c5
       have n1:=World.new_ne w7 ⟨g,5,none⟩ c5;have n2':=World.new_ne w7 ⟨w.heap.size,1,none⟩ b1;have n3:¬g=w7.heap.size:=by have:=(Array.getElem?_eq_some_iff.1 h7.blk).1;omega
       have n4:¬w.heap.size=w7.heap.size:=by have:=(Array.getElem?_eq_some_iff.1 hA7).1;omega
       have H7:=hid h7;have HB7:=hid hB7;clear h7 hA7 hB7 hgc7
       (try simp only [Act.put])
       go_region_law
        ((refine step_append_own rfl _ _ _ rfl B 9 1 16 i0 (.string ⟨#[]⟩) Tryz.underlying71 hi hz0 hz1 hz2 rfl _ bs.length _ (by exact World.ownsRow.alloc H7.out.ob _) _ 1 1 [.string e.name] rfl rfl rfl (by exact news_new) (by intro u hu;rw [List.mem_singleton.1 hu];rfl) (by decide) (by simp [maxLen];omega) (by omega) (by have:=HB7.out.size;simp;omega) ?_;intro r1 cap1 w3 hown3 hlt3 hgr3;have HG3:=hid (show w7.grownBy w3 (Value.slice ab bs.length cb).ownBlock from (by first | exact grown_alloc (grown_drew1 (grown_either (v:=Value.slice ab bs.length cb) hgr3)) | exact grown_drew1 (grown_alloc (grown_either (v:=Value.slice ab bs.length cb) hgr3)) | exact grown_alloc (grown_either (v:=Value.slice ab bs.length cb) hgr3)));have HK3:=(HG3.out.block g (Array.getElem?_eq_some_iff.1 H7.out.blk).1 (fun x=> H7.out.bg x.symm)).trans H7.out.blk;have fz:=(block_cells HK3).2 5;have z1:=(block_cells HK3).1 5 _ rfl;clear HK3;have HO3:=hid hown3;have HP:=hid (show Pushed w7 w3 (Value.slice ab bs.length cb) r1 from (by first | exact pushed_alloc hgr3 | exact pushed_alloc (drew_or hgr3) | exact pushed_drew (pushed_alloc hgr3)));clear hgr3 hown3))
       all_goals (go_wp2_with fail)
       all_goals go_end0
       all_goals
        have hfin:=H7.out.pushB (s:=e.name) HO3.out HP.out;rw [←brN_yes (bs:=bs) H0.out] at hfin;have hbw:Below B w w3:=HB7.out.grown HG3.out (Nat.le_trans hB HB7.out.size) (fun k x=> (H7.out.ob.lt _ x).1);exact ⟨rfl,hbw.setCell H7.out.gB _,_,_,_,hfin⟩
     · skip;have H0:=hid h0;clear h0;go_upto_region 12 with fail
       go_still_tail 11,(by kernel_rfl)
       change wpList _ _ _ _ _ wo.drew;go_upto_region 13 with (at_mapUpdate;go_loud (refine wpList_mapUpdate_own _ rfl _ _ _ 70 rfl 9 3 law Tryz.underlying70 _ bb bs.length D3 rfl HOWN3.out.drew (by unfold maxLen;omega) _ _ _ rfl rfl (WideMaps.keyOf_string_mk Tryz.underlying9 HE.out.name) _ [] (plainElem_int Tryz.underlying3 (WalkArith.wf_i64 ⟨by omega,by omega⟩)) ?_;intro w7 hown7 hgr7));have h7:NetAt B w7 g (.slice al2 nl2 cl2) vn4 (.slice ab bs.length cb) bn bp bb (l++ [e]) (ns++ [e.name]) (nd4 N e) (nd4 N e) bs (bs++ [e.name]):=HN.out.drew.branch hgr7 ⟨_,by rw [List.length_append];exact hown7,mapIs_put HD3.out hb⟩;have hA7:=(hgr7.block _ (Array.getElem?_eq_some_iff.1 HAR.out).1 (by simpa using HN.out.mb.ne_blk HAR.out)).trans HAR.out;have hB7:Below B w w7:=(HBR.out.drew).grown hgr7 (Nat.le_trans hB HBR.out.size) (by intro k x;cases x;exact HN.out.bbB);clear hown7 hgr7 HOWN3 HD3 HAR HBR HN b0 b1 c5 c6;obtain ⟨hgc7,_⟩:=block_cells h7.blk;have c5:=hgc7 5 _ rfl;have b1:=(block_cells hA7).1 1 _ rfl;have ca:∀o:Obj,(w7.alloc o).cell? ⟨g,5,none⟩=some (.slice ab bs.length cb):=fun o=> (World.cell?_alloc_some w7 ⟨g,5,none⟩ o (by rw [c5];rfl)).trans c5
       have n1:=World.new_ne w7 ⟨g,5,none⟩ c5;have n2':=World.new_ne w7 ⟨w.heap.size,1,none⟩ b1;have n3:¬g=w7.heap.size:=by have:=(Array.getElem?_eq_some_iff.1 h7.blk).1;omega
       have n4:¬w.heap.size=w7.heap.size:=by have:=(Array.getElem?_eq_some_iff.1 hA7).1;omega
       have H7:=hid h7;have HB7:=hid hB7;clear h7 hA7 hB7 hgc7
       (try simp only [Act.put])
       go_region_law
        ((refine step_append_own rfl _ _ _ rfl B 9 1 16 i0 (.string ⟨#[]⟩) Tryz.underlying71 hi hz0 hz1 hz2 rfl _ bs.length _ (by exact World.ownsRow.alloc H7.out.ob _) _ 1 1 [.string e.name] rfl rfl rfl (by exact news_new) (by intro u hu;rw [List.mem_singleton.1 hu];rfl) (by decide) (by simp [maxLen];omega) (by omega) (by have:=HB7.out.size;simp;omega) ?_;intro r1 cap1 w3 hown3 hlt3 hgr3;have HG3:=hid (show w7.grownBy w3 (Value.slice ab bs.length cb).ownBlock from (by first | exact grown_alloc (grown_drew1 (grown_either (v:=Value.slice ab bs.length cb) hgr3)) | exact grown_drew1 (grown_alloc (grown_either (v:=Value.slice ab bs.length cb) hgr3)) | exact grown_alloc (grown_either (v:=Value.slice ab bs.length cb) hgr3)));have HK3:=(HG3.out.block g (Array.getElem?_eq_some_iff.1 H7.out.blk).1 (fun x=> H7.out.bg x.symm)).trans H7.out.blk;have fz:=(block_cells HK3).2 5;have z1:=(block_cells HK3).1 5 _ rfl;clear HK3;have HO3:=hid hown3;have HP:=hid (show Pushed w7 w3 (Value.slice ab bs.length cb) r1 from (by first | exact pushed_alloc hgr3 | exact pushed_alloc (drew_or hgr3) | exact pushed_drew (pushed_alloc hgr3)));clear hgr3 hown3))
       all_goals (go_wp2_with fail)
       all_goals go_end0
       all_goals
        have hfin:=H7.out.pushB (s:=e.name) HO3.out HP.out;rw [←brN_yes (bs:=bs) H0.out] at hfin;have hbw:Below B w w3:=HB7.out.grown HG3.out (Nat.le_trans hB HB7.out.size) (fun k x=> (H7.out.ob.lt _ x).1);exact ⟨rfl,hbw.setCell H7.out.gB _,_,_,_,hfin⟩
     · have H0:=hid h0;clear h0;go_wp2_with fail
       go_end0
       exact ⟨rfl,HBR.out,_,_,_,by rw [brN_no H0.out];exact HN.out⟩
end Go.Proofs.YtaegmlhfecfgkaaGreatDoor
