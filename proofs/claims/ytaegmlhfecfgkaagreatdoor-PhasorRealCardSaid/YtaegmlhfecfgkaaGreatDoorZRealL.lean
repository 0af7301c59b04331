/- a part of the proof of the last text -/
import Derived.Test.YtaegmlhfecfgkaaGreatDoorZSolP
import Derived.Test.YtaegmlhfecfgkaaGreatDoorZPhw5
import Derived.Test.YtaegmlhfecfgkaaGreatDoorZReal0
namespace Go.Proofs.YtaegmlhfecfgkaaGreatDoor
set_option linter.all false
set_option maxHeartbeats 4000000
set_option maxRecDepth 100000
open Go.RowKit
def cutP (x:El):El:={x with ph:=x.ph.tdiv 12 * 12}
theorem ez_one (e:El):∀u∈ez e,u.oneCell'=true:=by intro u hu;simp [ez] at hu;rcases hu with rfl | rfl | rfl | rfl | rfl | rfl | rfl | rfl <;> rfl
theorem cutP_ok {x:El} (h:x.Ok):(cutP x).Ok:=⟨h.name,h.a,h.b,h.c,h.d,h.val⟩
theorem cutP_re {x:El} (h1:x.kind≠2) (h2:x.kind≠3):ReE (cutP x):=⟨h1,h2,by show (x.ph.tdiv 12 * 12) % 12=0;omega⟩
theorem cut_ph {p:Int} (h:-9223372036854775808≤p∧p < 9223372036854775808):IntKind.i64.wrap (p.tdiv 12)=p.tdiv 12∧IntKind.i64.wrap (p.tdiv 12 * 12)=p.tdiv 12 * 12:=by
 have h1:-9223372036854775808≤p.tdiv 12 * 12∧p.tdiv 12 * 12 < 9223372036854775808:=by
  have h2:=Int.tdiv_mul_le;have h3:=Int.mul_tdiv_add_tmod p 12;have h4:=Int.tmod_lt_of_pos p (show (0:Int) < 12 by decide);have h5:(p.tmod 12).natAbs < 12:=by rw [Int.natAbs_tmod];exact Nat.mod_lt _ (by decide)
  rcases Int.le_total 0 p with h6 | h6
  · have:=Int.tmod_nonneg 12 h6;omega
  · have h7:=Int.tmod_nonneg 12 (show 0≤-p by omega);rw [Int.neg_tmod] at h7;omega
 exact ⟨IntWalk.i64_in _ ⟨by omega,by omega⟩,IntWalk.i64_in _ ⟨by omega,by omega⟩⟩
theorem sol_rows {om k m o:Nat} {L:List El} {b:Bool} {V1 V2:List Cx} (hl:∀e∈L,ReE e) (hk:k+m≤szL L) (h:solV om k m (solS b L om)=(o,V1,V2)):(∀z∈V1,fz z.2=true)∧∀z∈V2,fz z.2=true:=by
 unfold solV at h
 split at h
 · obtain ⟨_,h2⟩:=Prod.mk.inj h;obtain ⟨rfl,rfl⟩:=Prod.mk.inj h2;exact ⟨fun z hz=> (by cases hz),fun z hz=> (by cases hz)⟩
 · rename_i x hx;have hz:=sol_z hl (show solS b L om=(some x,(solS b L om).2) from Prod.ext hx rfl);obtain ⟨_,h2⟩:=Prod.mk.inj h;obtain ⟨rfl,rfl⟩:=Prod.mk.inj h2;refine ⟨fun z hm=> ?_,fun z hm=> ?_⟩
   · obtain ⟨i,hi,rfl⟩:=List.mem_map.1 hm;have:=List.mem_range.1 hi;exact hz i (by omega)
   · obtain ⟨i,hi,rfl⟩:=List.mem_map.1 hm;have:=List.mem_range.1 hi;exact hz (k+i) (by omega)
theorem row_z {X V:List Cx} (h:X.map ck=V) (hz:∀z∈V,fz z.2=true):∀z∈X,(FloatKind.f64.format.order z.2 0 !=some .eq)=false:=fun z hm=> by
 have h1:=hz (ck z) (by rw [←h];exact List.mem_map.2 ⟨z,hm,rfl⟩);have h2:ford z.2 0=some .eq:=fz_ord (fz_fc h1);show (ford z.2 0 !=some .eq)=false;rw [h2];rfl
theorem infoCsR:(Tryz.prog.info? 33).map (fun i=> (i.zero,i.size,i.bytes))=some (some (.slice none 0 0),1,24):=by kernel_rfl
theorem real_walk (v:Value) (l:List El) (om:Nat) (w:World) (hlv:∀w':World,Below w.heap.size w w'→Calls Tryz.prog 5 #[] w' fun e w''=> e=.returned (.bool true)∧Below w'.heap.size w' w'')
 (hv:InSl w 8 v l.length (l.flatMap ez)) (hok:∀e∈l,e.Ok∧-9223372036854775808≤e.ph∧e.ph < 9223372036854775808):
 Calls Tryz.prog 3 #[v,.int .u64 om] w fun e w'=> e=.returned (.bool true)∧Below w.heap.size w w':=by
 have b2:=frombits_law;obtain ⟨a0,c0,rfl⟩:=hv.form;obtain ⟨iu,hiu,hu0,hu1,hu2⟩:=info_parts infoEz;obtain ⟨iC,hiC,hC0,hC1,hC2⟩:=info_parts infoC;obtain ⟨iS,hiS,hS0,hS1,hS2⟩:=info_parts infoCsR;have HV:=hid hv;have HBW:=hid (Below.refl w.heap.size w);have HLV:=hid hlv;have HOK:=hid hok;clear hv hok hlv;go_enter Tryz.func3,Tryz.ntmps3;go_upto_region 3 with (go_at_call 5;refine (HLV.out _ HBW.out).mono ?_;rintro e w1 ⟨rfl,hb⟩;have HB1:=hid (below_next HBW.out hb);clear hb);clear HBW;go_upto_region 4 with fail;go_wp2
 go_loopw [5,6] (fun s i wr=> ∃ (k:Nat) (L:List El),k≤l.length∧k≤40∧i=.int .i64 k∧L.length≤k∧wr.ownsRow w.heap.size 26 8 s L.length (L.flatMap ez)∧(∀e∈L,e.Ok∧ReE e)∧Below w.heap.size w wr) (fun _ i _=> 40 - (intOf i).toNat)
 case atStart=> exact ⟨0, [],by omega,by omega,rfl,Nat.le_refl _,World.ownsRow_nil _ _ _ _,(fun e he=> by cases he),HB1.out⟩
 case round=>
  obtain ⟨k,L,hk,hk40,rfl,hLk,hown,hL,hb⟩:=hrel;have HO:=hid hown;have HB:=hid hb;have HL:=hid hL;have HLK:=hid hLk;clear hown hb hL hLk
  by_cases hlt:k < l.length∧k < 40
  · obtain ⟨hlt1,hlt2⟩:=hlt;obtain ⟨g,o,x,hidx,hg,hx,hcell⟩:=InSl.atF Tryz.underlying22 hiu hu1 ez_len (HV.out.below HB.out (Nat.le_refl _)) rfl hlt1;have c0:=hcell 0 _ rfl;have c1:=hcell 1 _ rfl;have c2:=hcell 2 _ rfl;have c3:=hcell 3 _ rfl;have c4:=hcell 4 _ rfl;have c5:=hcell 5 _ rfl;have c6:=hcell 6 _ rfl;have c7:=hcell 7 _ rfl;rw [Nat.add_zero] at c0;have HXX:=hid (HOK.out x (List.mem_of_getElem? hx));clear hx hcell;have hph:=cut_ph HXX.out.2;obtain ⟨hp1,hp2⟩:=hph;have hl1:(k:Int) < (l.length:Int):=by omega
    have hl2:(k:Int) < 40:=by omega
    rcases (show x.kind=2∨(x.kind≠2∧x.kind=3)∨(x.kind≠2∧x.kind≠3) by omega) with hk2 | ⟨hk2,hk3⟩ | ⟨hk2,hk3⟩
    · have q2:(x.kind !=2)=false:=by rw [hk2];rfl
      clear hk2;have HB2:=hid (below_next HB.out ((Below.refl wr.heap.size wr).alloc (Nat.le_refl _) (.cells #[.int .u8 x.kind,.string x.name,.string x.a,.string x.b,.string x.c,.string x.d,.int .u64 x.val,.int .i64 x.ph] 26)));have HO2:=hid (HO.out.alloc (.cells #[.int .u8 x.kind,.string x.name,.string x.a,.string x.b,.string x.c,.string x.d,.int .u64 x.val,.int .i64 x.ph] 26));go_wp2;go_roundw
      case rel=> exact ⟨k+1,L,by omega,by omega,by go_num,by have:=HLK.out;omega,HO2.out,HL.out,HB2.out⟩
      case measure=> simp [intOf];omega
    · have q2:(x.kind !=2)=true:=by simpa using hk2
      have q3:(x.kind !=3)=false:=by rw [hk3];rfl
      clear hk2 hk3;have HB2:=hid (below_next HB.out ((Below.refl wr.heap.size wr).alloc (Nat.le_refl _) (.cells #[.int .u8 x.kind,.string x.name,.string x.a,.string x.b,.string x.c,.string x.d,.int .u64 x.val,.int .i64 x.ph] 26)));have HO2:=hid (HO.out.alloc (.cells #[.int .u8 x.kind,.string x.name,.string x.a,.string x.b,.string x.c,.string x.d,.int .u64 x.val,.int .i64 x.ph] 26));go_wp2;go_roundw
      case rel=> exact ⟨k+1,L,by omega,by omega,by go_num,by have:=HLK.out;omega,HO2.out,HL.out,HB2.out⟩
      case measure=> simp [intOf];omega
    · have q2:(x.kind !=2)=true:=by simpa using hk2
      have q3:(x.kind !=3)=true:=by simpa using hk3
      have HRX:=hid (cutP_re hk2 hk3);clear hk2 hk3;have HO2:=hid (HO.out.alloc (.cells #[.int .u8 x.kind,.string x.name,.string x.a,.string x.b,.string x.c,.string x.d,.int .u64 x.val,.int .i64 x.ph] 26));have HB2:=hid (below_next HB.out ((Below.refl wr.heap.size wr).alloc (Nat.le_refl _) (.cells #[.int .u8 x.kind,.string x.name,.string x.a,.string x.b,.string x.c,.string x.d,.int .u64 x.val,.int .i64 x.ph] 26)));have HS2:=hid (heap_alloc_new wr (.cells #[.int .u8 x.kind,.string x.name,.string x.a,.string x.b,.string x.c,.string x.d,.int .u64 x.val,.int .i64 x.ph] 26));go_upto_region 8 with fail;generalize wr.alloc (.cells #[.int .u8 x.kind,.string x.name,.string x.a,.string x.b,.string x.c,.string x.d,.int .u64 x.val,.int .i64 x.ph] 26)=w2 at *;have HNE:=hid (show u5.ownBlock≠some wr.heap.size from fun e=> Nat.lt_irrefl _ (HO.out.lt _ e).2);have HGE:=hid (show w.heap.size≤wr.heap.size from HB.out.size);clear HO;generalize wr.heap.size=ge at *;have hsc:=block_cells HS2.out;have d0:=hsc.1 0 _ rfl;have d1:=hsc.1 1 _ rfl;have d2:=hsc.1 2 _ rfl;have d3:=hsc.1 3 _ rfl;have d4:=hsc.1 4 _ rfl;have d5:=hsc.1 5 _ rfl;have d6:=hsc.1 6 _ rfl;have d7:=hsc.1 7 _ rfl;have df:=hsc.2 7;clear hsc c0 c1 c2 c3 c4 c5 c6 c7;go_upto_region 10 with fail;have HB3:=hid (show Below w.heap.size w (w2.setCell ⟨ge,7,none⟩ (.int .i64 (x.ph.tdiv 12 * 12))) from HB2.out.setCell (p:=⟨ge,7,none⟩) HGE.out _);have HO3:=hid (HO2.out.kept (set1_grown w2 ge 7 (.int .i64 (x.ph.tdiv 12 * 12))) (.inr HNE.out));have HS3:=hid (show (w2.setCell ⟨ge,7,none⟩ (.int .i64 (x.ph.tdiv 12 * 12))).heap[ge]? =some (.cells #[.int .u8 x.kind,.string x.name,.string x.a,.string x.b,.string x.c,.string x.d,.int .u64 x.val,.int .i64 (x.ph.tdiv 12 * 12)] 26 (0,0)) from blk_set1 HS2.out _);clear d0 d1 d2 d3 d4 d5 d6 d7 df
      generalize (w2.setCell ⟨ge,7,none⟩ (.int .i64 (x.ph.tdiv 12 * 12)))=w3 at *;have hsc:=block_cells HS3.out;have d0:=hsc.1 0 _ rfl;have d1:=hsc.1 1 _ rfl;have d2:=hsc.1 2 _ rfl;have d3:=hsc.1 3 _ rfl;have d4:=hsc.1 4 _ rfl;have d5:=hsc.1 5 _ rfl;have d6:=hsc.1 6 _ rfl;have d7:=hsc.1 7 _ rfl;clear hsc;have hsz:=HB3.out.size;have hown:=HO3.out;go_wp2_with (refine wpList_push2 rfl rfl _ rfl _ _ _ rfl rfl w.heap.size 26 8 104 iu (.agg #[.int .u8 0,.string ⟨#[]⟩,.string ⟨#[]⟩,.string ⟨#[]⟩,.string ⟨#[]⟩,.string ⟨#[]⟩,.int .u64 0,.int .i64 0]) Tryz.underlying22 hiu hu0 hu1 hu2 rfl (by decide) (by decide) _ L.length _ hown hsz (.agg #[.int .u8 x.kind,.string x.name,.string x.a,.string x.b,.string x.c,.string x.d,.int .u64 x.val,.int .i64 (x.ph.tdiv 12 * 12)]) rfl rfl (ez_one (cutP x)) rfl rfl (by have:=HLK.out;simp [maxLen];omega) (by have:=HLK.out;omega) ?_;intro g1 cap1 w4 hown1 hg1 htwo);go_roundw
      case rel=>
       refine ⟨k+1,L++ [cutP x],by omega,by omega,by go_num,by have:=HLK.out;simp;omega,?_,?_,?_⟩
       · rw [flat_snoc,List.length_append];exact hown1
       · intro e he;rcases List.mem_append.1 he with h | h
         · exact HL.out e h
         · obtain rfl:=List.mem_singleton.1 h;exact ⟨cutP_ok HXX.out.1,HRX.out⟩
       · rcases htwo with ⟨h1,h2⟩ | ⟨_,h2⟩
         · exact below_grown HB3.out h2 fun _ e=> by cases e;exact (hown.lt _ h1).1
         · exact below_grown HB3.out h2 fun _ e=> by cases e
      case measure=> simp [intOf];omega
  · have HOW:=hid (IsSl.of_own HO.out);obtain ⟨ao,co,rfl⟩:=HOW.out.form;clear HO;rcases (show (¬(k:Int) < (l.length:Int))∨((k:Int) < (l.length:Int)∧¬(k:Int) < 40) by omega) with hl1 | ⟨hl1,hl2⟩
    all_goals
     clear hlt hk hk40;go_upto_region 12 with (go_at_call 6;refine (read20_any _ L _ (InSl.of HOW.out) (fun e he=> (HL.out e he).1)).mono ?_;rintro e w5 ⟨p,q,b,rfl,hb,hgd⟩;have HB2:=hid (below_next HB.out hb);have HGD:=hid hgd;clear hgd;clear hb);clear HB HOW;cases b
     · go_wp2
       (try simp only [Exit.inBlock,Exit.then])
       (try rw [Exit.noGoto_ret])
       go_ret;exact ⟨rfl,HB2.out⟩
     obtain ⟨h40,hob,hsz,hn,hr,hpn,hqn⟩:=HGD.out rfl;have HNG:=hid (netg_of hob (fun e he=> (HL.out e he).1));have HN:=hid hn;have HPN:=hid hpn;have HK1:=hid (show (nds L).length≤1000 by unfold szL at hsz;omega);have HK2:=hid (show (brs L).length≤1000 by unfold szL at hsz;omega);obtain ⟨o9,V1,V2,hT⟩:∃o V1 V2,solV om (nds L).length (brs L).length (solS false L om)=(o,V1,V2):=⟨_,_,_,rfl⟩;obtain ⟨f1,f2,hF⟩:∃f1 f2,(solS false L om).2=(f1,f2):=⟨_,_,rfl⟩;have HL1:=hid (show V1.length≤1000∧V2.length≤1000 by have h:=@solV_len om (nds L).length (brs L).length (solS false L om);rw [hT] at h;exact ⟨Nat.le_trans h.1 HK1.out,Nat.le_trans h.2 HK2.out⟩);have HZ:=hid (sol_rows (fun e he=> (HL.out e he).2) (by unfold szL;omega) hT);have HT:=hid hT;have HF:=hid hF;clear hT hF h40 hob hsz hn hr hpn hqn HGD;go_upto_region 15 with (go_at_call 7;refine (((psolve_any p L om _ HN.out HNG.out).mono fun _ _ h=> (solU_P HK1.out HK2.out h).v (o:=o9) (V1:=V1) (V2:=V2) (f1:=f1) (f2:=f2) (by rw [HPN.out];exact HT.out) (by rw [HPN.out];exact HF.out))).mono ?_;rintro e w6 ⟨a2,a3,c2,c3,X1,X2,rfl,hx1,hx2,hw1,hw2,_,hb⟩;have HB3:=hid (below_next HB2.out hb);have HX1:=hid hx1;have HX2:=hid hx2;have HR1:=hid (row_z hx1 HZ.out.1);have HR2:=hid (row_z hx2 HZ.out.2);have HA1:=hid (IsSl.of_own hw1);have HA2:=hid (IsSl.of_own hw2);clear hx1 hx2 hw1 hw2;clear hb);clear HB2 HN;have HA14:=hid (HA1.out.below ((Below.refl w6.heap.size w6).alloc (Nat.le_refl _) (.cells #[.float .f64 o9,.slice a2 X1.length c2,.slice a3 X2.length c3] 35)) (Nat.le_refl _));have HA24:=hid (HA2.out.below ((Below.refl w6.heap.size w6).alloc (Nat.le_refl _) (.cells #[.float .f64 o9,.slice a2 X1.length c2,.slice a3 X2.length c3] 35)) (Nat.le_refl _));have HB4:=hid (below_next HB3.out ((Below.refl w6.heap.size w6).alloc (Nat.le_refl _) (.cells #[.float .f64 o9,.slice a2 X1.length c2,.slice a3 X2.length c3] 35)))
     have H7:=hid (heap_alloc_new w6 (.cells #[.float .f64 o9,.slice a2 X1.length c2,.slice a3 X2.length c3] 35));have HS7:=hid (show (w6.alloc (.cells #[.float .f64 o9,.slice a2 X1.length c2,.slice a3 X2.length c3] 35)).heap.size=w6.heap.size+1 by simp);clear HA1 HA2 HB3;generalize w6.alloc (.cells #[.float .f64 o9,.slice a2 X1.length c2,.slice a3 X2.length c3] 35)=w7 at *;have HA15:=hid (HA14.out.below ((Below.refl w7.heap.size w7).alloc (Nat.le_refl _) (.cells #[.int .i64 f1,.int .i64 f2] 38)) (Nat.le_refl _));have HA25:=hid (HA24.out.below ((Below.refl w7.heap.size w7).alloc (Nat.le_refl _) (.cells #[.int .i64 f1,.int .i64 f2] 38)) (Nat.le_refl _));have H75:=hid (heap_later2 ((Below.refl w7.heap.size w7).alloc (Nat.le_refl _) (.cells #[.int .i64 f1,.int .i64 f2] 38)) H7.out);have HB5:=hid (below_next HB4.out ((Below.refl w7.heap.size w7).alloc (Nat.le_refl _) (.cells #[.int .i64 f1,.int .i64 f2] 38)));have H8:=hid (heap_alloc_new w7 (.cells #[.int .i64 f1,.int .i64 f2] 38));rw [HS7.out] at H8;clear HA14 HA24 H7 HB4;generalize w7.alloc (.cells #[.int .i64 f1,.int .i64 f2] 38)=w8 at *;clear HS7;generalize w6.heap.size=ga at *;generalize ga+1=gb at *;have hsc:=block_cells H8.out;have fa0:=hsc.1 0 _ rfl;have fa1:=hsc.1 1 _ rfl;clear hsc;have hsc:=block_cells H75.out;have sa0:=hsc.1 0 _ rfl;have sa1:=hsc.1 1 _ rfl;have sa2:=hsc.1 2 _ rfl;clear hsc;rcases fault_ways (f1,f2) with hz | ⟨_,hw⟩
     rotate_left
     · rcases hw with q1 | ⟨q1,q0,q2⟩
       all_goals
        dsimp only at q1
        (try dsimp only at q0 q2)
        (try subst q0)
        go_wp2
        (try simp only [Exit.inBlock,Exit.then])
        (try rw [Exit.noGoto_ret])
        go_ret;exact ⟨rfl,HB5.out⟩
     obtain ⟨rfl,rfl⟩:=Prod.mk.inj hz;clear hz;obtain ⟨VV,hVV⟩:∃VV:Nat→Value,VV=fun j=> if j=0 then .slice a2 X1.length c2 else .slice a3 X2.length c3:=⟨_,rfl⟩
     obtain ⟨XX,hXX⟩:∃XX:Nat→List Cx,XX=fun j=> if j=0 then X1 else X2:=⟨_,rfl⟩
     have hb9:=(Below.refl w8.heap.size w8).alloc (Nat.le_refl _) (.cells #[.slice a2 X1.length c2,.slice a3 X2.length c3] 33);have HB9:=hid (below_next HB5.out hb9);have HLS:=hid (show IsSl (w8.alloc (.cells #[.slice a2 X1.length c2,.slice a3 X2.length c3] 33)) 1 (.slice (some ⟨w8.heap.size,0,none⟩) 2 2) 2 ((List.range 2).map VV) from ⟨rfl,.inr ⟨w8.heap.size,0,2,rfl,Nat.le_refl _,by simp,fun j hj=> by
      rw [Nat.zero_add,cell_of_row _ _ _ #[.slice a2 X1.length c2,.slice a3 X2.length c3] 33 (0,0) (heap_alloc_new w8 _),hVV];rcases (show j=0∨j=1 by omega) with rfl | rfl <;> rfl⟩⟩)
     have HRW:=hid (show∀j,j < 2→(∃a c,VV j=.slice a (XX j).length c)∧IsSl (w8.alloc (.cells #[.slice a2 X1.length c2,.slice a3 X2.length c3] 33)) 1 (VV j) (XX j).length ((XX j).map mkC)∧(∀z∈XX j,(FloatKind.f64.format.order z.2 0 !=some .eq)=false)∧(XX j).length≤1000 from fun j hj=> by
      rw [hVV,hXX];rcases (show j=0∨j=1 by omega) with rfl | rfl
      · exact ⟨⟨_,_,rfl⟩,HA15.out.below hb9 (Nat.le_refl _),HR1.out,by have h1:=congrArg List.length HX1.out;simp only [List.length_map] at h1;have:=HL1.out.1;exact h1 ▸ this⟩
      · exact ⟨⟨_,_,rfl⟩,HA25.out.below hb9 (Nat.le_refl _),HR2.out,by have h1:=congrArg List.length HX2.out;simp only [List.length_map] at h1;have:=HL1.out.2;exact h1 ▸ this⟩)
     clear hb9 hVV hXX;go_wp2;generalize w8.alloc (.cells #[.slice a2 X1.length c2,.slice a3 X2.length c3] 33)=w9 at *;generalize w8.heap.size=gl at *
     go_loopw [73] (fun j wr=> ∃k:Nat,k≤2∧j=.int .i64 k∧wr=w9) (fun j _=> 2 - (intOf j).toNat)
     case atStart=> exact ⟨0,by omega,rfl,rfl⟩
     case round=>
      obtain ⟨k,hk,rfl,rfl⟩:=hrel
      by_cases hlt:k < 2
      · obtain ⟨⟨ar,cr,hV⟩,hrow,hz,hx9⟩:=HRW.out k hlt;have HX9:=hid hx9;clear hx9;obtain ⟨g0,o0,hidx0,hg0,hcell0,_⟩:=HLS.out.atV Tryz.underlying42 hiS hS1 hlt hV;rw [hV] at hrow;have HRO:=hid hrow;have HZR:=hid hz;clear hrow hz hV;obtain ⟨wo,hwo⟩:∃wo:World,wo=wr:=⟨_,rfl⟩;subst hwo;go_wp2
        go_loopw [15] (fun i wr=> ∃q:Nat,q≤ (XX k).length∧i=.int .i64 q∧wr=wo) (fun i _=> (XX k).length - (intOf i).toNat)
        case atStart=> exact ⟨0,Nat.zero_le _,rfl,rfl⟩
        case round=>
         obtain ⟨q,hq,rfl,rfl⟩:=hrel
         by_cases hql:q < (XX k).length
         · have hq9:(q:Int) < 1000:=by have:=HX9.out;omega
           obtain ⟨g1,o1,x1,hidx1,hg1,hcell1,hx1⟩:=IsSl.at1 Tryz.underlying33 hiC hC1 HRO.out hql;obtain ⟨z,hz0,rfl⟩:=map_getElem? hx1;have hzz:=HZR.out z (List.mem_of_getElem? hz0);clear hx1 hz0;go_wp2;go_roundw
           case rel=> exact ⟨q+1,by omega,by go_num,by trivial⟩
           case measure=> simp [intOf];omega
         · go_wp2;go_roundw
           case rel=> exact ⟨k+1,by omega,by go_num,by trivial⟩
           case measure=> simp [intOf];omega
      · go_wp2
        (try simp only [Exit.inBlock,Exit.then])
        (try rw [Exit.noGoto_ret])
        go_ret;exact ⟨rfl,HB9.out⟩
end Go.Proofs.YtaegmlhfecfgkaaGreatDoor
