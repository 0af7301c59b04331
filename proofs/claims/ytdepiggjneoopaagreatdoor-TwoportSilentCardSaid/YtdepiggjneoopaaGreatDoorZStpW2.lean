/- a part of the proof of the last text -/
import Derived.Test.YtdepiggjneoopaaGreatDoorZMStpW1
namespace Go.Proofs.YtdepiggjneoopaaGreatDoor
set_option linter.all false
set_option maxHeartbeats 4000000
set_option maxRecDepth 100000
open Go.RowKit
structure BdAt (wb w:World) (g:Nat) (p:Value) (l:List El) (s:StS):Prop where
 net:NN wb p l
 bel:Below wb.heap.size wb w
 far:wb.heap.size≤g
 brd:BoardR w g p (nds l).length (szL l) s
theorem BdAt.below {wb w w':World} {g:Nat} {p:Value} {l:List El} {s:StS} (h:BdAt wb w g p l s) (hb:Below w.heap.size w w'):BdAt wb w' g p l s:=
 ⟨h.net,h.bel.trans (hb.mono h.bel.size),h.far,h.brd.below hb⟩
theorem BdAt.next {wb w w':World} {g:Nat} {p:Value} {l:List El} {s s':StS} (h:BdAt wb w g p l s) (hb:BoardR w' g p (nds l).length (szL l) s') (hg:w.grownBy w' (some g)):BdAt wb w' g p l s':=
 ⟨h.net,h.bel.grown hg h.bel.size (fun k e=> by cases e;exact h.far),h.far,hb⟩
theorem call_flip {P:Program} {f:FuncId} {vs:Array Value} {w:World} {r:Ending} (h:Calls P f vs w fun e w'=> e=r∧w=w'):Calls P f vs w fun e w'=> e=r∧w'=w:=
 h.mono fun _ _ ⟨h1,h2⟩=> ⟨h1,h2.symm⟩
theorem szL_ge (l:List El):(nds l).length≤szL l:=by unfold szL;omega
theorem zCt (l:List El) (s:ByteArray):rowI l s < szL l:=by have:=rowI_lt l s;have:=szL_ge l;omega
theorem zDr (wb w:World) (g:Nat) (p:Value) (l:List El) (s:StS) (t:ByteArray) (h:BdAt wb w g p l s) (ht:t.size≤maxLen):
 Calls Tryz.prog 170 #[.pointer (some ⟨g,0,none⟩),.string t] w fun e w'=> e=.returned (.int .i64 (rowI l t))∧w'=w:=by
 have HN:=hid (h.net.below h.bel (Nat.le_refl _));obtain ⟨M,hM⟩:=h.brd;have c0:=(zAb hM.2.1).1 0 _ board_0;clear h hM
 by_cases hh:has (nds l) t=true
 · have HR:=hid (show rowI l t=plI (nds l) t by unfold rowI;rw [if_pos hh]);go_enter Tryz.func170,Tryz.ntmps170;go_wp2_with (go_at_call 74;refine (zCy _ l t _ HN.out ht).mono ?_;rintro e w1 ⟨rfl,rfl⟩;rw [hh])
   (try rw [Exit.noGoto_ret])
   go_ret;exact ⟨by rw [HR.out];rfl,rfl⟩
 · have HR:=hid (show rowI l t=-1 by unfold rowI;rw [if_neg hh]);have hf:has (nds l) t=false:=by simpa using hh
   clear hh;go_enter Tryz.func170,Tryz.ntmps170;go_wp2_with (go_at_call 74;refine (zCy _ l t _ HN.out ht).mono ?_;rintro e w1 ⟨rfl,rfl⟩;rw [hf])
   (try rw [Exit.noGoto_ret])
   go_ret;exact ⟨by rw [HR.out];rfl,rfl⟩
theorem pl_ge (l:List ByteArray) (t:ByteArray):0≤plI l t:=by unfold plI;split <;> omega
theorem pl_lt {l:List ByteArray} {t:ByteArray} (h:has l t=true):plI l t < l.length:=by
 unfold plI;rw [if_pos h];have:l.findIdx (fun u=> u.toList==t.toList) < l.length:=by
  rw [List.findIdx_lt_length];unfold has at h
  simpa using h
 omega
theorem br_lt {l:List El} {t:ByteArray} (h:has (brs l) t=true):brI l t < szL l:=by
 have:=pl_lt h;unfold brI szL;omega
theorem bpair_any (wb w:World) (g:Nat) (p:Value) (l:List El) (s:StS) (x:El) (y1 y2:Nat) (h:BdAt wb w g p l s) (hx:x.Ok) (hn:szL l≤64):
 Calls Tryz.prog 150 #[.pointer (some ⟨g,0,none⟩),.agg #[.int .u8 x.kind,.string x.name,.string x.a,.string x.b,.string x.c,.string x.d,.float .f64 x.val,.int .i64 x.ph],.complex .f64 y1 y2] w (RetBd g p (nds l).length (szL l) ((zFf (rowI l x.a) (rowI l x.b) (fc y1,fc y2)).foldl (st1 (szL l)) s) w):=by
 have HX:=hid hx;have bS:=hid (heap_alloc_new w (.cells #[.int .u8 x.kind,.string x.name,.string x.a,.string x.b,.string x.c,.string x.d,.float .f64 x.val,.int .i64 x.ph] 35));have cN:=(Below.refl w.heap.size w).alloc (Nat.le_refl _) (.cells #[.int .u8 x.kind,.string x.name,.string x.a,.string x.b,.string x.c,.string x.d,.float .f64 x.val,.int .i64 x.ph] 35);have aJ:=hid (h.below cN);have HG:=hid (zAe cN (some g));clear h hx cN;go_enter Tryz.func150,Tryz.ntmps150;go_upto_region 1 with fail;generalize w.alloc (.cells #[.int .u8 x.kind,.string x.name,.string x.a,.string x.b,.string x.c,.string x.d,.float .f64 x.val,.int .i64 x.ph] 35)=w1 at *;have aE:=zAb bS.out;have e2:=aE.1 2 _ rfl;have e3:=aE.1 3 _ rfl;clear aE bS
 go_still_tail 8,(by kernel_rfl)
 still_call (zDr wb _ g p l s x.a (aJ.out.below (Below.refl _ _).drew) HX.out.a)
 repeat still_step
 still_call (zDr wb _ g p l s x.b (aJ.out.below (Below.refl _ _).drew) HX.out.b)
 repeat still_step
 refine wpStill_nil ?_;change wpList _ _ _ _ _ w1.drew;have aN:=hid (aJ.out.below (Below.refl _ _).drew);have dS:=hid (zAf HG.out (zAe (Below.refl _ _).drew (some g)));clear aJ HG;have aJ:=aN;have HG:=dS;clear aN dS;generalize w1.drew=w2 at *;go_upto_region 3 with (go_at_call 171;refine (zFu g _ _ p _ (rowI l x.a) (rowI l x.a) y1 y2 _ aJ.out.brd hn (by have:=zCt l x.a;omega) (by have:=zCt l x.a;omega)).mono ?_;rintro e wn1 ⟨rfl,cS,aF⟩;have aN:=hid (aJ.out.next cS aF);have dS:=hid (zAf HG.out aF);clear aJ HG cS aF);have aJ:=aN;have HG:=dS;clear aN dS;go_upto_region 4 with (go_at_call 171;refine (zFu g _ _ p _ (rowI l x.b) (rowI l x.b) y1 y2 _ aJ.out.brd hn (by have:=zCt l x.b;omega) (by have:=zCt l x.b;omega)).mono ?_;rintro e wn2 ⟨rfl,cS,aF⟩;have dM:=hid (aJ.out.next cS aF);have eM:=hid (zAf HG.out aF);clear aJ HG cS aF);have aJ:=dM;have HG:=eM;clear dM eM;go_upto_region 5 with (go_at_call 172;refine (zFt g _ _ p _ (rowI l x.a) (rowI l x.b) y1 y2 _ aJ.out.brd hn (by have:=zCt l x.a;omega) (by have:=zCt l x.b;omega)).mono ?_;rintro e wn3 ⟨rfl,cS,aF⟩;have bE:=hid (aJ.out.next cS aF);have eL:=hid (zAf HG.out aF);clear aJ HG cS aF);have aJ:=bE;have HG:=eL;clear bE eL;go_wp2_with (go_at_call 172;refine (zFt g _ _ p _ (rowI l x.b) (rowI l x.a) y1 y2 _ aJ.out.brd hn (by have:=zCt l x.b;omega) (by have:=zCt l x.a;omega)).mono ?_;rintro e wn4 ⟨rfl,cS,aF⟩;have bP:=hid (aJ.out.next cS aF);have mP:=hid (zAf HG.out aF);clear aJ HG cS aF);have aJ:=bP;have HG:=mP;clear bP mP
 (try rw [Exit.noGoto_ret])
 go_end0
 exact ⟨rfl,aJ.out.brd,HG.out⟩
theorem bnone_any (wb w:World) (g:Nat) (p:Value) (l:List El) (s:StS) (x:El) (y1 y2:Nat) (h:BdAt wb w g p l s):
 Calls Tryz.prog 149 #[.pointer (some ⟨g,0,none⟩),.agg #[.int .u8 x.kind,.string x.name,.string x.a,.string x.b,.string x.c,.string x.d,.float .f64 x.val,.int .i64 x.ph],.complex .f64 y1 y2] w (RetBd g p (nds l).length (szL l) s w):=by
 have cN:=(Below.refl w.heap.size w).alloc (Nat.le_refl _) (.cells #[.int .u8 x.kind,.string x.name,.string x.a,.string x.b,.string x.c,.string x.d,.float .f64 x.val,.int .i64 x.ph] 35);have aJ:=hid (h.below cN);have HG:=hid (zAe cN (some g));clear h cN;go_enter Tryz.func149,Tryz.ntmps149;go_wp2
 (try rw [Exit.noGoto_ret])
 go_end0
 exact ⟨rfl,aJ.out.brd,HG.out⟩
theorem bbranch_any (wb w:World) (g:Nat) (p:Value) (l:List El) (s:StS) (x:El) (y1 y2:Nat) (h:BdAt wb w g p l s) (hx:x.Ok) (hn:szL l≤64) (hbr:has (brs l) x.name=true):
 Calls Tryz.prog 151 #[.pointer (some ⟨g,0,none⟩),.agg #[.int .u8 x.kind,.string x.name,.string x.a,.string x.b,.string x.c,.string x.d,.float .f64 x.val,.int .i64 x.ph],.complex .f64 y1 y2] w (RetBd g p (nds l).length (szL l) ((stBr (rowI l x.a) (rowI l x.b) (brI l x.name)).foldl (st1 (szL l)) s) w):=by
 have HX:=hid hx;have bS:=hid (heap_alloc_new w (.cells #[.int .u8 x.kind,.string x.name,.string x.a,.string x.b,.string x.c,.string x.d,.float .f64 x.val,.int .i64 x.ph] 35));have cN:=(Below.refl w.heap.size w).alloc (Nat.le_refl _) (.cells #[.int .u8 x.kind,.string x.name,.string x.a,.string x.b,.string x.c,.string x.d,.float .f64 x.val,.int .i64 x.ph] 35);have aJ:=hid (h.below cN);have HG:=hid (zAe cN (some g));have gA:=hid (br_lt hbr);clear h hx cN hbr;go_enter Tryz.func151,Tryz.ntmps151;go_upto_region 1 with fail;generalize w.alloc (.cells #[.int .u8 x.kind,.string x.name,.string x.a,.string x.b,.string x.c,.string x.d,.float .f64 x.val,.int .i64 x.ph] 35)=w1 at *;have aE:=zAb bS.out;have e2:=aE.1 2 _ rfl;have e3:=aE.1 3 _ rfl;clear aE
 go_still_tail 8,(by kernel_rfl)
 still_call (zDr wb _ g p l _ x.a (aJ.out.below (Below.refl _ _).drew) HX.out.a)
 repeat still_step
 still_call (zDr wb _ g p l _ x.b (aJ.out.below (Below.refl _ _).drew) HX.out.b)
 repeat still_step
 refine wpStill_nil ?_;clear e2 e3;change wpList _ _ _ _ _ w1.drew;have aN:=hid (aJ.out.below (Below.refl _ _).drew);have dS:=hid (zAf HG.out (zAe (Below.refl _ _).drew (some g)));clear aJ HG;have aJ:=aN;have HG:=dS;clear aN dS;have mT:=hid (zAs (Below.refl _ _).drew bS.out);clear bS;have bS:=mT;clear mT;generalize w1.drew=w2 at *;go_upto_region 2 with fail;have aE:=zAb bS.out;have e1:=aE.1 1 _ rfl;clear aE;obtain ⟨M,hM⟩:=aJ.out.brd;have bJ:=zAb hM.2.1;have c0:=bJ.1 0 _ board_0;clear bJ hM
 go_still_tail 11,(by kernel_rfl)
 still_call (call_flip (nbranch_any _ l x.name _ (aJ.out.net.below aJ.out.bel.drew (Nat.le_refl _)) HX.out.name))
 repeat still_step
 refine wpStill_nil ?_;clear e1 c0 bS;change wpList _ _ _ _ _ w2.drew;have aN:=hid (aJ.out.below (Below.refl _ _).drew);have dS:=hid (zAf HG.out (zAe (Below.refl _ _).drew (some g)));clear aJ HG;have aJ:=aN;have HG:=dS;clear aN dS;generalize w2.drew=w3 at *;go_upto_region 3 with fail;obtain ⟨M,hM⟩:=aJ.out.brd;have bJ:=zAb hM.2.1;have c1:=bJ.1 1 _ board_1;clear bJ hM;have qN:IntKind.i64.wrap (((nds l).length:Int)+plI (brs l) x.name)=brI l x.name:=by
  have h1:=gA.out;have h2:=pl_ge (brs l) x.name;rw [IntWalk.i64_in _ ⟨by omega,by unfold brI at h1;omega⟩]
  rfl
 go_upto_region 4 with fail;clear c1 qN
 go_upto_region 5 with (go_at_call 171;refine (zFu g _ _ p _ (rowI l x.a) (brI l x.name) 4607182418800017408 0 _ aJ.out.brd hn (by have:=zCt l x.a;omega) (by have:=gA.out;omega)).mono ?_;rintro e wn1 ⟨rfl,cS,aF⟩;have aN:=hid (aJ.out.next cS aF);have dS:=hid (zAf HG.out aF);clear aJ HG cS aF);have aJ:=aN
 have HG:=dS;clear aN dS;go_upto_region 6 with (go_at_call 171;refine (zFu g _ _ p _ (brI l x.name) (rowI l x.a) 4607182418800017408 0 _ aJ.out.brd hn (by have:=gA.out;omega) (by have:=zCt l x.a;omega)).mono ?_;rintro e wn2 ⟨rfl,cS,aF⟩;have dM:=hid (aJ.out.next cS aF);have eM:=hid (zAf HG.out aF);clear aJ HG cS aF);have aJ:=dM;have HG:=eM;clear dM eM;go_upto_region 7 with (go_at_call 172;refine (zFt g _ _ p _ (rowI l x.b) (brI l x.name) 4607182418800017408 0 _ aJ.out.brd hn (by have:=zCt l x.b;omega) (by have:=gA.out;omega)).mono ?_;rintro e wn3 ⟨rfl,cS,aF⟩;have bE:=hid (aJ.out.next cS aF);have eL:=hid (zAf HG.out aF);clear aJ HG cS aF);have aJ:=bE;have HG:=eL;clear bE eL;go_wp2_with (go_at_call 172;refine (zFt g _ _ p _ (brI l x.name) (rowI l x.b) 4607182418800017408 0 _ aJ.out.brd hn (by have:=gA.out;omega) (by have:=zCt l x.b;omega)).mono ?_;rintro e wn4 ⟨rfl,cS,aF⟩;have bP:=hid (aJ.out.next cS aF);have mP:=hid (zAf HG.out aF);clear aJ HG cS aF);have aJ:=bP;have HG:=mP;clear bP mP
 (try rw [Exit.noGoto_ret])
 go_end0
 exact ⟨rfl,aJ.out.brd,HG.out⟩
theorem btransfer_any (wb w:World) (g:Nat) (p:Value) (l:List El) (s:StS) (x:El) (y1 y2:Nat) (h:BdAt wb w g p l s) (hx:x.Ok) (hn:szL l≤64):
 Calls Tryz.prog 152 #[.pointer (some ⟨g,0,none⟩),.agg #[.int .u8 x.kind,.string x.name,.string x.a,.string x.b,.string x.c,.string x.d,.float .f64 x.val,.int .i64 x.ph],.complex .f64 y1 y2] w (RetBd g p (nds l).length (szL l) ((stTrans (rowI l x.a) (rowI l x.b) (rowI l x.c) (rowI l x.d) (fc x.val,fc 0)).foldl (st1 (szL l)) s) w):=by
 have HX:=hid hx;have bS:=hid (heap_alloc_new w (.cells #[.int .u8 x.kind,.string x.name,.string x.a,.string x.b,.string x.c,.string x.d,.float .f64 x.val,.int .i64 x.ph] 35));have cN:=(Below.refl w.heap.size w).alloc (Nat.le_refl _) (.cells #[.int .u8 x.kind,.string x.name,.string x.a,.string x.b,.string x.c,.string x.d,.float .f64 x.val,.int .i64 x.ph] 35);have aJ:=hid (h.below cN);have HG:=hid (zAe cN (some g));clear h hx cN;go_enter Tryz.func152,Tryz.ntmps152;go_upto_region 1 with fail;generalize w.alloc (.cells #[.int .u8 x.kind,.string x.name,.string x.a,.string x.b,.string x.c,.string x.d,.float .f64 x.val,.int .i64 x.ph] 35)=w1 at *;have aE:=zAb bS.out;have e2:=aE.1 2 _ rfl;have e3:=aE.1 3 _ rfl;have e4:=aE.1 4 _ rfl;have e5:=aE.1 5 _ rfl;have e6:=aE.1 6 _ rfl;clear aE;go_upto_region 2 with fail
 go_still_tail 16,(by kernel_rfl)
 still_call (zDr wb _ g p l _ x.a (aJ.out.below (Below.refl _ _).drew) HX.out.a)
 repeat still_step
 still_call (zDr wb _ g p l _ x.b (aJ.out.below (Below.refl _ _).drew) HX.out.b)
 repeat still_step
 still_call (zDr wb _ g p l _ x.c (aJ.out.below (Below.refl _ _).drew) HX.out.c)
 repeat still_step
 still_call (zDr wb _ g p l _ x.d (aJ.out.below (Below.refl _ _).drew) HX.out.d)
 repeat still_step
 refine wpStill_nil ?_;clear e2 e3 e4 e5 e6 bS;change wpList _ _ _ _ _ w1.drew;have aN:=hid (aJ.out.below (Below.refl _ _).drew);have dS:=hid (zAf HG.out (zAe (Below.refl _ _).drew (some g)));clear aJ HG;have aJ:=aN;have HG:=dS;clear aN dS;generalize w1.drew=w2 at *;go_upto_region 4 with (go_at_call 171;refine (zFu g _ _ p _ (rowI l x.a) (rowI l x.c) x.val 0 _ aJ.out.brd hn (by have:=zCt l x.a;omega) (by have:=zCt l x.c;omega)).mono ?_;rintro e wn1 ⟨rfl,cS,aF⟩;have aN:=hid (aJ.out.next cS aF);have dS:=hid (zAf HG.out aF);clear aJ HG cS aF);have aJ:=aN;have HG:=dS;clear aN dS;go_upto_region 5 with (go_at_call 172;refine (zFt g _ _ p _ (rowI l x.a) (rowI l x.d) x.val 0 _ aJ.out.brd hn (by have:=zCt l x.a;omega) (by have:=zCt l x.d;omega)).mono ?_;rintro e wn2 ⟨rfl,cS,aF⟩;have dM:=hid (aJ.out.next cS aF);have eM:=hid (zAf HG.out aF);clear aJ HG cS aF);have aJ:=dM;have HG:=eM;clear dM eM;go_upto_region 6 with (go_at_call 172;refine (zFt g _ _ p _ (rowI l x.b) (rowI l x.c) x.val 0 _ aJ.out.brd hn (by have:=zCt l x.b;omega) (by have:=zCt l x.c;omega)).mono ?_;rintro e wn3 ⟨rfl,cS,aF⟩;have bE:=hid (aJ.out.next cS aF);have eL:=hid (zAf HG.out aF);clear aJ HG cS aF);have aJ:=bE;have HG:=eL;clear bE eL;go_wp2_with (go_at_call 171;refine (zFu g _ _ p _ (rowI l x.b) (rowI l x.d) x.val 0 _ aJ.out.brd hn (by have:=zCt l x.b;omega) (by have:=zCt l x.d;omega)).mono ?_;rintro e wn4 ⟨rfl,cS,aF⟩;have bP:=hid (aJ.out.next cS aF);have mP:=hid (zAf HG.out aF);clear aJ HG cS aF);have aJ:=bP;have HG:=mP;clear bP mP
 (try rw [Exit.noGoto_ret])
 go_end0
 exact ⟨rfl,aJ.out.brd,HG.out⟩
theorem bamplifier_any (wb w:World) (g:Nat) (p:Value) (l:List El) (s:StS) (x:El) (y1 y2:Nat) (h:BdAt wb w g p l s) (hx:x.Ok) (hn:szL l≤64) (hbr:has (brs l) x.name=true):
 Calls Tryz.prog 153 #[.pointer (some ⟨g,0,none⟩),.agg #[.int .u8 x.kind,.string x.name,.string x.a,.string x.b,.string x.c,.string x.d,.float .f64 x.val,.int .i64 x.ph],.complex .f64 y1 y2] w (RetBd g p (nds l).length (szL l) ((stBr (rowI l x.a) (rowI l x.b) (brI l x.name)++stAmp (brI l x.name) (rowI l x.c) (rowI l x.d) (fc x.val,fc 0)).foldl (st1 (szL l)) s) w):=by
 have HX:=hid hx;have bS:=hid (heap_alloc_new w (.cells #[.int .u8 x.kind,.string x.name,.string x.a,.string x.b,.string x.c,.string x.d,.float .f64 x.val,.int .i64 x.ph] 35));have cN:=(Below.refl w.heap.size w).alloc (Nat.le_refl _) (.cells #[.int .u8 x.kind,.string x.name,.string x.a,.string x.b,.string x.c,.string x.d,.float .f64 x.val,.int .i64 x.ph] 35);have aJ:=hid (h.below cN);have HG:=hid (zAe cN (some g));have gA:=hid (br_lt hbr);have HBH:=hid hbr;have HGL:=hid h.brd.lt;clear h hx cN hbr;go_enter Tryz.func153,Tryz.ntmps153;go_upto_region 1 with fail;generalize w.alloc (.cells #[.int .u8 x.kind,.string x.name,.string x.a,.string x.b,.string x.c,.string x.d,.float .f64 x.val,.int .i64 x.ph] 35)=w1 at *;have aE:=zAb bS.out;have e0:=aE.1 0 _ rfl;have e1:=aE.1 1 _ rfl;have e2:=aE.1 2 _ rfl;have e3:=aE.1 3 _ rfl;have e4:=aE.1 4 _ rfl;have e5:=aE.1 5 _ rfl;have e6:=aE.1 6 _ rfl;have e7:=aE.1 7 _ rfl;clear aE;go_upto_region 2 with (go_at_call 151;refine (bbranch_any wb _ g p l _ x y1 y2 aJ.out HX.out hn HBH.out).mono ?_;rintro e w2 ⟨rfl,cS,aF⟩;have aN:=hid (aJ.out.next cS aF);have dS:=hid (zAf HG.out aF);have sS:=hid ((aF.block _ (Array.getElem?_eq_some_iff.1 bS.out).1 (fun e=> by have:=HGL.out;cases e;omega)).trans bS.out);clear bS;clear aJ HG cS aF e0 e1 e2 e3 e4 e5 e6 e7);have bS:=sS;have aJ:=aN;have HG:=dS;clear sS aN dS;have aE:=zAb bS.out;have e6:=aE.1 6 _ rfl;clear aE;go_upto_region 3 with fail;clear e6;have aE:=zAb bS.out;have e1:=aE.1 1 _ rfl;clear aE;obtain ⟨M,hM⟩:=aJ.out.brd;have bJ:=zAb hM.2.1;have c0:=bJ.1 0 _ board_0;clear bJ hM
 go_still_tail 11,(by kernel_rfl)
 still_call (call_flip (nbranch_any _ l x.name _ (aJ.out.net.below aJ.out.bel.drew (Nat.le_refl _)) HX.out.name))
 repeat still_step
 refine wpStill_nil ?_;clear e1 c0;change wpList _ _ _ _ _ w2.drew;have aN:=hid (aJ.out.below (Below.refl _ _).drew);have dS:=hid (zAf HG.out (zAe (Below.refl _ _).drew (some g)));clear aJ HG;have aJ:=aN;have HG:=dS;clear aN dS;have mT:=hid (zAs (Below.refl _ _).drew bS.out);clear bS;have bS:=mT;clear mT;generalize w2.drew=w3 at *;go_upto_region 4 with fail;have aE:=zAb bS.out;have e4:=aE.1 4 _ rfl;clear aE;obtain ⟨M,hM⟩:=aJ.out.brd;have bJ:=zAb hM.2.1;have c1:=bJ.1 1 _ board_1;clear bJ hM;have qN:IntKind.i64.wrap (((nds l).length:Int)+plI (brs l) x.name)=brI l x.name:=by
  have h1:=gA.out;have h2:=pl_ge (brs l) x.name;rw [IntWalk.i64_in _ ⟨by omega,by unfold brI at h1;omega⟩]
  rfl
 go_still_tail 12,(by kernel_rfl)
 still_call (zDr wb _ g p l _ x.c (aJ.out.below (Below.refl _ _).drew) HX.out.c)
 repeat still_step
 refine wpStill_nil ?_;clear e4 c1 qN;change wpList _ _ _ _ _ w3.drew;have aN:=hid (aJ.out.below (Below.refl _ _).drew);have dS:=hid (zAf HG.out (zAe (Below.refl _ _).drew (some g)));clear aJ HG;have aJ:=aN;have HG:=dS;clear aN dS;have mT:=hid (zAs (Below.refl _ _).drew bS.out);clear bS;have bS:=mT;clear mT;generalize w3.drew=w4 at *;go_upto_region 5 with (go_at_call 172;refine (zFt g _ _ p _ (brI l x.name) (rowI l x.c) x.val 0 _ aJ.out.brd hn (by have:=gA.out;omega) (by have:=zCt l x.c;omega)).mono ?_;rintro e w5 ⟨rfl,cS,aF⟩;have aN:=hid (aJ.out.next cS aF);have dS:=hid (zAf HG.out aF);have sS:=hid ((aF.block _ (Array.getElem?_eq_some_iff.1 bS.out).1 (fun e=> by have:=HGL.out;cases e;omega)).trans bS.out);clear bS;clear aJ HG cS aF);have bS:=sS;have aJ:=aN;have HG:=dS;clear sS aN dS;have aE:=zAb bS.out;have e5:=aE.1 5 _ rfl;clear aE;obtain ⟨M,hM⟩:=aJ.out.brd;have bJ:=zAb hM.2.1;have c1:=bJ.1 1 _ board_1;clear bJ hM;have qN:IntKind.i64.wrap (((nds l).length:Int)+plI (brs l) x.name)=brI l x.name:=by
  have h1:=gA.out;have h2:=pl_ge (brs l) x.name;rw [IntWalk.i64_in _ ⟨by omega,by unfold brI at h1;omega⟩]
  rfl
 go_still_tail 12,(by kernel_rfl)
 still_call (zDr wb _ g p l _ x.d (aJ.out.below (Below.refl _ _).drew) HX.out.d)
 repeat still_step
 refine wpStill_nil ?_;clear e5 c1 qN bS;change wpList _ _ _ _ _ w5.drew;have aN:=hid (aJ.out.below (Below.refl _ _).drew);have dS:=hid (zAf HG.out (zAe (Below.refl _ _).drew (some g)));clear aJ HG;have aJ:=aN;have HG:=dS;clear aN dS;generalize w5.drew=w6 at *;go_wp2_with (go_at_call 171;refine (zFu g _ _ p _ (brI l x.name) (rowI l x.d) x.val 0 _ aJ.out.brd hn (by have:=gA.out;omega) (by have:=zCt l x.d;omega)).mono ?_;rintro e w7 ⟨rfl,cS,aF⟩;have dM:=hid (aJ.out.next cS aF);have eM:=hid (zAf HG.out aF);clear aJ HG cS aF);have aJ:=dM;have HG:=eM
 (try rw [Exit.noGoto_ret])
 go_end0
 exact ⟨rfl,aJ.out.brd,HG.out⟩
end Go.Proofs.YtdepiggjneoopaaGreatDoor
