/- a part of the proof of the last text -/
import Derived.Test.YtdepiggjneoopaaGreatDoorZPut
namespace Go.Proofs.YtdepiggjneoopaaGreatDoor
set_option linter.all false
set_option maxHeartbeats 4000000
set_option maxRecDepth 100000
section
open Go.RowKit
def zEl:El:=⟨0,⟨#[]⟩,⟨#[]⟩,⟨#[]⟩,⟨#[]⟩,⟨#[]⟩,0,0⟩
def zBs (l:List El) (s:ByteArray):Option El:=l.find? fun e=> e.name.toList==s.toList
def RetEB (x:El) (b:Bool) (w:World) (en:Ending) (w':World):Prop:=
 en=.returned (.tuple #[.agg #[.int .u8 x.kind,.string x.name,.string x.a,.string x.b,.string x.c,.string x.d,.float .f64 x.val,.int .i64 x.ph],.bool b])∧Below w.heap.size w w'
theorem findE_no {l:List El} {s:ByteArray} (h:zEn l s=false):zBs l s=none:=by
 unfold zBs;unfold zEn at h;rw [List.find?_eq_none];intro x hx;have:=List.any_eq_false.1 h x hx
 simpa using this
end
section
open Go.RowKit Go.Maps
def NN (w:World) (p:Value) (l:List El):Prop:=
 (p=.pointer none∧l= [])∨∃ (B g:Nat) (vl vn vb:Value) (bn bp bb:Nat),p=.pointer (some ⟨g,0,none⟩)∧NetAt B w g vl vn vb bn bp bb l (l.map El.name) (nds l) (nds l) (brs l) (brs l)
theorem NN.below {w w':World} {B:Nat} {p:Value} {l:List El} (h:NN w p l) (hb:Below B w w') (hB:w.heap.size≤B):NN w' p l:=by
 rcases h with h | ⟨B1,g,vl,vn,vb,bn,bp,bb,hp,h⟩
 · exact .inl h
 · exact .inr ⟨B1,g,vl,vn,vb,bn,bp,bb,hp,h.kept ⟨hb.os,hb.tape,hb.output,hb.size,fun k hk _=> hb.block k (Nat.lt_of_lt_of_le hk hB)⟩⟩
theorem NN.below' {w w1:World} {p:Value} {l:List El} (h:NN w p l) (hb:Below w.heap.size w w1):NN w1 p l:=h.below hb (Nat.le_refl _)
theorem at_place {D:DU} {l:List ByteArray} {s:ByteArray} {c:Int} (hD:MapIs D l) (h:D.atKey (kls s) (plD 0)=plD c):c=plI l s:=by
 have h2:=(hD.2 s).1.symm.trans h;unfold plD at h2
 injection h2 with h3
 injection h3 with _ h4
 exact h4.symm
theorem has_named (l:List El) (s:ByteArray):has (l.map El.name) s=zEn l s:=by
 unfold has zEn;rw [List.any_map]
 rfl
theorem find_idx:∀ (l:List El) (s:ByteArray),l[(l.map El.name).findIdx fun t=> t.toList==s.toList]? =zBs l s
 | [],s=> rfl
 | e::l,s=> by
  have ih:=find_idx l s;unfold zBs at ih⊢;rw [List.map_cons,List.findIdx_cons,List.find?_cons];cases h:(e.name.toList==s.toList)
  · simpa [h] using ih
  · simp
theorem find_place {l:List El} {s:ByteArray} (h:has (l.map El.name) s=true):∃ (k:Nat) (x:El),plI (l.map El.name) s=(k:Int)∧k < l.length∧l[k]? =some x∧zBs l s=some x:=by
 have hf:(zBs l s).isSome=true:=by
  rw [has_named] at h;unfold zBs;rw [List.find?_isSome];obtain ⟨t,ht,h2⟩:=List.any_eq_true.1 h;exact ⟨t,ht,h2⟩
 obtain ⟨x,hx⟩:=Option.isSome_iff_exists.1 hf;have hi:=(find_idx l s).trans hx;refine ⟨_,x,?_,(List.getElem?_eq_some_iff.1 hi).1,hi,hx⟩;unfold plI;rw [if_pos h]
theorem nis_nil (w:World):Calls Tryz.prog 31 #[.pointer none] w fun e w'=> e=.returned (.bool false)∧w=w':=by
 go_enter Tryz.func31,Tryz.ntmps31;go_wp2;go_ret;exact ⟨rfl,rfl⟩
theorem zDq (g:Nat) (w:World) (h1:w.cell? ⟨g,0,none⟩=some (.bool true)):Calls Tryz.prog 31 #[.pointer (some ⟨g,0,none⟩)] w fun e w'=> e=.returned (.bool true)∧w=w':=by
 go_enter Tryz.func31,Tryz.ntmps31;go_wp2;go_ret;exact ⟨rfl,rfl⟩
theorem zDb (p:Value) (l:List El) (w:World) (hp:NN w p l) (hl:l.length≤100000):
 Calls Tryz.prog 9 #[p] w (RetRow 35 8 l.length (fun xs=> xs=l.flatMap ea) w):=by
 obtain ⟨i0,hi,cG,bD,cB⟩:=info_parts zEo;skip;rcases hp with ⟨rfl,rfl⟩ | ⟨B,g,vl,vn,vb,bn,bp,bb,rfl,h⟩
 · go_enter Tryz.func9,Tryz.ntmps9;go_wp2_with (go_at_call 31;refine (nis_nil _).mono ?_;rintro e w1 ⟨rfl,rfl⟩)
   (try rw [Exit.noGoto_ret])
   go_ret;exact ⟨_,_,rfl,World.ownsRow_nil _ _ _ _,rfl,Below.refl _ _⟩
 · obtain ⟨hc,_⟩:=zAc h.blk;have c0:=hc 0 _ rfl;have cv:=hc 1 _ rfl;have HS:=hid (IsSl.of_own h.ol);clear hc h;have HC:=hid c0;go_enter Tryz.func9,Tryz.ntmps9;go_wp2_with (first | (go_at_call 31;refine (zDq _ _ HC.out).mono ?_;rintro e w1 ⟨rfl,rfl⟩) | (refine zBy rfl _ _ _ rfl w.heap.size 35 8 104 i0 (.agg #[.int .u8 0,.string ⟨#[]⟩,.string ⟨#[]⟩,.string ⟨#[]⟩,.string ⟨#[]⟩,.string ⟨#[]⟩,.float .f64 0,.int .i64 0]) Tryz.underlying31 hi cG bD cB rfl (by decide) _ 0 [] (World.ownsRow_nil _ _ _ _) (Nat.le_refl _) _ _ _ HS.out rfl rfl (by intro u hu;obtain ⟨z,_,hz⟩:=List.mem_flatMap.1 hu;exact ea_one z u hz) (by simp [maxLen];omega) (by omega) ?_;intro v1 w1 aS fX pC));go_ret;refine ⟨_,_,rfl,?_,rfl,(Below.refl _ _).grown fX (Nat.le_refl _) (by intro k e;cases e)⟩
   simpa using aS
theorem zDi (p:Value) (l:List El) (w:World) (hp:NN w p l) (hl:l.length≤100000):
 Calls Tryz.prog 106 #[p] w (RetRow 9 1 (nds l).length (fun xs=> xs=sts (nds l)) w):=by
 obtain ⟨i0,hi,cG,bD,cB⟩:=info_parts infoSt;have hn:=nds_len l;rcases hp with ⟨rfl,rfl⟩ | ⟨B,g,vl,vn,vb,bn,bp,bb,rfl,h⟩
 · go_enter Tryz.func106,Tryz.ntmps106;go_wp2_with (go_at_call 31;refine (nis_nil _).mono ?_;rintro e w1 ⟨rfl,rfl⟩)
   (try rw [Exit.noGoto_ret])
   go_ret;exact ⟨_,_,rfl,World.ownsRow_nil _ _ _ _,rfl,Below.refl _ _⟩
 · obtain ⟨hc,_⟩:=zAc h.blk;have c0:=hc 0 _ rfl;have cv:=hc 3 _ rfl;have HS:=hid (IsSl.of_own h.on);clear hc h;have HC:=hid c0;go_enter Tryz.func106,Tryz.ntmps106;go_wp2_with (first | (go_at_call 31;refine (zDq _ _ HC.out).mono ?_;rintro e w1 ⟨rfl,rfl⟩) | (refine zBy rfl _ _ _ rfl w.heap.size 9 1 16 i0 (.string ⟨#[]⟩) Tryz.underlying70 hi cG bD cB rfl (by decide) _ 0 [] (World.ownsRow_nil _ _ _ _) (Nat.le_refl _) _ _ _ HS.out rfl rfl (by intro u hu;exact sts_one hu) (by simp [maxLen];omega) (by omega) ?_;intro v1 w1 aS fX pC));go_ret;refine ⟨_,_,rfl,?_,rfl,(Below.refl _ _).grown fX (Nat.le_refl _) (by intro k e;cases e)⟩
   simpa using aS
theorem nbranches_any (p:Value) (l:List El) (w:World) (hp:NN w p l) (hl:l.length≤100000):
 Calls Tryz.prog 107 #[p] w (RetRow 9 1 (brs l).length (fun xs=> xs=sts (brs l)) w):=by
 obtain ⟨i0,hi,cG,bD,cB⟩:=info_parts infoSt;have hn:=brs_len l;rcases hp with ⟨rfl,rfl⟩ | ⟨B,g,vl,vn,vb,bn,bp,bb,rfl,h⟩
 · go_enter Tryz.func107,Tryz.ntmps107;go_wp2_with (go_at_call 31;refine (nis_nil _).mono ?_;rintro e w1 ⟨rfl,rfl⟩)
   (try rw [Exit.noGoto_ret])
   go_ret;exact ⟨_,_,rfl,World.ownsRow_nil _ _ _ _,rfl,Below.refl _ _⟩
 · obtain ⟨hc,_⟩:=zAc h.blk;have c0:=hc 0 _ rfl;have cv:=hc 5 _ rfl;have HS:=hid (IsSl.of_own h.ob);clear hc h;have HC:=hid c0;go_enter Tryz.func107,Tryz.ntmps107;go_wp2_with (first | (go_at_call 31;refine (zDq _ _ HC.out).mono ?_;rintro e w1 ⟨rfl,rfl⟩) | (refine zBy rfl _ _ _ rfl w.heap.size 9 1 16 i0 (.string ⟨#[]⟩) Tryz.underlying70 hi cG bD cB rfl (by decide) _ 0 [] (World.ownsRow_nil _ _ _ _) (Nat.le_refl _) _ _ _ HS.out rfl rfl (by intro u hu;exact sts_one hu) (by simp [maxLen];omega) (by omega) ?_;intro v1 w1 aS fX pC));go_ret;refine ⟨_,_,rfl,?_,rfl,(Below.refl _ _).grown fX (Nat.le_refl _) (by intro k e;cases e)⟩
   simpa using aS
theorem zCy (p:Value) (l:List El) (s:ByteArray) (w:World) (hp:NN w p l) (hs:s.size≤maxLen):
 Calls Tryz.prog 74 #[p,.string s] w (fun e w'=> e=.returned (.tuple #[.int .i64 (plI (nds l) s),.bool (has (nds l) s)])∧w=w'):=by
 have law:Keyed Tryz.prog 9 :=string_keyed Tryz.underlying9;rcases hp with ⟨rfl,rfl⟩ | ⟨B,g,vl,vn,vb,bn,bp,bb,rfl,h⟩
 · go_enter Tryz.func74,Tryz.ntmps74;go_wp2_with (go_at_call 31;refine (nis_nil _).mono ?_;rintro e w1 ⟨rfl,rfl⟩)
   (try rw [Exit.noGoto_ret])
   refine bodyPost_ret (v:=.tuple #[.int .i64 0,.bool false]) ?_ rfl ⟨rfl,rfl⟩;rw [results_tmp2 rfl];rfl
 · obtain ⟨hc,_⟩:=zAc h.blk;have c0:=hc 0 _ rfl;have cv:=hc 4 _ rfl;obtain ⟨D,aC,hD⟩:=h.mp;have hh:Maps.has D (Lit.string s.data.toList)=has (nds l) s:=(hD.2 s).2;have HC:=hid c0;have HD:=hid hD;clear hc h hD;go_enter Tryz.func74,Tryz.ntmps74;go_wp2_with (first | (go_at_call 31;refine (zDq _ _ HC.out).mono ?_;rintro e w1 ⟨rfl,rfl⟩) | (at_lookup;refine wpList_lookup_own_ok_int _ rfl _ _ 69 rfl 9 3 .i64 law Tryz.underlying69 Tryz.underlying3 (zFj _) bp _ D rfl aC _ _ rfl (WideMaps.keyOf_string_mk Tryz.underlying9 hs) ?_;intro c eD qP;rw [hh];have uR:=hid (at_place HD.out eD);clear eD qP))
   (try rw [Exit.noGoto_ret])
   refine bodyPost_ret (v:=.tuple #[.int .i64 c,.bool (has (nds l) s)]) ?_ rfl ⟨by rw [←uR.out],rfl⟩;rw [results_tmp2 rfl];rfl
theorem nbranch_any (p:Value) (l:List El) (s:ByteArray) (w:World) (hp:NN w p l) (hs:s.size≤maxLen):
 Calls Tryz.prog 173 #[p,.string s] w (fun e w'=> e=.returned (.tuple #[.int .i64 (plI (brs l) s),.bool (has (brs l) s)])∧w=w'):=by
 have law:Keyed Tryz.prog 9 :=string_keyed Tryz.underlying9;rcases hp with ⟨rfl,rfl⟩ | ⟨B,g,vl,vn,vb,bn,bp,bb,rfl,h⟩
 · go_enter Tryz.func173,Tryz.ntmps173;go_wp2_with (go_at_call 31;refine (nis_nil _).mono ?_;rintro e w1 ⟨rfl,rfl⟩)
   (try rw [Exit.noGoto_ret])
   refine bodyPost_ret (v:=.tuple #[.int .i64 0,.bool false]) ?_ rfl ⟨rfl,rfl⟩;rw [results_tmp2 rfl];rfl
 · obtain ⟨hc,_⟩:=zAc h.blk;have c0:=hc 0 _ rfl;have cv:=hc 6 _ rfl;obtain ⟨D,aC,hD⟩:=h.mb;have hh:Maps.has D (Lit.string s.data.toList)=has (brs l) s:=(hD.2 s).2;have HC:=hid c0;have HD:=hid hD;clear hc h hD;go_enter Tryz.func173,Tryz.ntmps173;go_wp2_with (first | (go_at_call 31;refine (zDq _ _ HC.out).mono ?_;rintro e w1 ⟨rfl,rfl⟩) | (at_lookup;refine wpList_lookup_own_ok_int _ rfl _ _ 69 rfl 9 3 .i64 law Tryz.underlying69 Tryz.underlying3 (zFj _) bb _ D rfl aC _ _ rfl (WideMaps.keyOf_string_mk Tryz.underlying9 hs) ?_;intro c eD qP;rw [hh];have uR:=hid (at_place HD.out eD);clear eD qP))
   (try rw [Exit.noGoto_ret])
   refine bodyPost_ret (v:=.tuple #[.int .i64 c,.bool (has (brs l) s)]) ?_ rfl ⟨by rw [←uR.out],rfl⟩;rw [results_tmp2 rfl];rfl
theorem zEf (p:Value) (l:List El) (w:World) (hp:NN w p l) (hl:l.length≤100000):
 Calls Tryz.prog 34 #[p] w (RetI ((nds l).length+(brs l).length) w):=by
 have hn:=nds_len l;have rH:=brs_len l;have hw:IntKind.i64.wrap (((nds l).length:Int)+((brs l).length:Int))=((nds l).length:Int)+((brs l).length:Int):=by
  unfold IntKind.wrap
  first | (simp [IntKind.bits,IntKind.signed];omega) | (simp;omega)
 rcases hp with ⟨rfl,rfl⟩ | ⟨B,g,vl,vn,vb,bn,bp,bb,rfl,h⟩
 · go_enter Tryz.func34,Tryz.ntmps34;go_wp2_with (go_at_call 31;refine (nis_nil _).mono ?_;rintro e w1 ⟨rfl,rfl⟩)
   (try rw [Exit.noGoto_ret])
   go_ret;exact ⟨rfl,Below.refl _ _⟩
 · obtain ⟨an,cn,rfl⟩:=(IsSl.of_own h.on).form;obtain ⟨ab,cb,rfl⟩:=(IsSl.of_own h.ob).form;obtain ⟨hc,_⟩:=zAc h.blk;have c0:=hc 0 _ rfl;have c3:=hc 3 _ rfl;have c5:=hc 5 _ rfl;clear hc h;have HC:=hid c0;go_enter Tryz.func34,Tryz.ntmps34;go_upto_region 3 with (go_at_call 31;refine (zDq _ _ HC.out).mono ?_;rintro e w1 ⟨rfl,rfl⟩)
   go_quiet (fail)
   go_wp2;go_ret;exact ⟨zBw (by first | rfl | simpa using hw),zAg (Below.refl _ _) _⟩
theorem zEm (p:Value) (l:List El) (s:ByteArray) (w:World) (hp:NN w p l) (hs:s.size≤maxLen) (hl:l.length≤100000):
 Calls Tryz.prog 37 #[p,.string s] w (RetEB ((zBs l s).getD zEl) (zBs l s).isSome w):=by
 have law:Keyed Tryz.prog 9 :=string_keyed Tryz.underlying9;obtain ⟨i0,hi,cG,bD,cB⟩:=info_parts zEo;have hA:=heap_alloc_new w (.cells #[.int .u8 0,.string ⟨#[]⟩,.string ⟨#[]⟩,.string ⟨#[]⟩,.string ⟨#[]⟩,.string ⟨#[]⟩,.float .f64 0,.int .i64 0] 35);have hBW:=(Below.refl w.heap.size w).alloc (Nat.le_refl _) (.cells #[.int .u8 0,.string ⟨#[]⟩,.string ⟨#[]⟩,.string ⟨#[]⟩,.string ⟨#[]⟩,.string ⟨#[]⟩,.float .f64 0,.int .i64 0] 35);have hp0:=hp.below' hBW;go_enter Tryz.func37,Tryz.ntmps37;go_upto_region 1 with fail;generalize w.alloc (.cells #[.int .u8 0,.string ⟨#[]⟩,.string ⟨#[]⟩,.string ⟨#[]⟩,.string ⟨#[]⟩,.string ⟨#[]⟩,.float .f64 0,.int .i64 0] 35)=w0 at *;obtain ⟨hA2,fA⟩:=zAc hA;have k0:=hA2 0 _ rfl;have k1:=hA2 1 _ rfl;have k2:=hA2 2 _ rfl;have k3:=hA2 3 _ rfl;have k4:=hA2 4 _ rfl;have k5:=hA2 5 _ rfl;have k6:=hA2 6 _ rfl;have k7:=hA2 7 _ rfl;have bC:=hid hBW;clear hA2 hA hBW hp;rcases hp0 with ⟨rfl,rfl⟩ | ⟨B,g,vl,vn,vb,bn,bp,bb,rfl,h⟩
 · go_wp2_with (go_at_call 31;refine (nis_nil _).mono ?_;rintro e w1 ⟨rfl,rfl⟩)
   (try rw [Exit.noGoto_ret])
   refine bodyPost_ret (v:=.tuple #[.agg #[.int .u8 0,.string ⟨#[]⟩,.string ⟨#[]⟩,.string ⟨#[]⟩,.string ⟨#[]⟩,.string ⟨#[]⟩,.float .f64 0,.int .i64 0],.bool false]) ?_ rfl ⟨rfl,?_⟩
   · rw [results_cell_tmp rfl];go_simp
   · exact ((((((((bC.out.setCell (Nat.le_refl _) _).setCell (Nat.le_refl _) _).setCell (Nat.le_refl _) _).setCell (Nat.le_refl _) _).setCell (Nat.le_refl _) _).setCell (Nat.le_refl _) _).setCell (Nat.le_refl _) _).setCell (Nat.le_refl _) _)
 · obtain ⟨al,cl,rfl⟩:=(IsSl.of_own h.ol).form;obtain ⟨hc,_⟩:=zAc h.blk;have c0:=hc 0 _ rfl;have HC:=hid c0;have cl1:=hc 1 _ rfl;have cv:=hc 2 _ rfl;obtain ⟨D,aC,hD⟩:=h.mn;have hh:Maps.has D (Lit.string s.data.toList)=has (l.map El.name) s:=(hD.2 s).2;have HD:=hid hD;have HI:=hid (IsSl.of_own h.ol);clear hc h hD;cases hb:has (l.map El.name) s
   · have HN:=hid hb;rw [has_named] at hb;have kT:=hid hb;clear hb;rw [HN.out] at hh;go_wp2_with (first | (go_at_call 31;refine (zDq _ _ HC.out).mono ?_;rintro e w1 ⟨rfl,rfl⟩) | (at_lookup;refine wpList_lookup_own_ok_int _ rfl _ _ 69 rfl 9 3 .i64 law Tryz.underlying69 Tryz.underlying3 (zFj _) bn _ D rfl aC _ _ rfl (WideMaps.keyOf_string_mk Tryz.underlying9 hs) ?_;intro c eD qP;rw [hh];clear eD qP))
     (try rw [Exit.noGoto_ret])
     refine bodyPost_ret (v:=.tuple #[.agg #[.int .u8 0,.string ⟨#[]⟩,.string ⟨#[]⟩,.string ⟨#[]⟩,.string ⟨#[]⟩,.string ⟨#[]⟩,.float .f64 0,.int .i64 0],.bool false]) ?_ rfl ⟨by rw [findE_no kT.out];rfl,?_⟩
     · rw [results_cell_tmp rfl];go_simp
     · exact ((((((((bC.out.setCell (Nat.le_refl _) _).setCell (Nat.le_refl _) _).setCell (Nat.le_refl _) _).setCell (Nat.le_refl _) _).setCell (Nat.le_refl _) _).setCell (Nat.le_refl _) _).setCell (Nat.le_refl _) _).setCell (Nat.le_refl _) _)
   · obtain ⟨k,x,hk,aM,hx,hf⟩:=find_place hb;rw [hb] at hh;have HF:=hid hf;have HK:=hid hk;obtain ⟨g1,o1,x1,aZ,fM,hx1,aA⟩:=IsSl.atF Tryz.underlying31 hi bD ea_len HI.out rfl aM;obtain rfl:x=x1:=Option.some.inj (hx.symm.trans hx1);have e0:=aA 0 _ rfl;have e1:=aA 1 _ rfl;have e2:=aA 2 _ rfl;have e3:=aA 3 _ rfl;have e4:=aA 4 _ rfl;have e5:=aA 5 _ rfl;have e6:=aA 6 _ rfl;have e7:=aA 7 _ rfl;rw [Nat.add_zero] at e0;clear aA hx hx1 hf hk hb fM;go_wp2_with (first | (go_at_call 31;refine (zDq _ _ HC.out).mono ?_;rintro e w1 ⟨rfl,rfl⟩) | (at_lookup;refine wpList_lookup_own_ok_int _ rfl _ _ 69 rfl 9 3 .i64 law Tryz.underlying69 Tryz.underlying3 (zFj _) bn _ D rfl aC _ _ rfl (WideMaps.keyOf_string_mk Tryz.underlying9 hs) ?_;intro c eD qP;rw [hh];obtain rfl:=(at_place HD.out eD).trans HK.out;clear eD qP))
     (try rw [Exit.noGoto_ret])
     refine bodyPost_ret (v:=.tuple #[.agg #[.int .u8 x.kind,.string x.name,.string x.a,.string x.b,.string x.c,.string x.d,.float .f64 x.val,.int .i64 x.ph],.bool true]) ?_ rfl ⟨by rw [HF.out];rfl,?_⟩
     · rw [results_cell_tmp rfl];go_simp
     · exact ((((((((bC.out.setCell (Nat.le_refl _) _).setCell (Nat.le_refl _) _).setCell (Nat.le_refl _) _).setCell (Nat.le_refl _) _).setCell (Nat.le_refl _) _).setCell (Nat.le_refl _) _).setCell (Nat.le_refl _) _).setCell (Nat.le_refl _) _)
def zBp:Value→Bool
 | .pointer none=> true
 | _=> false
theorem zFn (p:Value) (l:List El) (w:World) (hp:NN w p l) (hn:has (l.map El.name) ⟨#[]⟩=false):
 Calls Tryz.prog 97 #[p,.string ⟨#[]⟩] w (fun e w'=> e=.returned (.tuple #[.pointer none,.int .i64 (if zBp p=true then 1 else 10)])∧w=w'):=by
 have law:Keyed Tryz.prog 9 :=string_keyed Tryz.underlying9;rcases hp with ⟨rfl,rfl⟩ | ⟨B,g,vl,vn,vb,bn,bp,bb,rfl,h⟩
 · rw [show zBp (.pointer none)=true from rfl,if_pos rfl];go_enter Tryz.func97,Tryz.ntmps97;go_wp2_with (go_at_call 31;refine (nis_nil _).mono ?_;rintro e w1 ⟨rfl,rfl⟩)
   (try rw [Exit.noGoto_ret])
   refine bodyPost_ret (v:=.tuple #[.pointer none,.int .i64 1]) ?_ rfl ⟨rfl,rfl⟩;rw [results_tmp2 rfl];rfl
 · rw [if_neg (by simp [zBp])];obtain ⟨hc,_⟩:=zAc h.blk;have c0:=hc 0 _ rfl;have cv:=hc 2 _ rfl;obtain ⟨D,aC,hD⟩:=h.mn;have hh:Maps.has D (Lit.string (⟨#[]⟩:ByteArray).data.toList)=false:=(hD.2 ⟨#[]⟩).2.trans hn;have HC:=hid c0;clear hc h hD;go_enter Tryz.func97,Tryz.ntmps97;go_wp2_with (first | (go_at_call 31;refine (zDq _ _ HC.out).mono ?_;rintro e w1 ⟨rfl,rfl⟩) | (at_lookup;refine wpList_lookup_own_ok_int _ rfl _ _ 69 rfl 9 3 .i64 law Tryz.underlying69 Tryz.underlying3 (zFj _) bn _ D rfl aC _ _ rfl (WideMaps.keyOf_string_mk Tryz.underlying9 (by decide)) ?_;intro c eD qP;rw [hh];clear eD qP))
   (try rw [Exit.noGoto_ret])
   refine bodyPost_ret (v:=.tuple #[.pointer none,.int .i64 10]) ?_ rfl ⟨rfl,rfl⟩;rw [results_tmp2 rfl];rfl
end
section
open Go.RowKit Go.Maps
theorem wpQuiet_lookup_int {H:Type} {P:Program} {w:World} {ops:Array Oper} {rest:List Oper} {o:Oper} {a:Act} {Q:Act→Prop}
 (hg:o.guard=none) (m x:Operand) (t:TypeId) (eQ:o.op=Op.lookup t m x true)
 (k e:TypeId) (q:IntKind) (K:Keyed P k) (ht:P.underlying t=some (.map k e)) (he:P.underlying e=some (.int q)) (hz:∀w,(zeroValue e).run P w=.ok (.int q 0) w) (b n:Nat) (D:DataW H)
 (hm:a.eval m=.map (some b)) (aC:w.ownsMap P k (plainElem P e) b n D) (key:Value) (kl:Lit) (hx:a.eval x=key) (hkey:keyOf P k key=some kl)
 (c:Int) (hc:D.atKey kl (.lit (.int q 0))=.lit (.int q c))
 (hK:wpQuiet P ops (fun w'=> ∃n,w'=w.drewN n) Q rest (a.put o.dst (.tuple #[.int q c,.bool (Maps.has D kl)]))):
 wpQuiet P ops (fun w'=> ∃n,w'=w.drewN n) Q (o::rest) a:=by
 refine BigFrame.wpQuiet_want (by simp [Region.wanted,hg]) fun K' hK'=> ⟨_,fun w' hw=> ?_,hK' _ hK⟩
 obtain ⟨j,rfl⟩:=hw;have cV:(w.drewN j).ownsMap P k (plainElem P e) b n D:=aC;obtain ⟨v,ps,nF,hv⟩:=cV.look_ok K ht (hz _) (plainElem_int he (by cases q <;> decide)) hkey;obtain ⟨c',rfl,hc',_⟩:=plainElem_int_inv he hv;have h2:=congrArg Prod.fst hc';simp only at h2;rw [hc] at h2
 injection h2 with h3
 injection h3 with _ h4
 subst h4;unfold Oper.quietAt
 simp [execOp,eQ,hm,hx,nF,Result.andThen,Oper.quietUpon]
theorem at_plI {D:DU} {l:List ByteArray} (hD:MapIs D l) (s:ByteArray):D.atKey (Lit.string s.data.toList) (.lit (.int .i64 0))=.lit (.int .i64 (plI l s)):=(hD.2 s).1
theorem mapAt_empty {w w':World} (hg:(w.alloc (.map #[] 0)).grownBy w' none):zFd w' w.heap.size []:=
 ⟨.map [],(World.ownsMap_made w _ _ _).kept hg (by simp),mapIs_empty⟩
theorem netAt_new (w:World) (t:TypeId) (ht:t=72):NetAt w.heap.size ((((w.alloc (.map #[] 0)).alloc (.map #[] 0)).alloc (.map #[] 0)).alloc (.cells #[.bool true,.slice none 0 0,.map (some w.heap.size),.slice none 0 0,.map (some (w.heap.size+1)),.slice none 0 0,.map (some (w.heap.size+1+1))] t)) (w.heap.size+1+1+1) (.slice none 0 0) (.slice none 0 0) (.slice none 0 0) w.heap.size (w.heap.size+1) (w.heap.size+1+1) [] [] [] [] [] []:=by
 subst ht;have s1:(w.alloc (.map #[] 0)).heap.size=w.heap.size+1:=by simp
 have s2:((w.alloc (.map #[] 0)).alloc (.map #[] 0)).heap.size=w.heap.size+1+1:=by simp
 have s3:(((w.alloc (.map #[] 0)).alloc (.map #[] 0)).alloc (.map #[] 0)).heap.size=w.heap.size+1+1+1:=by simp
 exact
 {gB:=by omega
  blk:=by have:=heap_alloc_new (((w.alloc (.map #[] 0)).alloc (.map #[] 0)).alloc (.map #[] 0)) (.cells #[.bool true,.slice none 0 0,.map (some w.heap.size),.slice none 0 0,.map (some (w.heap.size+1)),.slice none 0 0,.map (some (w.heap.size+1+1))] 72);rwa [s3] at this
  ol:=World.ownsRow_nil _ _ _ _
  on:=World.ownsRow_nil _ _ _ _
  ob:=World.ownsRow_nil _ _ _ _
  lg:=by intro h;cases h
  ng:=by intro h;cases h
  bg:=by intro h;cases h
  ln:=by intro r h;cases h
  lb:=by intro r h;cases h
  nb:=by intro r h;cases h
  bnB:=Nat.le_refl _
  bpB:=by omega
  bbB:=by omega
  np:=by omega
  nbb:=by omega
  pb:=by omega
  mn:=mapAt_empty (zAf (zAf (World.grownBy_alloc _ _ none) (World.grownBy_alloc _ _ none)) (World.grownBy_alloc _ _ none))
  mp:=by have:=mapAt_empty (w:=w.alloc (.map #[] 0)) (zAf (World.grownBy_alloc _ (.map #[] 0) none) (World.grownBy_alloc _ (.cells #[.bool true,.slice none 0 0,.map (some w.heap.size),.slice none 0 0,.map (some (w.heap.size+1)),.slice none 0 0,.map (some (w.heap.size+1+1))] 72) none));rwa [s1] at this
  mb:=by have:=mapAt_empty (w:=(w.alloc (.map #[] 0)).alloc (.map #[] 0)) (World.grownBy_alloc _ (.cells #[.bool true,.slice none 0 0,.map (some w.heap.size),.slice none 0 0,.map (some (w.heap.size+1)),.slice none 0 0,.map (some (w.heap.size+1+1))] 72) none);rwa [s2] at this}
theorem brs_snoc {l:List El} {k:Nat} {x:El} (h:l[k]? =some x):brs (l.take (k+1))=brN (brs (l.take k)) x:=by
 cases hx:isBr x
 · rw [brs_no h hx,brN_no hx]
 · rw [brs_yes h hx,brN_yes hx]
theorem brs_named {l:List El} {s:ByteArray} (h:zEn l s=false):has (brs l) s=false:=by
 cases e:has (brs l) s
 · rfl
 · have:=(has_iff _ _).1 e;obtain ⟨x,hx,hn⟩:=List.mem_map.1 this;have hm:has (l.map El.name) s=true:=(has_iff _ _).2 (List.mem_map.2 ⟨x,(List.mem_filter.1 hx).1,hn⟩);rw [has_named,h] at hm;cases hm
theorem nof_any (v:Value) (l:List El) (w:World) (hv:IsSl w 8 v l.length (l.flatMap ea)) (aY:∀e∈l,e.Ok) (hlen0:l.length≤140737488355328):
 Calls Tryz.prog 10 #[v] w (RetOf NN l w):=by
 obtain ⟨a,c,rfl⟩:=hv.form;obtain ⟨i0,hi,cG,bD,cB⟩:=info_parts zEo;have law:Keyed Tryz.prog 9 :=string_keyed Tryz.underlying9;have oF:=@run_makeMap Tryz.prog
 by_cases hl:256 < l.length
 · go_enter Tryz.func10,Tryz.ntmps10;have mV:256 < (l.length:Int):=by omega
   go_wp2
   (try rw [Exit.noGoto_ret])
   refine bodyPost_ret (v:=.tuple #[.pointer none,.agg #[.int .i64 3,.int .i64 (-1)]]) ?_ rfl (zDn (ofL_long hl) ?_)
   · rw [zAq rfl];go_simp
   · exact (Below.refl _ w).alloc (Nat.le_refl _) _
 · have mV:¬256 < (l.length:Int):=by omega
   have hlen:l.length≤100000:=by omega
   have HL:=hid hl;clear hl;go_enter Tryz.func10,Tryz.ntmps10;go_upto_region 3 with fail;have hA:=heap_alloc_new w (.cells #[.int .i64 0,.int .i64 0] 38);have hBW:=(Below.refl w.heap.size w).alloc (Nat.le_refl _) (.cells #[.int .i64 0,.int .i64 0] 38);have uL:w.heap.size < (w.alloc (.cells #[.int .i64 0,.int .i64 0] 38)).heap.size:=by simp
   have hv0:=hv.below hBW (Nat.le_refl _);generalize w.alloc (.cells #[.int .i64 0,.int .i64 0] 38)=w0 at *;have HA:=hid hA;have bC:=hid hBW;have HV:=hid hv0;clear hA hBW hv0 hv;go_upto_region 4 with fail;have hN:=netAt_new w0 _ rfl;have hB4:Below w0.heap.size w0 ((((w0.alloc (.map #[] 0)).alloc (.map #[] 0)).alloc (.map #[] 0)).alloc (.cells #[.bool true,.slice none 0 0,.map (some w0.heap.size),.slice none 0 0,.map (some (w0.heap.size+1)),.slice none 0 0,.map (some (w0.heap.size+1+1))] 72)):=((((Below.refl _ w0).alloc (Nat.le_refl _) _).alloc (by simp) _).alloc (by simp;omega) _).alloc (by simp;omega) _;generalize ((((w0.alloc (.map #[] 0)).alloc (.map #[] 0)).alloc (.map #[] 0)).alloc (.cells #[.bool true,.slice none 0 0,.map (some w0.heap.size),.slice none 0 0,.map (some (w0.heap.size+1)),.slice none 0 0,.map (some (w0.heap.size+1+1))] 72))=w4 at *;generalize w0.heap.size+1+1+1=g at *;generalize w0.heap.size+1+1=bb at *;generalize w0.heap.size+1=bp at *;have HN0:=hid hN;have bI:=hid hB4;clear hN hB4;go_upto_region 5 with fail
   go_loopw [21] (fun i wr=> ∃ (k:Nat) (vl vn vb:Value),k≤l.length∧i=.int .i64 k∧(∀ (j:Nat) (e:El),j < k→l[j]? =some e→bad1 l j e=0)∧NetAt w0.heap.size wr g vl vn vb w0.heap.size bp bb (l.take k) ((l.take k).map El.name) (nds (l.take k)) (nds (l.take k)) (brs (l.take k)) (brs (l.take k))∧Below w0.heap.size w0 wr) (fun i _=> l.length - (intOf i).toNat)
   case atStart=> exact ⟨0,_,_,_,Nat.zero_le _,rfl,fun j e h=> by omega,HN0.out,bI.out⟩
   case round=>
    obtain ⟨k,vl,vn,vb,hk,rfl,lW,hN,hb⟩:=hrel;obtain ⟨wo,rfl⟩:∃wo:World,wo=wr:=⟨_,rfl⟩;have gF:=hid lW;clear lW
    by_cases aM:k < l.length
    · obtain ⟨g1,o,x,aZ,hg,hx,aA⟩:=IsSl.atF Tryz.underlying31 hi bD ea_len (HV.out.below hb (Nat.le_refl _)) rfl aM;have HX:=hid hx;have cH:=hid (aY x (List.mem_of_getElem? hx));have c0:=aA 0 _ rfl;have c1:=aA 1 _ rfl;have c2:=aA 2 _ rfl;have c3:=aA 3 _ rfl;have c4:=aA 4 _ rfl;have c5:=aA 5 _ rfl;have c6:=aA 6 _ rfl;have c7:=aA 7 _ rfl;rw [Nat.add_zero] at c0;have HB:=hid hb;have HN:=hid hN;clear aA hb hx hg hN;go_upto_region 7 with fail;have bK:=heap_alloc_new wo (.cells #[.int .u8 x.kind,.string x.name,.string x.a,.string x.b,.string x.c,.string x.d,.float .f64 x.val,.int .i64 x.ph] 35);have hN5:=HN.out.alloc (.cells #[.int .u8 x.kind,.string x.name,.string x.a,.string x.b,.string x.c,.string x.d,.float .f64 x.val,.int .i64 x.ph] 35);have hB5:=HB.out.alloc HB.out.size (.cells #[.int .u8 x.kind,.string x.name,.string x.a,.string x.b,.string x.c,.string x.d,.float .f64 x.val,.int .i64 x.ph] 35);have hgb:w0.heap.size≤wo.heap.size:=HB.out.size;generalize wo.alloc (.cells #[.int .u8 x.kind,.string x.name,.string x.a,.string x.b,.string x.c,.string x.d,.float .f64 x.val,.int .i64 x.ph] 35)=w5 at *;generalize wo.heap.size=gb at *;have bS:=hid bK;have sF:=hid hN5;have cL:=hid hB5;obtain ⟨bJ,fb⟩:=zAc bK;have b0:=bJ 0 _ rfl;have b1:=bJ 1 _ rfl;have b2:=bJ 2 _ rfl;have b3:=bJ 3 _ rfl;have b4:=bJ 4 _ rfl;have b5:=bJ 5 _ rfl;have b6:=bJ 6 _ rfl;have b7:=bJ 7 _ rfl;clear bJ fb bK hN5 hB5 c0 c1 c2 c3 c4 c5 c6 c7
      by_cases jX:zAv x=0
      · have fZ:=hid jX;go_upto_region 8 with (go_at_call 32;refine (vcheck_any x _ cH.out).mono ?_;rintro en w6 ⟨rfl,kO⟩;rw [fZ.out];have HBX6:=hid (zAa kO bS.out);have cJ:=hid (zAd cL.out kO);have vG:=hid (sF.out.kept (zAe kO none));clear kO);clear b0 b1 b2 b3 b4 b5 b6 b7;obtain ⟨bJ,fb⟩:=zAc HBX6.out;have b0:=bJ 0 _ rfl;have b1:=bJ 1 _ rfl;have b2:=bJ 2 _ rfl;have b3:=bJ 3 _ rfl;have b4:=bJ 4 _ rfl;have b5:=bJ 5 _ rfl;have b6:=bJ 6 _ rfl;have b7:=bJ 7 _ rfl;obtain ⟨D,aC,hD⟩:=vG.out.mn;have g2:=(zAc vG.out.blk).1 2 _ rfl;have hh:Maps.has D (Lit.string x.name.data.toList)=has ((l.take k).map El.name) x.name:=(hD.2 x.name).2;rw [has_named] at hh;have eD:=at_plI hD x.name;clear bJ fb hD;go_upto_region 10 with fail;refine wp_region_quiet_lit (by kernel_rfl) (by kernel_rfl) ?_
        repeat (go_big_quiet_step (fail))
        refine wpQuiet_lookup_int rfl _ _ 69 rfl 9 3 .i64 law Tryz.underlying69 Tryz.underlying3 zFj _ _ D rfl aC _ _ rfl (WideMaps.keyOf_string_mk Tryz.underlying9 cH.out.name) _ eD ?_;rw [hh];generalize plI ((l.take k).map El.name) x.name=pl at *;cases wG:zEn (l.take k) x.name
        · have qD:=hid wG;clear wG hh aC eD;go_simp
          repeat (go_big_quiet_step (fail))
          refine wpQuiet_nil ?_;intro nq;have hq:Below w6.heap.size w6 (w6.drewN nq):=zAg (Below.refl _ _) _;have HN7:=hid (vG.out.kept (zAe hq none));have hbx7:=zAa hq HBX6.out;have cT:=hid (zAd cJ.out hq);clear hq;generalize w6.drewN nq=w7 at *;clear b0 b1 b2 b3 b4 b5 b6 b7 g2;obtain ⟨bJ,fb⟩:=zAc hbx7;have b0:=bJ 0 _ rfl;have b1:=bJ 1 _ rfl;have b2:=bJ 2 _ rfl;have b3:=bJ 3 _ rfl;have b4:=bJ 4 _ rfl;have b5:=bJ 5 _ rfl;have b6:=bJ 6 _ rfl;have b7:=bJ 7 _ rfl;clear bJ hbx7;have l1:(l.take k).length≤100000:=by rw [List.length_take];omega
          have l2:((l.take k).map El.name).length=(l.take k).length:=List.length_map _;have l3:(nds (l.take k)).length≤400000:=Nat.le_trans (nds_len _) (by omega);have l4:(brs (l.take k)).length≤100000:=Nat.le_trans (brs_len _) l1;have n1:has ((l.take k).map El.name) x.name=false:=by rw [has_named];exact qD.out
          have n2:has (brs (l.take k)) x.name=false:=brs_named qD.out;go_wp2_with (go_at_call 33;refine (put_any x _ HN7.out cT.out.size cH.out l1 l2 l3 l4 n1 n2).mono ?_;rintro en w8 ⟨rfl,hb8,vl',vn',vb',hN8⟩;have eE:=hid (cT.out.trans hb8);have tW:=hid hN8;clear hb8 hN8);go_roundw
          case rel=>
           have e1:l.take (k+1)=l.take k++ [x]:=by
            obtain ⟨iA,e⟩:=List.getElem?_eq_some_iff.1 HX.out;rw [List.take_succ_eq_append_getElem iA,e]
           refine ⟨k+1,vl',vn',vb',by omega,by go_num,fun j e hj he=> ?_,?_,eE.out⟩
           · rcases Nat.lt_or_ge j k with h | h
             · exact gF.out j e h he
             · obtain rfl:j=k:=by omega
               rw [HX.out] at he;cases he;exact bad1_not fZ.out qD.out
           · rw [nds_snoc HX.out,brs_snoc HX.out,e1,List.map_append];exact tW.out
          case measure=> simp [intOf];omega
        · have qD:=hid wG;clear wG hh aC eD;go_simp
          repeat (go_big_quiet_step (fail))
          refine wpQuiet_nil ?_;intro nq;have cT:=hid (zAg cJ.out nq);obtain ⟨hA1,fA⟩:=zAc (zAa cJ.out HA.out);have k0:=hA1 0 _ rfl;have k1:=hA1 1 _ rfl;clear hA1 b0 b1 b2 b3 b4 b5 b6 b7 g2;go_wp2
          (try rw [Exit.noGoto_ret])
          refine bodyPost_ret (v:=.tuple #[.pointer none,.agg #[.int .i64 9,.int .i64 k]]) ?_ rfl (zDn ?_ ?_)
          · rw [zAq rfl];go_simp
          · have hb9:bad1 l k x=9:=bad1_named fZ.out qD.out;have:=ofL_bad HL.out HX.out gF.out (by rw [hb9];decide)
            rwa [hb9] at this
          · exact ((zAd bC.out cT.out).setCell (Nat.le_refl _) _).setCell (Nat.le_refl _) _
      · have fZ:=hid jX;have zO:(zAv x==0)=false:=by simpa using jX
        go_wp2_with (go_at_call 32;refine (vcheck_any x _ cH.out).mono ?_;rintro en w1 ⟨rfl,aI⟩;have aL:=hid (zAd cL.out aI);have hA1:=(zAc (zAa aL.out HA.out)).1;have fA:=(zAc (zAa aL.out HA.out)).2;have k0:=hA1 0 _ rfl;have k1:=hA1 1 _ rfl;clear aI hA1)
        (try rw [Exit.noGoto_ret])
        refine bodyPost_ret (v:=.tuple #[.pointer none,.agg #[.int .i64 (zAv x),.int .i64 k]]) ?_ rfl (zDn ?_ ?_)
        · rw [zAq rfl];go_simp
        · have:=ofL_bad HL.out HX.out gF.out (by rw [bad1_chk fZ.out];exact fZ.out)
          rwa [bad1_chk fZ.out] at this
        · exact ((zAd bC.out aL.out).setCell (Nat.le_refl _) _).setCell (Nat.le_refl _) _
    · obtain rfl:k=l.length:=by omega
      have mC:=ofL_good HL.out (fun j e he=> gF.out j e (List.getElem?_eq_some_iff.1 he).1 he);have HG:=hid mC;have HB:=hid hb;rw [List.take_length] at hN;obtain ⟨an,cn,rfl⟩:=(IsSl.of_own hN.on).form;have g3:=(zAc hN.blk).1 3 _ rfl;have hNN:NN wo (.pointer (some ⟨g,0,none⟩)) l:=.inr ⟨_,_,_,_,_,_,_,_,rfl,hN⟩;have lP:=hid hNN;clear mC hb hN hNN
      by_cases zR:32 < (nds l).length
      · have zH:32 < ((nds l).length:Int):=by omega
        have eM:=hid (HG.out.trans (if_pos (.inl zR)));obtain ⟨hA1,fA⟩:=zAc (zAa HB.out HA.out);have k0:=hA1 0 _ rfl;have k1:=hA1 1 _ rfl;clear hA1;go_wp2_with fail
        (try rw [Exit.noGoto_ret])
        refine bodyPost_ret (v:=.tuple #[.pointer none,.agg #[.int .i64 3,.int .i64 (-1)]]) ?_ rfl (zDn eM.out ?_)
        · rw [zAq rfl];go_simp
        · exact ((zAd bC.out HB.out).setCell (Nat.le_refl _) _).setCell (Nat.le_refl _) _
      · have zH:((nds l).length:Int)≤32:=by omega
        by_cases h64:64 < (nds l).length+(brs l).length
        · have zG:64 < ((nds l).length:Int)+((brs l).length:Int):=by omega
          have eM:=hid (HG.out.trans (if_pos (.inr h64)));go_wp2_with (go_at_call 34;refine (zEf _ l _ lP.out hlen).mono ?_;rintro en w4 ⟨rfl,cI⟩;have bI:=hid (zAd HB.out cI);have hA1:=(zAc (zAa bI.out HA.out)).1;have fA:=(zAc (zAa bI.out HA.out)).2;have k0:=hA1 0 _ rfl;have k1:=hA1 1 _ rfl;clear cI hA1)
          (try rw [Exit.noGoto_ret])
          refine bodyPost_ret (v:=.tuple #[.pointer none,.agg #[.int .i64 3,.int .i64 (-1)]]) ?_ rfl (zDn eM.out ?_)
          · rw [zAq rfl];go_simp
          · exact ((zAd bC.out bI.out).setCell (Nat.le_refl _) _).setCell (Nat.le_refl _) _
        · have zG:((nds l).length:Int)+((brs l).length:Int)≤64:=by omega
          have eM:=hid (HG.out.trans (if_neg (by omega)));go_wp2_with (go_at_call 34;refine (zEf _ l _ lP.out hlen).mono ?_;rintro en w4 ⟨rfl,cI⟩;have vH:=hid (lP.out.below' cI);have bI:=hid (zAd HB.out cI);have hA1:=(zAc (zAa bI.out HA.out)).1;have fA:=(zAc (zAa bI.out HA.out)).2;have k0:=hA1 0 _ rfl;have k1:=hA1 1 _ rfl;clear cI hA1)
          (try rw [Exit.noGoto_ret])
          refine bodyPost_ret (v:=.tuple #[.pointer (some ⟨g,0,none⟩),.agg #[.int .i64 0,.int .i64 0]]) ?_ rfl ⟨_,by rw [eM.out],.inr ⟨by rw [eM.out],by simp,?_⟩,?_⟩
          · rw [zAq rfl];go_simp
          · rw [zEv (zAa bI.out HA.out) rfl,zEv (zAa bI.out HA.out) rfl];exact vH.out
          · exact ((zAd bC.out bI.out).setCell (Nat.le_refl _) _).setCell (Nat.le_refl _) _
end
end Go.Proofs.YtdepiggjneoopaaGreatDoor
