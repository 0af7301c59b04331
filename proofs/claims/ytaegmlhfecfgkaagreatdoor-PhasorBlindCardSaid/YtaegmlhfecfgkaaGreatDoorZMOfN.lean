/- a part of the proof of the last text -/
import Derived.Test.YtaegmlhfecfgkaaGreatDoorZPut
namespace Go.Proofs.YtaegmlhfecfgkaaGreatDoor
set_option linter.all false
set_option maxHeartbeats 4000000
set_option maxRecDepth 100000
section
open Go.RowKit
end
section
open Go.RowKit Go.Maps
def NN (w:World) (p:Value) (l:List El):Prop:=
 (p=.pointer none∧l= [])∨∃ (B g:Nat) (vl vn vb:Value) (bn bp bb:Nat),p=.pointer (some ⟨g,0,none⟩)∧NetAt B w g vl vn vb bn bp bb l (l.map El.name) (nds l) (nds l) (brs l) (brs l)
theorem NN.below {w w':World} {B:Nat} {p:Value} {l:List El} (h:NN w p l) (hb:Below B w w') (hB:w.heap.size≤B):NN w' p l:=by
 rcases h with h | ⟨B1,g,vl,vn,vb,bn,bp,bb,hp,h⟩
 · exact .inl h
 · exact .inr ⟨B1,g,vl,vn,vb,bn,bp,bb,hp,h.kept ⟨hb.os,hb.tape,hb.output,hb.size,fun k hk _=> hb.block k (Nat.lt_of_lt_of_le hk hB)⟩⟩
theorem NN.below' {w w1:World} {p:Value} {l:List El} (h:NN w p l) (hb:Below w.heap.size w w1):NN w1 p l:=h.below hb (Nat.le_refl _)
theorem at_place {D:DU} {l:List ByteArray} {s:ByteArray} {c:Int} (hD:MapIs D l) (h:D.atKey (kls s) (plD 0)=plD c):c=plI l s:=by
 have h2:=(hD.2 s).1.symm.trans h;unfold plD at h2
 injection h2 with h3
 injection h3 with _ h4
 exact h4.symm
theorem has_named (l:List El) (s:ByteArray):has (l.map El.name) s=named l s:=by
 unfold has named;rw [List.any_map]
 rfl
theorem nis_nil (w:World):Calls Tryz.prog 58 #[.pointer none] w fun e w'=> e=.returned (.bool false)∧w=w':=by
 go_enter Tryz.func58,Tryz.ntmps58;go_wp2;go_ret;exact ⟨rfl,rfl⟩
theorem nis_made (g:Nat) (w:World) (h1:w.cell? ⟨g,0,none⟩=some (.bool true)):Calls Tryz.prog 58 #[.pointer (some ⟨g,0,none⟩)] w fun e w'=> e=.returned (.bool true)∧w=w':=by
 go_enter Tryz.func58,Tryz.ntmps58;go_wp2;go_ret;exact ⟨rfl,rfl⟩
theorem nelements_any (p:Value) (l:List El) (w:World) (hp:NN w p l) (hl:l.length≤100000):
 Calls Tryz.prog 42 #[p] w (RetRow 47 8 l.length (fun xs=> xs=l.flatMap ea) w):=by
 obtain ⟨i0,hi,hz0,hz1,hz2⟩:=info_parts infoEa;skip;rcases hp with ⟨rfl,rfl⟩ | ⟨B,g,vl,vn,vb,bn,bp,bb,rfl,h⟩
 · go_enter Tryz.func42,Tryz.ntmps42;go_wp2_with (go_at_call 58;refine (nis_nil _).mono ?_;rintro e w1 ⟨rfl,rfl⟩)
   (try rw [Exit.noGoto_ret])
   go_ret;exact ⟨_,_,rfl,World.ownsRow_nil _ _ _ _,rfl,Below.refl _ _⟩
 · obtain ⟨hc,_⟩:=block_cells h.blk;have c0:=hc 0 _ rfl;have cv:=hc 1 _ rfl;have HS:=hid (IsSl.of_own h.ol);clear hc h;have HC:=hid c0;go_enter Tryz.func42,Tryz.ntmps42;go_wp2_with (first | (go_at_call 58;refine (nis_made _ _ HC.out).mono ?_;rintro e w1 ⟨rfl,rfl⟩) | (refine wpList_appendAll rfl _ _ _ rfl w.heap.size 47 8 104 i0 (.agg #[.int .u8 0,.string ⟨#[]⟩,.string ⟨#[]⟩,.string ⟨#[]⟩,.string ⟨#[]⟩,.string ⟨#[]⟩,.float .f64 0,.int .i64 0]) Tryz.underlying45 hi hz0 hz1 hz2 rfl (by decide) _ 0 [] (World.ownsRow_nil _ _ _ _) (Nat.le_refl _) _ _ _ HS.out rfl rfl (by intro u hu;obtain ⟨z,_,hz⟩:=List.mem_flatMap.1 hu;exact ea_one z u hz) (by simp [maxLen];omega) (by omega) ?_;intro v1 w1 hown1 hgr1 hat1));go_ret;refine ⟨_,_,rfl,?_,rfl,(Below.refl _ _).grown hgr1 (Nat.le_refl _) (by intro k e;cases e)⟩
   simpa using hown1
theorem nnodes_any (p:Value) (l:List El) (w:World) (hp:NN w p l) (hl:l.length≤100000):
 Calls Tryz.prog 37 #[p] w (RetRow 9 1 (nds l).length (fun xs=> xs=sts (nds l)) w):=by
 obtain ⟨i0,hi,hz0,hz1,hz2⟩:=info_parts infoSt;have hn:=nds_len l;rcases hp with ⟨rfl,rfl⟩ | ⟨B,g,vl,vn,vb,bn,bp,bb,rfl,h⟩
 · go_enter Tryz.func37,Tryz.ntmps37;go_wp2_with (go_at_call 58;refine (nis_nil _).mono ?_;rintro e w1 ⟨rfl,rfl⟩)
   (try rw [Exit.noGoto_ret])
   go_ret;exact ⟨_,_,rfl,World.ownsRow_nil _ _ _ _,rfl,Below.refl _ _⟩
 · obtain ⟨hc,_⟩:=block_cells h.blk;have c0:=hc 0 _ rfl;have cv:=hc 3 _ rfl;have HS:=hid (IsSl.of_own h.on);clear hc h;have HC:=hid c0;go_enter Tryz.func37,Tryz.ntmps37;go_wp2_with (first | (go_at_call 58;refine (nis_made _ _ HC.out).mono ?_;rintro e w1 ⟨rfl,rfl⟩) | (refine wpList_appendAll rfl _ _ _ rfl w.heap.size 9 1 16 i0 (.string ⟨#[]⟩) Tryz.underlying71 hi hz0 hz1 hz2 rfl (by decide) _ 0 [] (World.ownsRow_nil _ _ _ _) (Nat.le_refl _) _ _ _ HS.out rfl rfl (by intro u hu;exact sts_one hu) (by simp [maxLen];omega) (by omega) ?_;intro v1 w1 hown1 hgr1 hat1));go_ret;refine ⟨_,_,rfl,?_,rfl,(Below.refl _ _).grown hgr1 (Nat.le_refl _) (by intro k e;cases e)⟩
   simpa using hown1
theorem nplace_any (p:Value) (l:List El) (s:ByteArray) (w:World) (hp:NN w p l) (hs:s.size≤maxLen):
 Calls Tryz.prog 80 #[p,.string s] w (fun e w'=> e=.returned (.tuple #[.int .i64 (plI (nds l) s),.bool (has (nds l) s)])∧w=w'):=by
 have law:Keyed Tryz.prog 9 :=string_keyed Tryz.underlying9;rcases hp with ⟨rfl,rfl⟩ | ⟨B,g,vl,vn,vb,bn,bp,bb,rfl,h⟩
 · go_enter Tryz.func80,Tryz.ntmps80;go_wp2_with (go_at_call 58;refine (nis_nil _).mono ?_;rintro e w1 ⟨rfl,rfl⟩)
   (try rw [Exit.noGoto_ret])
   refine bodyPost_ret (v:=.tuple #[.int .i64 0,.bool false]) ?_ rfl ⟨rfl,rfl⟩;rw [results_tmp2 rfl];rfl
 · obtain ⟨hc,_⟩:=block_cells h.blk;have c0:=hc 0 _ rfl;have cv:=hc 4 _ rfl;obtain ⟨D,hown,hD⟩:=h.mp;have hh:Maps.has D (Lit.string s.data.toList)=has (nds l) s:=(hD.2 s).2;have HC:=hid c0;have HD:=hid hD;clear hc h hD;go_enter Tryz.func80,Tryz.ntmps80;go_wp2_with (first | (go_at_call 58;refine (nis_made _ _ HC.out).mono ?_;rintro e w1 ⟨rfl,rfl⟩) | (at_lookup;refine wpList_lookup_own_ok_int _ rfl _ _ 70 rfl 9 3 .i64 law Tryz.underlying70 Tryz.underlying3 (zeroInt _) bp _ D rfl hown _ _ rfl (WideMaps.keyOf_string_mk Tryz.underlying9 hs) ?_;intro c hat hwc;rw [hh];have hcc:=hid (at_place HD.out hat);clear hat hwc))
   (try rw [Exit.noGoto_ret])
   refine bodyPost_ret (v:=.tuple #[.int .i64 c,.bool (has (nds l) s)]) ?_ rfl ⟨by rw [←hcc.out],rfl⟩;rw [results_tmp2 rfl];rfl
theorem nbranch_any (p:Value) (l:List El) (s:ByteArray) (w:World) (hp:NN w p l) (hs:s.size≤maxLen):
 Calls Tryz.prog 46 #[p,.string s] w (fun e w'=> e=.returned (.tuple #[.int .i64 (plI (brs l) s),.bool (has (brs l) s)])∧w=w'):=by
 have law:Keyed Tryz.prog 9 :=string_keyed Tryz.underlying9;rcases hp with ⟨rfl,rfl⟩ | ⟨B,g,vl,vn,vb,bn,bp,bb,rfl,h⟩
 · go_enter Tryz.func46,Tryz.ntmps46;go_wp2_with (go_at_call 58;refine (nis_nil _).mono ?_;rintro e w1 ⟨rfl,rfl⟩)
   (try rw [Exit.noGoto_ret])
   refine bodyPost_ret (v:=.tuple #[.int .i64 0,.bool false]) ?_ rfl ⟨rfl,rfl⟩;rw [results_tmp2 rfl];rfl
 · obtain ⟨hc,_⟩:=block_cells h.blk;have c0:=hc 0 _ rfl;have cv:=hc 6 _ rfl;obtain ⟨D,hown,hD⟩:=h.mb;have hh:Maps.has D (Lit.string s.data.toList)=has (brs l) s:=(hD.2 s).2;have HC:=hid c0;have HD:=hid hD;clear hc h hD;go_enter Tryz.func46,Tryz.ntmps46;go_wp2_with (first | (go_at_call 58;refine (nis_made _ _ HC.out).mono ?_;rintro e w1 ⟨rfl,rfl⟩) | (at_lookup;refine wpList_lookup_own_ok_int _ rfl _ _ 70 rfl 9 3 .i64 law Tryz.underlying70 Tryz.underlying3 (zeroInt _) bb _ D rfl hown _ _ rfl (WideMaps.keyOf_string_mk Tryz.underlying9 hs) ?_;intro c hat hwc;rw [hh];have hcc:=hid (at_place HD.out hat);clear hat hwc))
   (try rw [Exit.noGoto_ret])
   refine bodyPost_ret (v:=.tuple #[.int .i64 c,.bool (has (brs l) s)]) ?_ rfl ⟨by rw [←hcc.out],rfl⟩;rw [results_tmp2 rfl];rfl
theorem norder_any (p:Value) (l:List El) (w:World) (hp:NN w p l) (hl:l.length≤100000):
 Calls Tryz.prog 27 #[p] w (RetI ((nds l).length+(brs l).length) w):=by
 have hn:=nds_len l;have hbl:=brs_len l;have hw:IntKind.i64.wrap (((nds l).length:Int)+((brs l).length:Int))=((nds l).length:Int)+((brs l).length:Int):=by
  unfold IntKind.wrap
  first | (simp [IntKind.bits,IntKind.signed];omega) | (simp;omega)
 rcases hp with ⟨rfl,rfl⟩ | ⟨B,g,vl,vn,vb,bn,bp,bb,rfl,h⟩
 · go_enter Tryz.func27,Tryz.ntmps27;go_wp2_with (go_at_call 58;refine (nis_nil _).mono ?_;rintro e w1 ⟨rfl,rfl⟩)
   (try rw [Exit.noGoto_ret])
   go_ret;exact ⟨rfl,Below.refl _ _⟩
 · obtain ⟨an,cn,rfl⟩:=(IsSl.of_own h.on).form;obtain ⟨ab,cb,rfl⟩:=(IsSl.of_own h.ob).form;obtain ⟨hc,_⟩:=block_cells h.blk;have c0:=hc 0 _ rfl;have c3:=hc 3 _ rfl;have c5:=hc 5 _ rfl;clear hc h;have HC:=hid c0;go_enter Tryz.func27,Tryz.ntmps27;go_upto_region 3 with (go_at_call 58;refine (nis_made _ _ HC.out).mono ?_;rintro e w1 ⟨rfl,rfl⟩)
   go_quiet (fail)
   go_wp2;go_ret;exact ⟨ret_int (by first | rfl | simpa using hw),below_n (Below.refl _ _) _⟩
def noNet:Value→Bool
 | .pointer none=> true
 | _=> false
theorem nwithout_none (p:Value) (l:List El) (w:World) (hp:NN w p l) (hn:has (l.map El.name) ⟨#[]⟩=false):
 Calls Tryz.prog 67 #[p,.string ⟨#[]⟩] w (fun e w'=> e=.returned (.tuple #[.pointer none,.int .i64 (if noNet p=true then 1 else 10)])∧w=w'):=by
 have law:Keyed Tryz.prog 9 :=string_keyed Tryz.underlying9;rcases hp with ⟨rfl,rfl⟩ | ⟨B,g,vl,vn,vb,bn,bp,bb,rfl,h⟩
 · rw [show noNet (.pointer none)=true from rfl,if_pos rfl];go_enter Tryz.func67,Tryz.ntmps67;go_wp2_with (go_at_call 58;refine (nis_nil _).mono ?_;rintro e w1 ⟨rfl,rfl⟩)
   (try rw [Exit.noGoto_ret])
   refine bodyPost_ret (v:=.tuple #[.pointer none,.int .i64 1]) ?_ rfl ⟨rfl,rfl⟩;rw [results_tmp2 rfl];rfl
 · rw [if_neg (by simp [noNet])];obtain ⟨hc,_⟩:=block_cells h.blk;have c0:=hc 0 _ rfl;have cv:=hc 2 _ rfl;obtain ⟨D,hown,hD⟩:=h.mn;have hh:Maps.has D (Lit.string (⟨#[]⟩:ByteArray).data.toList)=false:=(hD.2 ⟨#[]⟩).2.trans hn;have HC:=hid c0;clear hc h hD;go_enter Tryz.func67,Tryz.ntmps67;go_wp2_with (first | (go_at_call 58;refine (nis_made _ _ HC.out).mono ?_;rintro e w1 ⟨rfl,rfl⟩) | (at_lookup;refine wpList_lookup_own_ok_int _ rfl _ _ 70 rfl 9 3 .i64 law Tryz.underlying70 Tryz.underlying3 (zeroInt _) bn _ D rfl hown _ _ rfl (WideMaps.keyOf_string_mk Tryz.underlying9 (by decide)) ?_;intro c hat hwc;rw [hh];clear hat hwc))
   (try rw [Exit.noGoto_ret])
   refine bodyPost_ret (v:=.tuple #[.pointer none,.int .i64 10]) ?_ rfl ⟨rfl,rfl⟩;rw [results_tmp2 rfl];rfl
end
section
open Go.RowKit Go.Maps
theorem wpQuiet_lookup_int {H:Type} {P:Program} {w:World} {ops:Array Oper} {rest:List Oper} {o:Oper} {a:Act} {Q:Act→Prop}
 (hg:o.guard=none) (m x:Operand) (t:TypeId) (hop:o.op=Op.lookup t m x true)
 (k e:TypeId) (q:IntKind) (K:Keyed P k) (ht:P.underlying t=some (.map k e)) (he:P.underlying e=some (.int q)) (hz:∀w,(zeroValue e).run P w=.ok (.int q 0) w) (b n:Nat) (D:DataW H)
 (hm:a.eval m=.map (some b)) (hown:w.ownsMap P k (plainElem P e) b n D) (key:Value) (kl:Lit) (hx:a.eval x=key) (hkey:keyOf P k key=some kl)
 (c:Int) (hc:D.atKey kl (.lit (.int q 0))=.lit (.int q c))
 (hK:wpQuiet P ops (fun w'=> ∃n,w'=w.drewN n) Q rest (a.put o.dst (.tuple #[.int q c,.bool (Maps.has D kl)]))):
 wpQuiet P ops (fun w'=> ∃n,w'=w.drewN n) Q (o::rest) a:=by
 refine BigFrame.wpQuiet_want (by simp [Region.wanted,hg]) fun K' hK'=> ⟨_,fun w' hw=> ?_,hK' _ hK⟩
 obtain ⟨j,rfl⟩:=hw;have hown2:(w.drewN j).ownsMap P k (plainElem P e) b n D:=hown;obtain ⟨v,ps,hrun,hv⟩:=hown2.look_ok K ht (hz _) (plainElem_int he (by cases q <;> decide)) hkey;obtain ⟨c',rfl,hc',_⟩:=plainElem_int_inv he hv;have h2:=congrArg Prod.fst hc';simp only at h2;rw [hc] at h2
 injection h2 with h3
 injection h3 with _ h4
 subst h4;unfold Oper.quietAt
 simp [execOp,hop,hm,hx,hrun,Result.andThen,Oper.quietUpon]
theorem at_plI {D:DU} {l:List ByteArray} (hD:MapIs D l) (s:ByteArray):D.atKey (Lit.string s.data.toList) (.lit (.int .i64 0))=.lit (.int .i64 (plI l s)):=(hD.2 s).1
theorem mapAt_empty {w w':World} (hg:(w.alloc (.map #[] 0)).grownBy w' none):MapAt w' w.heap.size []:=
 ⟨.map [],(World.ownsMap_made w _ _ _).kept hg (by simp),mapIs_empty⟩
theorem netAt_new (w:World) (t:TypeId) (ht:t=73):NetAt w.heap.size ((((w.alloc (.map #[] 0)).alloc (.map #[] 0)).alloc (.map #[] 0)).alloc (.cells #[.bool true,.slice none 0 0,.map (some w.heap.size),.slice none 0 0,.map (some (w.heap.size+1)),.slice none 0 0,.map (some (w.heap.size+1+1))] t)) (w.heap.size+1+1+1) (.slice none 0 0) (.slice none 0 0) (.slice none 0 0) w.heap.size (w.heap.size+1) (w.heap.size+1+1) [] [] [] [] [] []:=by
 subst ht;have s1:(w.alloc (.map #[] 0)).heap.size=w.heap.size+1:=by simp
 have s2:((w.alloc (.map #[] 0)).alloc (.map #[] 0)).heap.size=w.heap.size+1+1:=by simp
 have s3:(((w.alloc (.map #[] 0)).alloc (.map #[] 0)).alloc (.map #[] 0)).heap.size=w.heap.size+1+1+1:=by simp
 exact
 {gB:=by omega
  blk:=by have:=heap_alloc_new (((w.alloc (.map #[] 0)).alloc (.map #[] 0)).alloc (.map #[] 0)) (.cells #[.bool true,.slice none 0 0,.map (some w.heap.size),.slice none 0 0,.map (some (w.heap.size+1)),.slice none 0 0,.map (some (w.heap.size+1+1))] 73);rwa [s3] at this
  ol:=World.ownsRow_nil _ _ _ _
  on:=World.ownsRow_nil _ _ _ _
  ob:=World.ownsRow_nil _ _ _ _
  lg:=by intro h;cases h
  ng:=by intro h;cases h
  bg:=by intro h;cases h
  ln:=by intro r h;cases h
  lb:=by intro r h;cases h
  nb:=by intro r h;cases h
  bnB:=Nat.le_refl _
  bpB:=by omega
  bbB:=by omega
  np:=by omega
  nbb:=by omega
  pb:=by omega
  mn:=mapAt_empty (grown_trans (grown_trans (World.grownBy_alloc _ _ none) (World.grownBy_alloc _ _ none)) (World.grownBy_alloc _ _ none))
  mp:=by have:=mapAt_empty (w:=w.alloc (.map #[] 0)) (grown_trans (World.grownBy_alloc _ (.map #[] 0) none) (World.grownBy_alloc _ (.cells #[.bool true,.slice none 0 0,.map (some w.heap.size),.slice none 0 0,.map (some (w.heap.size+1)),.slice none 0 0,.map (some (w.heap.size+1+1))] 73) none));rwa [s1] at this
  mb:=by have:=mapAt_empty (w:=(w.alloc (.map #[] 0)).alloc (.map #[] 0)) (World.grownBy_alloc _ (.cells #[.bool true,.slice none 0 0,.map (some w.heap.size),.slice none 0 0,.map (some (w.heap.size+1)),.slice none 0 0,.map (some (w.heap.size+1+1))] 73) none);rwa [s2] at this}
theorem brs_snoc {l:List El} {k:Nat} {x:El} (h:l[k]? =some x):brs (l.take (k+1))=brN (brs (l.take k)) x:=by
 cases hx:isBr x
 · rw [brs_no h hx,brN_no hx]
 · rw [brs_yes h hx,brN_yes hx]
theorem brs_named {l:List El} {s:ByteArray} (h:named l s=false):has (brs l) s=false:=by
 cases e:has (brs l) s
 · rfl
 · have:=(has_iff _ _).1 e;obtain ⟨x,hx,hn⟩:=List.mem_map.1 this;have hm:has (l.map El.name) s=true:=(has_iff _ _).2 (List.mem_map.2 ⟨x,(List.mem_filter.1 hx).1,hn⟩);rw [has_named,h] at hm;cases hm
theorem nof_any (v:Value) (l:List El) (w:World) (hv:IsSl w 8 v l.length (l.flatMap ea)) (hok:∀e∈l,e.Ok) (hlen0:l.length≤140737488355328):
 Calls Tryz.prog 11 #[v] w (RetOf NN l w):=by
 obtain ⟨a,c,rfl⟩:=hv.form;obtain ⟨i0,hi,hz0,hz1,hz2⟩:=info_parts infoEa;have law:Keyed Tryz.prog 9 :=string_keyed Tryz.underlying9;have hmm:=@run_makeMap Tryz.prog
 by_cases hl:256 < l.length
 · go_enter Tryz.func11,Tryz.ntmps11;have hl2:256 < (l.length:Int):=by omega
   go_wp2
   (try rw [Exit.noGoto_ret])
   refine bodyPost_ret (v:=.tuple #[.pointer none,.agg #[.int .i64 3,.int .i64 (-1)]]) ?_ rfl (retof_no (ofL_long hl) ?_)
   · rw [results_tmp_cell rfl];go_simp
   · exact (Below.refl _ w).alloc (Nat.le_refl _) _
 · have hl2:¬256 < (l.length:Int):=by omega
   have hlen:l.length≤100000:=by omega
   have HL:=hid hl;clear hl;go_enter Tryz.func11,Tryz.ntmps11;go_upto_region 3 with fail;have hA:=heap_alloc_new w (.cells #[.int .i64 0,.int .i64 0] 38);have hBW:=(Below.refl w.heap.size w).alloc (Nat.le_refl _) (.cells #[.int .i64 0,.int .i64 0] 38);have hlt0:w.heap.size < (w.alloc (.cells #[.int .i64 0,.int .i64 0] 38)).heap.size:=by simp
   have hv0:=hv.below hBW (Nat.le_refl _);generalize w.alloc (.cells #[.int .i64 0,.int .i64 0] 38)=w0 at *;have HA:=hid hA;have HBW:=hid hBW;have HV:=hid hv0;clear hA hBW hv0 hv;go_upto_region 4 with fail;have hN:=netAt_new w0 _ rfl;have hB4:Below w0.heap.size w0 ((((w0.alloc (.map #[] 0)).alloc (.map #[] 0)).alloc (.map #[] 0)).alloc (.cells #[.bool true,.slice none 0 0,.map (some w0.heap.size),.slice none 0 0,.map (some (w0.heap.size+1)),.slice none 0 0,.map (some (w0.heap.size+1+1))] 73)):=((((Below.refl _ w0).alloc (Nat.le_refl _) _).alloc (by simp) _).alloc (by simp;omega) _).alloc (by simp;omega) _;generalize ((((w0.alloc (.map #[] 0)).alloc (.map #[] 0)).alloc (.map #[] 0)).alloc (.cells #[.bool true,.slice none 0 0,.map (some w0.heap.size),.slice none 0 0,.map (some (w0.heap.size+1)),.slice none 0 0,.map (some (w0.heap.size+1+1))] 73))=w4 at *;generalize w0.heap.size+1+1+1=g at *;generalize w0.heap.size+1+1=bb at *;generalize w0.heap.size+1=bp at *;have HN0:=hid hN;have HB4:=hid hB4;clear hN hB4;go_upto_region 5 with fail
   go_loopw [21] (fun i wr=> ∃ (k:Nat) (vl vn vb:Value),k≤l.length∧i=.int .i64 k∧(∀ (j:Nat) (e:El),j < k→l[j]? =some e→bad1 l j e=0)∧NetAt w0.heap.size wr g vl vn vb w0.heap.size bp bb (l.take k) ((l.take k).map El.name) (nds (l.take k)) (nds (l.take k)) (brs (l.take k)) (brs (l.take k))∧Below w0.heap.size w0 wr) (fun i _=> l.length - (intOf i).toNat)
   case atStart=> exact ⟨0,_,_,_,Nat.zero_le _,rfl,fun j e h=> by omega,HN0.out,HB4.out⟩
   case round=>
    obtain ⟨k,vl,vn,vb,hk,rfl,hno,hN,hb⟩:=hrel;obtain ⟨wo,rfl⟩:∃wo:World,wo=wr:=⟨_,rfl⟩;have HNO:=hid hno;clear hno
    by_cases hlt:k < l.length
    · obtain ⟨g1,o,x,hidx,hg,hx,hcell⟩:=IsSl.atF Tryz.underlying45 hi hz1 ea_len (HV.out.below hb (Nat.le_refl _)) rfl hlt;have HX:=hid hx;have HOK:=hid (hok x (List.mem_of_getElem? hx));have c0:=hcell 0 _ rfl;have c1:=hcell 1 _ rfl;have c2:=hcell 2 _ rfl;have c3:=hcell 3 _ rfl;have c4:=hcell 4 _ rfl;have c5:=hcell 5 _ rfl;have c6:=hcell 6 _ rfl;have c7:=hcell 7 _ rfl;rw [Nat.add_zero] at c0;have HB:=hid hb;have HN:=hid hN;clear hcell hb hx hg hN;go_upto_region 7 with fail;have hbx:=heap_alloc_new wo (.cells #[.int .u8 x.kind,.string x.name,.string x.a,.string x.b,.string x.c,.string x.d,.float .f64 x.val,.int .i64 x.ph] 47);have hN5:=HN.out.alloc (.cells #[.int .u8 x.kind,.string x.name,.string x.a,.string x.b,.string x.c,.string x.d,.float .f64 x.val,.int .i64 x.ph] 47);have hB5:=HB.out.alloc HB.out.size (.cells #[.int .u8 x.kind,.string x.name,.string x.a,.string x.b,.string x.c,.string x.d,.float .f64 x.val,.int .i64 x.ph] 47);have hgb:w0.heap.size≤wo.heap.size:=HB.out.size;generalize wo.alloc (.cells #[.int .u8 x.kind,.string x.name,.string x.a,.string x.b,.string x.c,.string x.d,.float .f64 x.val,.int .i64 x.ph] 47)=w5 at *;generalize wo.heap.size=gb at *;have HBX:=hid hbx;have HN5:=hid hN5;have HB5:=hid hB5;obtain ⟨hbc,fb⟩:=block_cells hbx;have b0:=hbc 0 _ rfl;have b1:=hbc 1 _ rfl;have b2:=hbc 2 _ rfl;have b3:=hbc 3 _ rfl;have b4:=hbc 4 _ rfl;have b5:=hbc 5 _ rfl;have b6:=hbc 6 _ rfl;have b7:=hbc 7 _ rfl;clear hbc fb hbx hN5 hB5 c0 c1 c2 c3 c4 c5 c6 c7
      by_cases hck:checkE x=0
      · have HCK:=hid hck;go_upto_region 8 with (go_at_call 25;refine (vcheck_any x _ HOK.out).mono ?_;rintro en w6 ⟨rfl,hb6⟩;rw [HCK.out];have HBX6:=hid (heap_later2 hb6 HBX.out);have HB6:=hid (below_next HB5.out hb6);have HN6:=hid (HN5.out.kept (grown_of_below hb6 none));clear hb6);clear b0 b1 b2 b3 b4 b5 b6 b7;obtain ⟨hbc,fb⟩:=block_cells HBX6.out;have b0:=hbc 0 _ rfl;have b1:=hbc 1 _ rfl;have b2:=hbc 2 _ rfl;have b3:=hbc 3 _ rfl;have b4:=hbc 4 _ rfl;have b5:=hbc 5 _ rfl;have b6:=hbc 6 _ rfl;have b7:=hbc 7 _ rfl;obtain ⟨D,hown,hD⟩:=HN6.out.mn;have g2:=(block_cells HN6.out.blk).1 2 _ rfl;have hh:Maps.has D (Lit.string x.name.data.toList)=has ((l.take k).map El.name) x.name:=(hD.2 x.name).2;rw [has_named] at hh;have hat:=at_plI hD x.name;clear hbc fb hD;go_upto_region 10 with fail;refine wp_region_quiet_lit (by kernel_rfl) (by kernel_rfl) ?_
        repeat (go_big_quiet_step (fail))
        refine wpQuiet_lookup_int rfl _ _ 70 rfl 9 3 .i64 law Tryz.underlying70 Tryz.underlying3 zeroInt _ _ D rfl hown _ _ rfl (WideMaps.keyOf_string_mk Tryz.underlying9 HOK.out.name) _ hat ?_;rw [hh];generalize plI ((l.take k).map El.name) x.name=pl at *;cases hnm:named (l.take k) x.name
        · have HNM:=hid hnm;clear hnm hh hown hat;go_simp
          repeat (go_big_quiet_step (fail))
          refine wpQuiet_nil ?_;intro nq;have hq:Below w6.heap.size w6 (w6.drewN nq):=below_n (Below.refl _ _) _;have HN7:=hid (HN6.out.kept (grown_of_below hq none));have hbx7:=heap_later2 hq HBX6.out;have HB7:=hid (below_next HB6.out hq);clear hq;generalize w6.drewN nq=w7 at *;clear b0 b1 b2 b3 b4 b5 b6 b7 g2;obtain ⟨hbc,fb⟩:=block_cells hbx7;have b0:=hbc 0 _ rfl;have b1:=hbc 1 _ rfl;have b2:=hbc 2 _ rfl;have b3:=hbc 3 _ rfl;have b4:=hbc 4 _ rfl;have b5:=hbc 5 _ rfl;have b6:=hbc 6 _ rfl;have b7:=hbc 7 _ rfl;clear hbc hbx7;have l1:(l.take k).length≤100000:=by rw [List.length_take];omega
          have l2:((l.take k).map El.name).length=(l.take k).length:=List.length_map _;have l3:(nds (l.take k)).length≤400000:=Nat.le_trans (nds_len _) (by omega);have l4:(brs (l.take k)).length≤100000:=Nat.le_trans (brs_len _) l1;have n1:has ((l.take k).map El.name) x.name=false:=by rw [has_named];exact HNM.out
          have n2:has (brs (l.take k)) x.name=false:=brs_named HNM.out;go_wp2_with (go_at_call 26;refine (put_any x _ HN7.out HB7.out.size HOK.out l1 l2 l3 l4 n1 n2).mono ?_;rintro en w8 ⟨rfl,hb8,vl',vn',vb',hN8⟩;have HB8:=hid (HB7.out.trans hb8);have HN8:=hid hN8;clear hb8 hN8);go_roundw
          case rel=>
           have e1:l.take (k+1)=l.take k++ [x]:=by
            obtain ⟨hk2,e⟩:=List.getElem?_eq_some_iff.1 HX.out;rw [List.take_succ_eq_append_getElem hk2,e]
           refine ⟨k+1,vl',vn',vb',by omega,by go_num,fun j e hj he=> ?_,?_,HB8.out⟩
           · rcases Nat.lt_or_ge j k with h | h
             · exact HNO.out j e h he
             · obtain rfl:j=k:=by omega
               rw [HX.out] at he;cases he;exact bad1_not HCK.out HNM.out
           · rw [nds_snoc HX.out,brs_snoc HX.out,e1,List.map_append];exact HN8.out
          case measure=> simp [intOf];omega
        · have HNM:=hid hnm;clear hnm hh hown hat;go_simp
          repeat (go_big_quiet_step (fail))
          refine wpQuiet_nil ?_;intro nq;have HB7:=hid (below_n HB6.out nq);obtain ⟨hA1,fA⟩:=block_cells (heap_later2 HB6.out HA.out);have k0:=hA1 0 _ rfl;have k1:=hA1 1 _ rfl;clear hA1 b0 b1 b2 b3 b4 b5 b6 b7 g2;go_wp2
          (try rw [Exit.noGoto_ret])
          refine bodyPost_ret (v:=.tuple #[.pointer none,.agg #[.int .i64 9,.int .i64 k]]) ?_ rfl (retof_no ?_ ?_)
          · rw [results_tmp_cell rfl];go_simp
          · have hb9:bad1 l k x=9:=bad1_named HCK.out HNM.out;have:=ofL_bad HL.out HX.out HNO.out (by rw [hb9];decide)
            rwa [hb9] at this
          · exact ((below_next HBW.out HB7.out).setCell (Nat.le_refl _) _).setCell (Nat.le_refl _) _
      · have HCK:=hid hck;have hbq:(checkE x==0)=false:=by simpa using hck
        go_wp2_with (go_at_call 25;refine (vcheck_any x _ HOK.out).mono ?_;rintro en w1 ⟨rfl,hb1⟩;have HB1:=hid (below_next HB5.out hb1);have hA1:=(block_cells (heap_later2 HB1.out HA.out)).1;have fA:=(block_cells (heap_later2 HB1.out HA.out)).2;have k0:=hA1 0 _ rfl;have k1:=hA1 1 _ rfl;clear hb1 hA1)
        (try rw [Exit.noGoto_ret])
        refine bodyPost_ret (v:=.tuple #[.pointer none,.agg #[.int .i64 (checkE x),.int .i64 k]]) ?_ rfl (retof_no ?_ ?_)
        · rw [results_tmp_cell rfl];go_simp
        · have:=ofL_bad HL.out HX.out HNO.out (by rw [bad1_chk HCK.out];exact HCK.out)
          rwa [bad1_chk HCK.out] at this
        · exact ((below_next HBW.out HB1.out).setCell (Nat.le_refl _) _).setCell (Nat.le_refl _) _
    · obtain rfl:k=l.length:=by omega
      have hgood:=ofL_good HL.out (fun j e he=> HNO.out j e (List.getElem?_eq_some_iff.1 he).1 he);have HG:=hid hgood;have HB:=hid hb;rw [List.take_length] at hN;obtain ⟨an,cn,rfl⟩:=(IsSl.of_own hN.on).form;have g3:=(block_cells hN.blk).1 3 _ rfl;have hNN:NN wo (.pointer (some ⟨g,0,none⟩)) l:=.inr ⟨_,_,_,_,_,_,_,_,rfl,hN⟩;have HNN:=hid hNN;clear hgood hb hN hNN
      by_cases h32:32 < (nds l).length
      · have hi32:32 < ((nds l).length:Int):=by omega
        have HG2:=hid (HG.out.trans (if_pos (.inl h32)));obtain ⟨hA1,fA⟩:=block_cells (heap_later2 HB.out HA.out);have k0:=hA1 0 _ rfl;have k1:=hA1 1 _ rfl;clear hA1;go_wp2_with fail
        (try rw [Exit.noGoto_ret])
        refine bodyPost_ret (v:=.tuple #[.pointer none,.agg #[.int .i64 3,.int .i64 (-1)]]) ?_ rfl (retof_no HG2.out ?_)
        · rw [results_tmp_cell rfl];go_simp
        · exact ((below_next HBW.out HB.out).setCell (Nat.le_refl _) _).setCell (Nat.le_refl _) _
      · have hi32:((nds l).length:Int)≤32:=by omega
        by_cases h64:64 < (nds l).length+(brs l).length
        · have hi64:64 < ((nds l).length:Int)+((brs l).length:Int):=by omega
          have HG2:=hid (HG.out.trans (if_pos (.inr h64)));go_wp2_with (go_at_call 27;refine (norder_any _ l _ HNN.out hlen).mono ?_;rintro en w4 ⟨rfl,hb4⟩;have HB4:=hid (below_next HB.out hb4);have hA1:=(block_cells (heap_later2 HB4.out HA.out)).1;have fA:=(block_cells (heap_later2 HB4.out HA.out)).2;have k0:=hA1 0 _ rfl;have k1:=hA1 1 _ rfl;clear hb4 hA1)
          (try rw [Exit.noGoto_ret])
          refine bodyPost_ret (v:=.tuple #[.pointer none,.agg #[.int .i64 3,.int .i64 (-1)]]) ?_ rfl (retof_no HG2.out ?_)
          · rw [results_tmp_cell rfl];go_simp
          · exact ((below_next HBW.out HB4.out).setCell (Nat.le_refl _) _).setCell (Nat.le_refl _) _
        · have hi64:((nds l).length:Int)+((brs l).length:Int)≤64:=by omega
          have HG2:=hid (HG.out.trans (if_neg (by omega)));go_wp2_with (go_at_call 27;refine (norder_any _ l _ HNN.out hlen).mono ?_;rintro en w4 ⟨rfl,hb4⟩;have HN4:=hid (HNN.out.below' hb4);have HB4:=hid (below_next HB.out hb4);have hA1:=(block_cells (heap_later2 HB4.out HA.out)).1;have fA:=(block_cells (heap_later2 HB4.out HA.out)).2;have k0:=hA1 0 _ rfl;have k1:=hA1 1 _ rfl;clear hb4 hA1)
          (try rw [Exit.noGoto_ret])
          refine bodyPost_ret (v:=.tuple #[.pointer (some ⟨g,0,none⟩),.agg #[.int .i64 0,.int .i64 0]]) ?_ rfl ⟨_,by rw [HG2.out],.inr ⟨by rw [HG2.out],by simp,?_⟩,?_⟩
          · rw [results_tmp_cell rfl];go_simp
          · rw [setCell_same (heap_later2 HB4.out HA.out) rfl,setCell_same (heap_later2 HB4.out HA.out) rfl];exact HN4.out
          · exact ((below_next HBW.out HB4.out).setCell (Nat.le_refl _) _).setCell (Nat.le_refl _) _
end
end Go.Proofs.YtaegmlhfecfgkaaGreatDoor
