/- a part of the proof of the last text -/
import Derived.Test.YtaegmlhfecfgkaaGreatDoorZMPart
import Derived.Test.YtaegmlhfecfgkaaGreatDoorZSrc2
namespace Go.Proofs.YtaegmlhfecfgkaaGreatDoor
set_option linter.all false
set_option maxHeartbeats 4000000
set_option maxRecDepth 100000
section
open Go.RowKit
def RetSq (F:Nat→Nat→Cx) (n:Nat) (w:World) (e:Ending) (w':World):Prop:=
 ∃v,e=.returned (.agg #[.int .i64 n,.int .i64 n,v])∧w'.ownsRow w.heap.size 43 1 v (n * n) ((matL F n n 0).map mkC)∧Below w.heap.size w w'
theorem alloc2_0b (w:World) (a b:Obj):((w.alloc a).alloc b).heap[w.heap.size]? =some a:=(heap_alloc_old (w.alloc a) b (by simp)).trans (heap_alloc_new w a)
theorem alloc2_1b (w:World) (a b:Obj):((w.alloc a).alloc b).heap[w.heap.size+1]? =some b:=by
 have:=heap_alloc_new (w.alloc a) b
 simpa using this
theorem enter_L (args:Array Value) (w:World):(callFunc 127 args).run Tryz.prog w=.ok (.enter 127 args) w:=by
 have h : (Tryz.f127.name == "runtime.NumGoroutine") = false := by kernel_rfl
 have h2:Tryz.f127.body.isNone=false:=by kernel_rfl
 simp only [callFunc,Sem.run_bind,run_program,Result.andThen_ok,Tryz.func127,h,h2,Bool.false_eq_true,if_false,Sem.run_pure]
theorem low_L (p:Value) (n:Nat) (R:Nat→List Cx) (ord:List Int) (sg:Int) (w:World) (h:LowAt w p n R ord sg) (hn:n≤64):
 Calls Tryz.prog 106 #[p] w (RetSq (lowL R) n w):=by
 have H:=hid h;obtain ⟨g,vR,vO,V,rfl,_⟩:=h;have hb1:=(Below.refl w.heap.size w).alloc (Nat.le_refl _) (.cells #[.pointer (some ⟨g,0,none⟩)] 104);have HBW:=hid (hb1.alloc hb1.size (.cells #[.int .i64 0,.int .i64 0,.slice none 0 0] 64));have hB:=alloc2_0b w (.cells #[.pointer (some ⟨g,0,none⟩)] 104) (.cells #[.int .i64 0,.int .i64 0,.slice none 0 0] 64);have hZ:=alloc2_1b w (.cells #[.pointer (some ⟨g,0,none⟩)] 104) (.cells #[.int .i64 0,.int .i64 0,.slice none 0 0] 64);have HB:=hid hB;have HZ:=hid hZ;have HS:=hid (show w.heap.size+1 < ((w.alloc (.cells #[.pointer (some ⟨g,0,none⟩)] 104)).alloc (.cells #[.int .i64 0,.int .i64 0,.slice none 0 0] 64)).heap.size by simp);clear hb1 hB hZ;go_enter Tryz.func106,Tryz.ntmps106;go_upto_region 1 with fail;generalize (w.alloc (.cells #[.pointer (some ⟨g,0,none⟩)] 104)).alloc (.cells #[.int .i64 0,.int .i64 0,.slice none 0 0] 64)=w1 at *;have c0:=box_cell HB.out;have HL:=hid (H.out.below HBW.out);go_wp2_with (go_at_call 126;refine (part_any _ n R ord sg _ _ (lowL R) _ HL.out hn enter_L (fun i j w' hi hj hb=> lowL_any _ _ n R ord sg i j w' (HL.out.below hb) (block_keep hb HB.out) hi hj)).mono ?_;rintro e w2 ⟨v,rfl,hown,hb2⟩;obtain ⟨av,cv,rfl⟩:=(IsSl.of_own hown).form;have HO:=hid hown;have HB2:=hid hb2;obtain ⟨z0,z1,z2,y0,y1,y2⟩:=mat_atP (block_keep hb2 HZ.out);clear hown hb2)
 (try simp only [Exit.inBlock,Exit.then])
 (try rw [Exit.noGoto_ret])
 refine bodyPost_ret (v:=.agg #[.int .i64 n,.int .i64 n,.slice av (n * n) cv]) ?_ rfl ⟨_,rfl,?_,?_⟩
 · rw [results_cell1P rfl];go_simp
 · exact World.ownsRow.mono (ownsRow_setCell_below (ownsRow_setCell_below (ownsRow_setCell_below HO.out HS.out _) HS.out _) HS.out _) (Nat.le_of_lt (Nat.lt_of_succ_lt HS.out))
 · exact (((HBW.out.trans (HB2.out.mono HBW.out.size)).setCell (Nat.le_succ _) _).setCell (Nat.le_succ _) _).setCell (Nat.le_succ _) _
theorem enter_U (args:Array Value) (w:World):(callFunc 128 args).run Tryz.prog w=.ok (.enter 128 args) w:=by
 have h : (Tryz.f128.name == "runtime.NumGoroutine") = false := by kernel_rfl
 have h2:Tryz.f128.body.isNone=false:=by kernel_rfl
 simp only [callFunc,Sem.run_bind,run_program,Result.andThen_ok,Tryz.func128,h,h2,Bool.false_eq_true,if_false,Sem.run_pure]
theorem low_U (p:Value) (n:Nat) (R:Nat→List Cx) (ord:List Int) (sg:Int) (w:World) (h:LowAt w p n R ord sg) (hn:n≤64):
 Calls Tryz.prog 107 #[p] w (RetSq (lowU R) n w):=by
 have H:=hid h;obtain ⟨g,vR,vO,V,rfl,_⟩:=h;have hb1:=(Below.refl w.heap.size w).alloc (Nat.le_refl _) (.cells #[.pointer (some ⟨g,0,none⟩)] 104);have HBW:=hid (hb1.alloc hb1.size (.cells #[.int .i64 0,.int .i64 0,.slice none 0 0] 64));have hB:=alloc2_0b w (.cells #[.pointer (some ⟨g,0,none⟩)] 104) (.cells #[.int .i64 0,.int .i64 0,.slice none 0 0] 64);have hZ:=alloc2_1b w (.cells #[.pointer (some ⟨g,0,none⟩)] 104) (.cells #[.int .i64 0,.int .i64 0,.slice none 0 0] 64);have HB:=hid hB;have HZ:=hid hZ;have HS:=hid (show w.heap.size+1 < ((w.alloc (.cells #[.pointer (some ⟨g,0,none⟩)] 104)).alloc (.cells #[.int .i64 0,.int .i64 0,.slice none 0 0] 64)).heap.size by simp);clear hb1 hB hZ;go_enter Tryz.func107,Tryz.ntmps107;go_upto_region 1 with fail;generalize (w.alloc (.cells #[.pointer (some ⟨g,0,none⟩)] 104)).alloc (.cells #[.int .i64 0,.int .i64 0,.slice none 0 0] 64)=w1 at *;have c0:=box_cell HB.out;have HL:=hid (H.out.below HBW.out);go_wp2_with (go_at_call 126;refine (part_any _ n R ord sg _ _ (lowU R) _ HL.out hn enter_U (fun i j w' hi hj hb=> lowU_any _ _ n R ord sg i j w' (HL.out.below hb) (block_keep hb HB.out) hi hj)).mono ?_;rintro e w2 ⟨v,rfl,hown,hb2⟩;obtain ⟨av,cv,rfl⟩:=(IsSl.of_own hown).form;have HO:=hid hown;have HB2:=hid hb2;obtain ⟨z0,z1,z2,y0,y1,y2⟩:=mat_atP (block_keep hb2 HZ.out);clear hown hb2)
 (try simp only [Exit.inBlock,Exit.then])
 (try rw [Exit.noGoto_ret])
 refine bodyPost_ret (v:=.agg #[.int .i64 n,.int .i64 n,.slice av (n * n) cv]) ?_ rfl ⟨_,rfl,?_,?_⟩
 · rw [results_cell1P rfl];go_simp
 · exact World.ownsRow.mono (ownsRow_setCell_below (ownsRow_setCell_below (ownsRow_setCell_below HO.out HS.out _) HS.out _) HS.out _) (Nat.le_of_lt (Nat.lt_of_succ_lt HS.out))
 · exact (((HBW.out.trans (HB2.out.mono HBW.out.size)).setCell (Nat.le_succ _) _).setCell (Nat.le_succ _) _).setCell (Nat.le_succ _) _
end
section
open Go.RowKit
end
section
open Go.RowKit
abbrev Mx:=Nat→Nat→Cx
structure Es where
 R:Mx
 ord:Nat→Nat
 neg:Bool
def colL (n:Nat) (R:Mx) (k:Nat):List Cx:=(List.range n).map fun i=> R i k
theorem colL_len (n:Nat) (R:Mx) (k:Nat):(colL n R k).length=n:=by simp [colL]
def swp (p k i:Nat):Nat:=if i=k then p else if i=p then k else i
theorem swp_same (k i:Nat):swp k k i=i:=by unfold swp;split <;> simp_all
theorem swp_lt {p k i n:Nat} (hp:p < n) (hk:k < n) (hi:i < n):swp p k i < n:=by unfold swp;split <;> (try split) <;> omega
def swS (s:Es) (p k:Nat):Es:=⟨fun i=> s.R (swp p k i),fun i=> s.ord (swp p k i),if p=k then s.neg else !s.neg⟩
def factE (R:Mx) (k i:Nat):Cx:=cdiv (R i k) (R k k)
def rowE (R:Mx) (k i j:Nat):Cx:=if j=k then factE R k i else if k < j then csub (R i j) (cmul (factE R k i) (R k j)) else R i j
def elP (R:Mx) (k i q:Nat):Mx:=fun a j=> if k < a∧a < i then rowE R k a j else if a=i∧k < j∧j < q then rowE R k i j else R a j
def fineRow (R:Mx) (k a q:Nat):Bool:=cfin (factE R k a) && (List.range q).all fun j=> !decide (k < j) || cfin (rowE R k a j)
def fineUp (R:Mx) (k n i:Nat):Bool:=(List.range i).all fun a=> !decide (k < a) || fineRow R k a n
theorem fineRow_succ {R:Mx} {k a q:Nat} (h:k < q):fineRow R k a (q+1)=(fineRow R k a q && cfin (rowE R k a q)):=by
 unfold fineRow;rw [List.range_succ,List.all_append,Bool.and_assoc]
 simp [h]
theorem fineRow_start {R:Mx} {k a:Nat}:fineRow R k a (k+1)=cfin (factE R k a):=by
 unfold fineRow;have:(List.range (k+1)).all (fun j=> !decide (k < j) || cfin (rowE R k a j))=true:=by
  rw [List.all_eq_true];intro j hj;have:=List.mem_range.1 hj
  simp [show¬k < j by omega]
 rw [this,Bool.and_true]
theorem fineUp_succ {R:Mx} {k n i:Nat} (h:k < i):fineUp R k n (i+1)=(fineUp R k n i && fineRow R k i n):=by
 unfold fineUp;rw [List.range_succ,List.all_append]
 simp [h]
theorem fineUp_start {R:Mx} {k n:Nat}:fineUp R k n (k+1)=true:=by
 unfold fineUp;rw [List.all_eq_true];intro j hj;have:=List.mem_range.1 hj
 simp [show¬k < j by omega]
def elimR (R:Mx) (k n:Nat):Mx:=fun a j=> if k < a∧a < n then rowE R k a j else R a j
theorem elP_start {R:Mx} {k:Nat}:elP R k (k+1) (k+1)=R:=by
 funext a j
 unfold elP;rw [if_neg (by omega),if_neg (by omega)]
theorem elP_done {R:Mx} {k n q:Nat} (hq:q≤k+1):elP R k n q=elimR R k n:=by
 funext a j
 unfold elP elimR
 split
 · rfl
 · rw [if_neg (by omega)]
theorem elP_col {R:Mx} {k i q:Nat} (hi:k < i) (hq:k < q):(fun a j=> if a=i∧j=q then rowE R k i q else elP R k i q a j)=elP R k i (q+1):=by
 funext a j
 by_cases e:a=i∧j=q
 · rw [if_pos e,e.1,e.2];unfold elP;rw [if_neg (by omega),if_pos (by omega)]
 · rw [if_neg e];unfold elP
   split
   · rfl
   · by_cases h:a=i∧k < j∧j < q
     · rw [if_pos h,if_pos (by omega)]
     · rw [if_neg h,if_neg (by omega)]
theorem elP_row {R:Mx} {k i n a j:Nat} (hi:k < i) (hj:j < n):(if a=i∧j=k then factE R k i else elP R k i n a j)=elP R k (i+1) (k+1) a j:=by
 by_cases e:a=i∧j=k
 · rw [if_pos e,e.1,e.2];unfold elP;rw [if_pos (by omega)];unfold rowE;rw [if_pos rfl]
 · rw [if_neg e];unfold elP
   by_cases h1:k < a∧a < i
   · rw [if_pos h1,if_pos (by omega)]
   · rw [if_neg h1]
     by_cases h2:a=i
     · subst h2;rw [if_pos (show k < a∧a < a+1 by omega)]
       by_cases h3:k < j
       · rw [if_pos (by omega)]
       · rw [if_neg (by omega)];unfold rowE;rw [if_neg (by omega),if_neg h3]
     · rw [if_neg (by omega),if_neg (show¬(k < a∧a < i+1) by omega),if_neg (by omega)]
def stepE (n:Nat) (s:Es) (k:Nat):Es × Int:=
 if (chooseS (colL n s.R k) k).2≠0 then (s,(chooseS (colL n s.R k) k).2)
 else (⟨elimR (swS s (chooseS (colL n s.R k) k).1.toNat k).R k n,(swS s (chooseS (colL n s.R k) k).1.toNat k).ord,(swS s (chooseS (colL n s.R k) k).1.toNat k).neg⟩,
  if fineUp (swS s (chooseS (colL n s.R k) k).1.toNat k).R k n n=true then 0 else 6)
def esK (n:Nat) (m:Nat→Cx):Nat→Es
 | 0=> ⟨fun i j=> m (i * n+j),fun i=> i,false⟩
 | k+1=> (stepE n (esK n m k) k).1
def lowBad (n:Nat) (m:Nat→Cx):Option Nat:=(List.range n).find? fun k=> (stepE n (esK n m k) k).2 !=0
def lowE (n:Nat) (m:Nat→Cx):Option Es × (Int × Int):=
 match lowBad n m with
 | some k=> (none,((stepE n (esK n m k) k).2,k))
 | none=> (some (esK n m n),(0,0))
theorem find_at {n k:Nat} {p:Nat→Bool} (hk:k < n) (h:∀i,i < k→p i=false) (hp:p k=true):(List.range n).find? p=some k:=by
 rw [List.find?_eq_some_iff_getElem];exact ⟨hp,k,by simpa using hk,by simp,fun j hj=> by simp [h j hj]⟩
theorem low_stop {n k:Nat} {m:Nat→Cx} (hk:k < n) (h:∀i,i < k→(stepE n (esK n m i) i).2=0) (hp:(stepE n (esK n m k) k).2≠0):lowE n m=(none,((stepE n (esK n m k) k).2,(k:Int))):=by
 unfold lowE lowBad;rw [find_at hk (fun i hi=> by simp [h i hi]) (by simpa using hp)]
theorem low_done {n:Nat} {m:Nat→Cx} (h:∀i,i < n→(stepE n (esK n m i) i).2=0):lowE n m=(some (esK n m n),(0,0)):=by
 unfold lowE lowBad;rw [List.find?_eq_none.2 (fun i hi=> by simp [h i (by simpa using hi)])]
end
section
open Go.RowKit
theorem heap_grown {w w':World} {g:Nat} {o:Obj} {row:Option Nat} (hg:w.grownBy w' row) (hne:row≠some g) (h:w.heap[g]? =some o):w'.heap[g]? =some o:=(hg.block g (Array.getElem?_eq_some_iff.1 h).1 (by first | exact hne | exact fun e=> hne e | exact fun e=> hne e.symm)).trans h
end
section
open Go.RowKit
structure LwAt (B:Nat) (w:World) (g:Nat) (vR vO:Value) (n m mo:Nat) (bj:Nat→Nat) (M:Nat→List Cx) (ord:List Int) (sg:Int):Prop where
 gB:B≤g
 bB:∀j,j < m→B≤bj j
 box:w.heap[g]? =some (.cells #[.bool true,vR,vO,.int .i64 sg] 171 (0,0))
 oR:w.ownsRow B 33 1 vR m ((List.range m).map fun j=> .slice (some ⟨bj j,0,none⟩) n n)
 oO:w.ownsRow B 3 1 vO mo (ord.map (.int .i64))
 row:∀j,j < m→w.heap[bj j]? =some (.cells ((M j).map mkC).toArray 43 (0,0))
 len:∀j,j < m→(M j).length=n
 inj:∀i j,i < m→j < m→bj i=bj j→i=j
theorem LwAt.lt {B g n m mo:Nat} {w:World} {vR vO:Value} {bj:Nat→Nat} {M:Nat→List Cx} {ord:List Int} {sg:Int} (h:LwAt B w g vR vO n m mo bj M ord sg):B≤w.heap.size:=by
 have:=h.gB;have:=(Array.getElem?_eq_some_iff.1 h.box).1
 omega
theorem LwAt.other {B g n m mo r:Nat} {w w':World} {vR vO:Value} {bj:Nat→Nat} {M:Nat→List Cx} {ord:List Int} {sg:Int} (h:LwAt B w g vR vO n m mo bj M ord sg) (hg:w.grownBy w' (some r))
 (h1:r≠g) (h2:vR.ownBlock≠some r) (h3:vO.ownBlock≠some r) (h4:∀j,j < m→bj j≠r):LwAt B w' g vR vO n m mo bj M ord sg:=
 ⟨h.gB,h.bB,heap_nextG hg (Ne.symm h1) h.box,kept_ne h.oR hg (fun k e e2=> h2 (by rw [e,e2])),kept_ne h.oO hg (fun k e e2=> h3 (by rw [e,e2])),fun j hj=> heap_nextG hg (h4 j hj) (h.row j hj),h.len,h.inj⟩
theorem LwAt.kept0 {B g n m mo:Nat} {w w':World} {vR vO:Value} {bj:Nat→Nat} {M:Nat→List Cx} {ord:List Int} {sg:Int} (h:LwAt B w g vR vO n m mo bj M ord sg) (hg:w.grownBy w' none):LwAt B w' g vR vO n m mo bj M ord sg:=
 ⟨h.gB,h.bB,(hg.block g (Array.getElem?_eq_some_iff.1 h.box).1 (by simp)).trans h.box,own_none h.oR hg,own_none h.oO hg,fun j hj=> (hg.block _ (Array.getElem?_eq_some_iff.1 (h.row j hj)).1 (by simp)).trans (h.row j hj),h.len,h.inj⟩
theorem LwAt.later {B g n m mo:Nat} {w w':World} {vR vO:Value} {bj:Nat→Nat} {M:Nat→List Cx} {ord:List Int} {sg:Int} (h:LwAt B w g vR vO n m mo bj M ord sg) (hb:Below w.heap.size w w'):LwAt B w' g vR vO n m mo bj M ord sg:=h.kept0 (grown_of_below hb _)
theorem LwAt.typ {B g n m mo r t:Nat} {w w':World} {vR vO:Value} {bj:Nat→Nat} {M:Nat→List Cx} {ord:List Int} {sg:Int} {cs:Array Value} (h:LwAt B w g vR vO n m mo bj M ord sg) (hr:w.heap[r]? =some (.cells cs t (0,0))) (hg:w.grownBy w' (some r))
 (h1:t≠171) (h2:t≠33) (h3:t≠3) (h4:t≠43 ∨∀j,j < m→bj j≠r):LwAt B w' g vR vO n m mo bj M ord sg:=
 h.other hg (typ_ne hr h.box h1) (fun e=> by obtain ⟨_,c,hc⟩:=own_typ h.oR e;exact typ_ne hr hc h2 rfl) (fun e=> by obtain ⟨_,c,hc⟩:=own_typ h.oO e;exact typ_ne hr hc h3 rfl)
  (fun j hj=> h4.elim (fun h4=> Ne.symm (typ_ne hr (h.row j hj) h4)) (fun h4=> h4 j hj))
theorem LwAt.pushRow {B g n m mo q g1:Nat} {w2 w3:World} {vR vO vR':Value} {bj:Nat→Nat} {M:Nat→List Cx} {ord:List Int} {sg:Int} {r:List Cx} (h:LwAt B w2 g vR vO n m mo bj M ord sg) (hB:B≤q)
 (hq:w2.heap[q]? =some (.cells (r.map mkC).toArray 43 (0,0))) (hr:r.length=n) (hqn:∀j,j < m→bj j≠q) (own:w3.ownsRow B 33 1 vR' (m+1) ((List.range m).map (fun j=> .slice (some ⟨bj j,0,none⟩) n n)++ [.slice (some ⟨q,0,none⟩) n n]))
 (two:(vR.ownBlock=some g1∧w2.grownBy w3 (some g1))∨(w2.heap.size≤g1∧w2.grownBy w3 none)):
 w3.heap[g]? =some (.cells #[.bool true,vR,vO,.int .i64 sg] 171 (0,0))∧LwAt B (w3.setCell ⟨g,1,none⟩ vR') g vR' vO n (m+1) mo (upd bj m q) (upd M m r) ord sg:=by
 have key:w3.heap[g]? =some (.cells #[.bool true,vR,vO,.int .i64 sg] 171 (0,0))∧w3.ownsRow B 3 1 vO mo (ord.map (.int .i64))∧(∀j,j < m→w3.heap[bj j]? =some (.cells ((M j).map mkC).toArray 43 (0,0)))∧w3.heap[q]? =some (.cells (r.map mkC).toArray 43 (0,0)):=by
  rcases two with ⟨e,hg⟩ | ⟨_,hg⟩
  · obtain ⟨_,c,hc⟩:=own_typ h.oR e;exact ⟨heap_nextG hg (typ_ne h.box hc (by decide)) h.box,kept_ne h.oO hg (fun k e1 e2=> by obtain rfl:=Option.some.inj e2;obtain ⟨_,c2,hc2⟩:=own_typ h.oO e1;exact typ_ne hc hc2 (by decide) rfl),fun j hj=> heap_nextG hg (typ_ne (h.row j hj) hc (by decide)) (h.row j hj),heap_nextG hg (typ_ne hq hc (by decide)) hq⟩
  · exact ⟨heap_grown hg (by simp) h.box,own_none h.oO hg,fun j hj=> heap_grown hg (by simp) (h.row j hj),heap_grown hg (by simp) hq⟩
 obtain ⟨k1,k2,k3,k4⟩:=key;have hs:=set1_grown w3 g 1 vR';have hbx:=blk_set1 (o:=1) k1 vR';refine ⟨k1,h.gB,fun j hj=> ?_,hbx,?_,kept_ne k2 hs (fun k e1 e2=> by obtain rfl:=Option.some.inj e2;obtain ⟨_,c2,hc2⟩:=own_typ k2 e1;exact typ_ne k1 hc2 (by decide) rfl),fun j hj=> ?_,fun j hj=> ?_,fun i j hi hj he=> ?_⟩
 · by_cases e:j=m
   · subst e;rw [upd_same];exact hB
   · rw [upd_ne _ _ e];exact h.bB j (by omega)
 · have:(List.range (m+1)).map (fun j=> Value.slice (some ⟨upd bj m q j,0,none⟩) n n)=(List.range m).map (fun j=> .slice (some ⟨bj j,0,none⟩) n n)++ [.slice (some ⟨q,0,none⟩) n n]:=by
    rw [List.range_succ,List.map_append]
    congr 1
    · refine List.map_congr_left fun j hj=> ?_
      rw [upd_ne _ _ (by have:=List.mem_range.1 hj;omega)]
    · simp [upd_same]
   rw [this];exact kept_ne own hs (fun k e1 e2=> by obtain rfl:=Option.some.inj e2;obtain ⟨_,c2,hc2⟩:=own_typ own e1;exact typ_ne k1 hc2 (by decide) rfl)
 · by_cases e:j=m
   · subst e;rw [upd_same,upd_same];exact heap_nextG hs (typ_ne k4 k1 (by decide)) k4
   · rw [upd_ne _ _ e,upd_ne _ _ e];exact heap_nextG hs (typ_ne (k3 j (by omega)) k1 (by decide)) (k3 j (by omega))
 · by_cases e:j=m
   · subst e;rw [upd_same];exact hr
   · rw [upd_ne _ _ e];exact h.len j (by omega)
 · by_cases ei:i=m
   · subst ei
     by_cases ej:j=i
     · exact ej.symm
     · rw [upd_same,upd_ne _ _ ej] at he;exact absurd he.symm (hqn j (by omega))
   · by_cases ej:j=m
     · subst ej;rw [upd_same,upd_ne _ _ ei] at he;exact absurd he (hqn i (by omega))
     · rw [upd_ne _ _ ei,upd_ne _ _ ej] at he;exact h.inj i j (by omega) (by omega) he
theorem LwAt.pushOrd {B g n m mo g1:Nat} {w2 w3:World} {vR vO vO':Value} {bj:Nat→Nat} {M:Nat→List Cx} {ord:List Int} {sg:Int} {x:Int} (h:LwAt B w2 g vR vO n m mo bj M ord sg)
 (own:w3.ownsRow B 3 1 vO' (mo+1) (ord.map (Value.int .i64)++ [.int .i64 x]))
 (two:(vO.ownBlock=some g1∧w2.grownBy w3 (some g1))∨(w2.heap.size≤g1∧w2.grownBy w3 none)):
 w3.heap[g]? =some (.cells #[.bool true,vR,vO,.int .i64 sg] 171 (0,0))∧LwAt B (w3.setCell ⟨g,2,none⟩ vO') g vR vO' n m (mo+1) bj M (ord++ [x]) sg:=by
 have key:w3.heap[g]? =some (.cells #[.bool true,vR,vO,.int .i64 sg] 171 (0,0))∧w3.ownsRow B 33 1 vR m ((List.range m).map fun j=> .slice (some ⟨bj j,0,none⟩) n n)∧(∀j,j < m→w3.heap[bj j]? =some (.cells ((M j).map mkC).toArray 43 (0,0))):=by
  rcases two with ⟨e,hg⟩ | ⟨_,hg⟩
  · obtain ⟨_,c,hc⟩:=own_typ h.oO e;exact ⟨heap_nextG hg (typ_ne h.box hc (by decide)) h.box,kept_ne h.oR hg (fun k e1 e2=> by obtain rfl:=Option.some.inj e2;obtain ⟨_,c2,hc2⟩:=own_typ h.oR e1;exact typ_ne hc hc2 (by decide) rfl),fun j hj=> heap_nextG hg (typ_ne (h.row j hj) hc (by decide)) (h.row j hj)⟩
  · exact ⟨heap_grown hg (by simp) h.box,own_none h.oR hg,fun j hj=> heap_grown hg (by simp) (h.row j hj)⟩
 obtain ⟨k1,k2,k3⟩:=key;have hs:=set1_grown w3 g 2 vO';have hbx:=blk_set1 (o:=2) k1 vO';refine ⟨k1,h.gB,h.bB,hbx,kept_ne k2 hs (fun k e1 e2=> by obtain rfl:=Option.some.inj e2;obtain ⟨_,c2,hc2⟩:=own_typ k2 e1;exact typ_ne k1 hc2 (by decide) rfl),?_,fun j hj=> heap_nextG hs (typ_ne (k3 j hj) k1 (by decide)) (k3 j hj),h.len,h.inj⟩;rw [List.map_append];exact kept_ne own hs (fun k e1 e2=> by obtain rfl:=Option.some.inj e2;obtain ⟨_,c2,hc2⟩:=own_typ own e1;exact typ_ne k1 hc2 (by decide) rfl)
theorem LwAt.putNum {B g n m mo i j:Nat} {w:World} {vR vO:Value} {bj:Nat→Nat} {M:Nat→List Cx} {ord:List Int} {sg:Int} (h:LwAt B w g vR vO n m mo bj M ord sg) (hi:i < m) (hj:j < n) (z:Cx):
 LwAt B (w.setCell ⟨bj i,j,none⟩ (mkC z)) g vR vO n m mo bj (upd M i ((M i).set j z)) ord sg:=by
 have hs:=set1_grown w (bj i) j (mkC z);have hr:=h.row i hi;refine ⟨h.gB,h.bB,heap_nextG hs (typ_ne h.box hr (by decide)) h.box,kept_ne h.oR hs (fun k e1 e2=> by obtain rfl:=Option.some.inj e2;obtain ⟨_,c2,hc2⟩:=own_typ h.oR e1;exact typ_ne hr hc2 (by decide) rfl),kept_ne h.oO hs (fun k e1 e2=> by obtain rfl:=Option.some.inj e2;obtain ⟨_,c2,hc2⟩:=own_typ h.oO e1;exact typ_ne hr hc2 (by decide) rfl),fun k hk=> ?_,fun k hk=> ?_,h.inj⟩
 · by_cases e:k=i
   · subst e;rw [upd_same,List.map_set,←List.setIfInBounds_toArray];exact blk_set1 (o:=j) hr (mkC z)
   · rw [upd_ne _ _ e];exact heap_nextG hs (fun e2=> e (h.inj k i hk hi e2)) (h.row k hk)
 · by_cases e:k=i
   · subst e;rw [upd_same,List.length_set];exact h.len k hk
   · rw [upd_ne _ _ e];exact h.len k hk
structure LwS (n:Nat) (s:Es) (M:Nat→List Cx) (ord:List Int) (sg:Int):Prop where
 num:∀i j,i < n→j < n→ck ((M i).getD j (0,0))=s.R i j
 ln:ord.length=n
 ord:∀i,i < n→ord[i]? =some (s.ord i:Int)
 sg:sg=if s.neg=true then -1 else 1
theorem LwAt.low {B g n:Nat} {w:World} {vR vO:Value} {bj:Nat→Nat} {M:Nat→List Cx} {ord:List Int} {sg:Int} (h:LwAt B w g vR vO n n n bj M ord sg):LowAt w (.pointer (some ⟨g,0,none⟩)) n M ord sg:=
 ⟨g,vR,vO,fun j=> .slice (some ⟨bj j,0,none⟩) n n,rfl,h.box,IsSl.of_own h.oO,IsSl.of_own h.oR,fun j hj=> by
  refine ⟨by simp [h.len j hj],.inr ⟨bj j,0,n,rfl,Nat.le_refl _,(Array.getElem?_eq_some_iff.1 (h.row j hj)).1,fun q hq=> ?_⟩⟩;rw [Nat.zero_add,cell_of_row _ _ _ _ _ _ (h.row j hj),List.getElem?_toArray]⟩
end
section
open Go.RowKit
theorem infoCs:(Tryz.prog.info? 33).map (fun i=> (i.zero,i.size,i.bytes))=some (some (.slice none 0 0),1,24):=by kernel_rfl
theorem nn_wrap {n nn:Nat} (hn:n≤64) (h:nn=n * n):IntKind.i64.wrap ((n:Int) * (n:Int))=(nn:Int):=by
 have h1:n * n≤64 * 64:=Nat.mul_le_mul hn hn;have h2:(n:Int) * (n:Int)=((n * n:Nat):Int):=by simp
 rw [h2,IntWalk.i64_in _ ⟨by omega,by omega⟩,h]
theorem in_wrap {i n:Nat} (hn:n≤64) (hi:i≤64):IntKind.i64.wrap ((i:Int) * (n:Int))=((i * n:Nat):Int):=by
 have h1:i * n≤64 * 64:=Nat.mul_le_mul hi hn;have h2:(i:Int) * (n:Int)=((i * n:Nat):Int):=by simp
 rw [h2,IntWalk.i64_in _ ⟨by omega,by omega⟩]
theorem mcheck_any (n nn:Nat) (a:Option Addr) (c:Nat) (w:World) (hn:n≤64) (hnn:nn=n * n):
 Calls Tryz.prog 101 #[.agg #[.int .i64 n,.int .i64 n,.slice a nn c]] w fun e w'=> e=.returned (.int .i64 0)∧Below w.heap.size w w':=by
 have hb1:=(Below.refl w.heap.size w).alloc (Nat.le_refl _) (.cells #[.int .i64 n,.int .i64 n,.slice a nn c] 64);have HB:=hid hb1;have hx:=cells_ofS (heap_alloc_new w (.cells #[.int .i64 n,.int .i64 n,.slice a nn c] 64));have b0:=hx.1 0 _ rfl;have b1:=hx.1 1 _ rfl;have b2:=hx.1 2 _ rfl;have hwr:=nn_wrap hn hnn;clear hb1 hx hnn;go_enter Tryz.func101,Tryz.ntmps101;go_wp2;go_ret;exact ⟨rfl,HB.out⟩
def RetStart (n:Nat) (xs:List Cx) (w:World) (e:Ending) (w':World):Prop:=
 ∃ (g:Nat) (vR vO:Value) (bj:Nat→Nat),e=.returned (.pointer (some ⟨g,0,none⟩))∧LwAt w.heap.size w' g vR vO n n n bj (fun j=> (xs.drop (j * n)).take n) ((List.range n).map Int.ofNat) 1∧Below w.heap.size w w'
theorem cut_from {a:Addr} {nn c k:Nat} (hk:k≤nn) (hc:nn≤c) (hp:k < c) (w':World):(Instr.sliceAt 33 (.slice (some a) nn c) (some (.int .i64 k)) none none).run Tryz.prog w'=.ok (.slice (some (a.add k)) (nn - k) (c - k)) w':=by
 obtain ⟨i0,hi,hz0,hz1,hz2⟩:=info_parts infoC;have he:Tryz.prog.elem 33 =43 :=by have:=Tryz.underlying33;simp [Program.elem,this]
 have hu:Tryz.prog.underlying 33 =some (.slice (Tryz.prog.elem 33)):=by rw [he];exact Tryz.underlying33
 have h:=run_slice_l w' 33 (some a) nn c hu .i64 k (by omega) (by omega);have h2:=run_sliceAt_slice w' 33 (.slice (some a) nn c) (some (.int .i64 k)) none none hu;rw [h2,h,he]
 simp [sizeOf,typeInfo,hi,hz1,sliced,Result.andThen]
 omega
theorem drop_len {n k:Nat} {xs:List Cx} (hx:xs.length=n * n) (hk:k < n):((xs.drop (k * n)).take n).length=n∧k * n+n≤n * n:=by
 have h:(k+1) * n≤n * n:=Nat.mul_le_mul_right n hk;rw [Nat.add_mul,Nat.one_mul] at h;refine ⟨?_,h⟩;rw [List.length_take,List.length_drop,hx]
 omega
theorem upd_self {α:Type} (f:Nat→α) (i:Nat):upd f i (f i)=f:=by
 funext k
 unfold upd
 split
 · rename_i h;rw [h]
 · rfl
theorem splice_all {n:Nat} {cs ds:List Value} (h:cs.length=n) (h2:ds.length=n):Go.splice ds 0 cs=cs:=by
 unfold Go.splice;rw [List.take_zero,List.nil_append,Nat.zero_add,List.drop_eq_nil_of_le (by omega),List.append_nil]
theorem push_keepL {w0 w2 w3:World} {B g g1 gm e m t tg o:Nat} {v u:Value} {xs:List Value} {cs cg:Array Value} (own:w2.ownsRow B e 1 v m xs) (two:(v.ownBlock=some g1∧w2.grownBy w3 (some g1))∨(w2.heap.size≤g1∧w2.grownBy w3 none))
 (hgB:B≤g) (hb:Below B w0 w2) (hsz:B≤w2.heap.size) (hx:w2.heap[gm]? =some (.cells cs t (0,0))) (hte:t≠e) (k1:w3.heap[g]? =some (.cells cg tg (0,0))) (htg:t≠tg):
 Below B w0 (w3.setCell ⟨g,o,none⟩ u)∧(w3.setCell ⟨g,o,none⟩ u).heap[gm]? =some (.cells cs t (0,0)):=by
 have key:Below B w0 w3∧w3.heap[gm]? =some (.cells cs t (0,0)):=by
  rcases two with ⟨e1,hg⟩ | ⟨_,hg⟩
  · obtain ⟨hB,c,hc⟩:=own_typ own e1;exact ⟨hb.trans ⟨hg.os,hg.tape,hg.output,hg.size,fun k hk=> hg.block k (by have:=(Array.getElem?_eq_some_iff.1 hc).1;omega) (fun e=> by have:=Option.some.inj e;omega)⟩,heap_nextG hg (typ_ne hx hc hte) hx⟩
  · exact ⟨hb.trans ⟨hg.os,hg.tape,hg.output,hg.size,fun k hk=> hg.block k (by omega) (by simp)⟩,heap_grown hg (by simp) hx⟩
 obtain ⟨h1,h2⟩:=key;exact ⟨h1.setCell (p:=⟨g,o,none⟩) hgB u,heap_nextG (set1_grown w3 g o u) (typ_ne h2 k1 htg) h2⟩
theorem lstart_any (n nn:Nat) (v:Value) (xs:List Cx) (w:World) (hv:IsSl w 1 v nn (xs.map mkC)) (hn:n≤64) (hnn:nn=n * n):
 Calls Tryz.prog 102 #[.agg #[.int .i64 n,.int .i64 n,v]] w (RetStart n xs w):=by
 obtain ⟨aD,cD,rfl⟩:=hv.form;have hxl:xs.length=n * n:=by have:=hv.1;simp at this;omega
 have HXL:=hid hxl;have HV:=hid hv;have HNN:=hid hnn;clear hv hnn hxl;have HW1:=hid (heap_next ((Below.refl _ (w.alloc (.cells #[.int .i64 n,.int .i64 n,.slice aD nn cD] 64))).alloc (Nat.le_refl _) (.cells #[.bool true,.slice none 0 0,.slice none 0 0,.int .i64 1] 171)) (heap_alloc_new w (.cells #[.int .i64 n,.int .i64 n,.slice aD nn cD] 64)));have HW2:=hid (heap_alloc_new (w.alloc (.cells #[.int .i64 n,.int .i64 n,.slice aD nn cD] 64)) (.cells #[.bool true,.slice none 0 0,.slice none 0 0,.int .i64 1] 171));have HBW:=hid (((Below.refl w.heap.size w).alloc (Nat.le_refl _) (.cells #[.int .i64 n,.int .i64 n,.slice aD nn cD] 64)).alloc (by simp) (.cells #[.bool true,.slice none 0 0,.slice none 0 0,.int .i64 1] 171));have HSZ:=hid (show (w.alloc (.cells #[.int .i64 n,.int .i64 n,.slice aD nn cD] 64)).heap.size=w.heap.size+1 by simp);go_enter Tryz.func102,Tryz.ntmps102;go_upto_region 2 with fail;generalize hw0:(w.alloc (.cells #[.int .i64 n,.int .i64 n,.slice aD nn cD] 64)).alloc (.cells #[.bool true,.slice none 0 0,.slice none 0 0,.int .i64 1] 171)=w0 at *;clear hw0;have HX0:=hid (show w0.heap[w.heap.size]? =some (.cells #[.int .i64 n,.int .i64 n,.slice aD nn cD] 64 (0,0)) from HW1.out);have HX1:=hid (show w0.heap[w.heap.size+1]? =some (.cells #[.bool true,.slice none 0 0,.slice none 0 0,.int .i64 1] 171 (0,0)) by rw [←HSZ.out];exact HW2.out);have HB0:=hid (show Below w.heap.size w w0 from HBW.out);clear HW1 HW2 HBW HSZ;obtain ⟨ic,hic,hc0,hc1,hc2⟩:=info_parts infoC;obtain ⟨ir,hir,hr0,hr1,hr2⟩:=info_parts infoCs;obtain ⟨ii,hii,hi0,hi1,hi2⟩:=info_parts infoI;have b0:=(cells_ofS HX0.out).1 0 _ rfl
 have b1:=(cells_ofS HX0.out).1 1 _ rfl;have b2:=(cells_ofS HX0.out).1 2 _ rfl;obtain ⟨gm,hgm⟩:∃gm,w.heap.size=gm:=⟨_,rfl⟩;obtain ⟨g,hg⟩:∃g,w.heap.size+1=g:=⟨_,rfl⟩;rw [hg] at HX1;rw [hgm] at HX0 b0 b1 b2;rw [hg,hgm];have HGM:=hid hgm;have HGB:=hid (show gm+1=g by rw [←hgm];exact hg);clear hg hgm;go_wp2
 go_loopw [10] (fun i wr=> ∃ (k:Nat) (vR vO:Value) (bj:Nat→Nat),k≤n∧i=.int .i64 k∧LwAt gm wr g vR vO n k k bj (fun j=> (xs.drop (j * n)).take n) ((List.range k).map Int.ofNat) 1∧Below w.heap.size w wr∧wr.heap[gm]? =some (.cells #[.int .i64 n,.int .i64 n,.slice aD nn cD] 64 (0,0))) (fun i _=> n - (intOf i).toNat)
 case atStart=> exact ⟨0,.slice none 0 0,.slice none 0 0,fun _=> 0,Nat.zero_le _,rfl,⟨by have:=HGB.out;omega,fun j hj=> absurd hj (Nat.not_lt_zero _),HX1.out,World.ownsRow_nil _ _ _ _,World.ownsRow_nil _ _ _ _,fun j hj=> absurd hj (Nat.not_lt_zero _),fun j hj=> absurd hj (Nat.not_lt_zero _),fun i j hi=> absurd hi (Nat.not_lt_zero _)⟩,HB0.out,HX0.out⟩
 case round=>
  obtain ⟨k,vR,vO,bj,hk,rfl,hl,hb,hx⟩:=hrel;obtain ⟨aR,cR,rfl⟩:=(IsSl.of_own hl.oR).form;obtain ⟨aO,cO,rfl⟩:=(IsSl.of_own hl.oO).form;have HL:=hid hl;have HB:=hid hb;have HX:=hid hx;clear hl hb hx b0 b1 b2 HX0 HX1
  by_cases hlt:k < n
  · have HLT:=hid hlt;have hmk:=fun w'=> mk_many n w' (by omega)
    have b0:=(cells_ofS HX.out).1 0 _ rfl;have b1:=(cells_ofS HX.out).1 1 _ rfl;have b2:=(cells_ofS HX.out).1 2 _ rfl;have hwi:=in_wrap hn (Nat.le_of_lt (Nat.lt_of_lt_of_le hlt hn));have HSV:=hid (HV.out.below HB.out (Nat.le_refl _));go_upto_region 6 with fail;have hb1:=(Below.refl wr.heap.size wr).alloc (Nat.le_refl _) (.cells (zrow n) 43);have HB1:=hid hb1;have HQ1:=hid (heap_alloc_new wr (.cells (zrow n) 43));have HX1:=hid (heap_next hb1 HX.out);have HS1:=hid (HSV.out.below hb1 (Nat.le_refl _));clear b0 b1 b2 hb1 hmk;generalize wr.alloc (.cells (zrow n) 43)=w1 at *;obtain ⟨q,hq⟩:∃q,wr.heap.size=q:=⟨_,rfl⟩;rw [hq];rw [hq] at HQ1;have HQE:=hid hq;have HBq:=hid (show Below q wr w1 by rw [←hq];exact HB1.out);clear hq;have b0:=(cells_ofS HX1.out).1 0 _ rfl;have b1:=(cells_ofS HX1.out).1 1 _ rfl;have b2:=(cells_ofS HX1.out).1 2 _ rfl;obtain ⟨hrl,hrn⟩:=drop_len HXL.out hlt;obtain ⟨row,hrow⟩:∃row,(xs.drop (k * n)).take n=row:=⟨_,rfl⟩;have HROW:=hid hrow;have HRL:=hid (show row.length=n by rw [←hrow];exact hrl);obtain ⟨cs,hcs⟩:∃cs,row.map mkC=cs:=⟨_,rfl⟩;have HCS:=hid hcs;have HCL:=hid (show cs.length=n by rw [←hcs,List.length_map];exact HRL.out);clear hrow hrl hcs;obtain ⟨ko,hko⟩:∃ko,k * n=ko:=⟨_,rfl⟩;rw [hko] at hwi hrn;have HKO:=hid hko;have hnn2:ko+n≤nn:=by rw [HNN.out];exact hrn
    clear hko hrn;obtain ⟨gD,oD,hga,hcc,hDat⟩:∃gD oD,aD=some ⟨gD,oD,none⟩∧nn≤cD∧∀j,j < nn→w1.cell? ⟨gD,oD+j,none⟩=(xs.map mkC)[j]?:=by
     rcases HS1.out.2 with ⟨h0,h00⟩ | ⟨gD,oD,c,hv,hc,_,hcell⟩
     · omega
     · cases hv;exact ⟨gD,oD,rfl,hc,fun j hj=> hcell j (by omega)⟩
    subst hga;have HDA:=hid hDat;have hcut:=fun w'=> cut_from (a:=⟨gD,oD,none⟩) (nn:=nn) (c:=cD) (k:=ko) (by omega) hcc (by omega) w'
    rw [show (⟨gD,oD,none⟩:Addr).add ko=⟨gD,oD+ko,none⟩ by unfold Addr.add;split <;> simp_all] at hcut;clear hDat;have HMIN:=hid (show cs.length=Nat.min (nn - ko) n by rw [HCL.out];show n=min (nn - ko) n;omega);have HFIT:=hid (show 0+cs.length≤ ((List.replicate n ((0:Nat),(0:Nat))).map mkC).length by rw [HCL.out];simp);have H1C:=hid (show∀v∈cs,v.oneCell'=true by intro v hv;rw [←HCS.out] at hv;obtain ⟨x,_,rfl⟩:=List.mem_map.1 hv;rfl);go_wp2_with (refine wpList_copy_splice rfl (.tmp 16) (.tmp 23) _ _ rfl _ Tryz.underlying33 (by rw [hic];simp [hc1]) (some ⟨q,0,none⟩) (some ⟨gD,oD+ko,none⟩) n n (nn - ko) (cD - ko) rfl rfl q 0 ((List.replicate n (0,0)).map mkC) _ HQ1.out cs HMIN.out (fun hp=> ⟨rfl,_,rfl,?_⟩) HFIT.out H1C.out q wr HBq.out (Nat.le_refl _) ?_)
    · intro j v hv;have hj:j < n:=by have:=(List.getElem?_eq_some_iff.1 hv).1;rw [HCL.out] at this;exact this
      rw [show (⟨gD,oD+ko,none⟩:Addr).add j=⟨gD,oD+(ko+j),none⟩ by unfold Addr.add;split <;> simp_all [Nat.add_assoc],HDA.out (ko+j) (by omega),←hv,←HCS.out,←HROW.out,HKO.out,List.map_take,List.map_drop,List.getElem?_take,if_pos hj,List.getElem?_drop]
    · intro w2 hg2 hb2;have hbw2:Below wr.heap.size wr w2:=by rw [HQE.out];exact hb2
      have HQ2:=hid (show w2.heap[q]? =some (.cells (row.map mkC).toArray 43 (0,0)) by rw [HCS.out,hg2.out,splice_all HCL.out (by simp)]);have HL2:=hid (HL.out.later hbw2);have HX2:=hid (heap_next hbw2 HX.out);have HB2:=hid (below_next HB.out hbw2);have HQN:=hid (show∀j,j < k→bj j≠q from fun j hj e=> by have h:=(Array.getElem?_eq_some_iff.1 (HL.out.row j hj)).1;rw [e,←HQE.out] at h;exact Nat.lt_irrefl _ h);have HGQ:=hid (show gm≤q by rw [←HQE.out];have:=HL.out.lt;omega);have HSZ2:=hid (show gm≤w2.heap.size from HL2.out.lt);clear hg2 hb2 hbw2 HL HX HB HSV HB1 HQ1 HX1 HS1 HBq b0 b1 b2 hcut HDA HMIN HFIT H1C;have c0:=(cells_ofS HL2.out.box).1 0 _ rfl;have c1:=(cells_ofS HL2.out.box).1 1 _ rfl;have c2:=(cells_ofS HL2.out.box).1 2 _ rfl;have c3:=(cells_ofS HL2.out.box).1 3 _ rfl;go_upto_region 7 with fail;go_upto_region 8 with (refine wpList_push2 rfl rfl _ rfl _ _ _ rfl rfl gm 33 1 24 ir (.slice none 0 0) Tryz.underlying42 hir hr0 hr1 hr2 rfl (by decide) (by decide) _ k _ HL2.out.oR HSZ2.out (.slice (some ⟨q,0,none⟩) n n) rfl rfl (by intro u hu;simp [Value.cells] at hu;subst hu;rfl) rfl rfl (by simp [maxLen];omega) (by omega) ?_;intro g1 cap1 w3 hown1 hg1 htwo;obtain ⟨hk1,hk2⟩:=HL2.out.pushRow HGQ.out HQ2.out HRL.out HQN.out hown1 htwo;have HL4:=hid hk2;have HK1:=hid hk1;have f1:=(cells_ofS hk1).2 1;have d1:=(cells_ofS hk1).1 1 _ rfl;have HTW:=hid htwo;clear c0 c1 c2 c3 hk1 hk2 hown1 hg1 htwo);obtain ⟨hb4,hx4⟩:=push_keepL (o:=1) (u:=.slice (some ⟨g1,0,none⟩) (k+1) cap1) HL2.out.oR HTW.out HL4.out.gB (by have h:=HB2.out;rw [HGM.out] at h;exact h) HSZ2.out HX2.out (by decide) HK1.out (by decide);have HB4:=hid hb4;have HX4:=hid hx4;clear hb4 hx4 f1 d1 HTW HL2 HB2 HX2 HQ2 HK1 HSZ2 HQN;generalize w3.setCell ⟨g,1,none⟩ (.slice (some ⟨g1,0,none⟩) (k+1) cap1)=w4 at *;have HSZ4:=hid (show gm≤w4.heap.size from HL4.out.lt);have c0:=(cells_ofS HL4.out.box).1 0 _ rfl
      have c1:=(cells_ofS HL4.out.box).1 1 _ rfl;have c2:=(cells_ofS HL4.out.box).1 2 _ rfl;have c3:=(cells_ofS HL4.out.box).1 3 _ rfl;go_wp2_with (refine wpList_push2 rfl rfl _ rfl _ _ _ rfl rfl gm 3 1 8 ii (.int .i64 0) Tryz.underlying132 hii hi0 hi1 hi2 rfl (by decide) (by decide) _ k _ HL4.out.oO HSZ4.out (.int .i64 k) rfl rfl (by intro u hu;simp [Value.cells] at hu;subst hu;rfl) rfl rfl (by simp [maxLen];omega) (by omega) ?_;intro g2 cap2 w5 hown2 hg2 htwo2;obtain ⟨hk1,hk2⟩:=HL4.out.pushOrd (x:=k) hown2 htwo2;have HL6:=hid hk2;have HK5:=hid hk1;have f2:=(cells_ofS hk1).2 2;have d2:=(cells_ofS hk1).1 2 _ rfl;have HTW:=hid htwo2;clear c0 c1 c2 c3 hk1 hk2 hown2 hg2 htwo2);obtain ⟨hb6,hx6⟩:=push_keepL (o:=2) (u:=.slice (some ⟨g2,0,none⟩) (k+1) cap2) HL4.out.oO HTW.out HL6.out.gB HB4.out HSZ4.out HX4.out (by decide) HK5.out (by decide);go_roundw
      case rel=> exact ⟨k+1,.slice (some ⟨g1,0,none⟩) (k+1) cap1,.slice (some ⟨g2,0,none⟩) (k+1) cap2,upd bj k q,by omega,by go_num,by
       have h:=HL6.out;rw [←HROW.out] at h;have h2:=upd_self (fun j=> (xs.drop (j * n)).take n) k;rw [h2,show (List.range k).map Int.ofNat++ [(k:Int)]=(List.range (k+1)).map Int.ofNat by rw [List.range_succ,List.map_append];rfl] at h;exact h,by rw [HGM.out];exact hb6,hx6⟩
      case measure=> simp [intOf];omega
  · obtain rfl:k=n:=by omega
    go_wp2;go_ret;exact ⟨g,.slice aR k cR,.slice aO k cO,bj,rfl,by rw [HGM.out];exact HL.out,HB.out⟩
end
end Go.Proofs.YtaegmlhfecfgkaaGreatDoor
