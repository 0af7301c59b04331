/- a part of the proof of the last text -/
import Derived.Test.YtdepiggjneoopaaGreatDoorZMPart
namespace Go.Proofs.YtdepiggjneoopaaGreatDoor
set_option linter.all false
set_option maxHeartbeats 4000000
set_option maxRecDepth 100000
section
open Go.RowKit
def RetSq (F:Nat→Nat→Cx) (n:Nat) (w:World) (e:Ending) (w':World):Prop:=
 ∃v,e=.returned (.agg #[.int .i64 n,.int .i64 n,v])∧w'.ownsRow w.heap.size 48 1 v (n * n) ((matL F n n 0).map mkC)∧Below w.heap.size w w'
theorem alloc2_0b (w:World) (a b:Obj):((w.alloc a).alloc b).heap[w.heap.size]? =some a:=(heap_alloc_old (w.alloc a) b (by simp)).trans (heap_alloc_new w a)
theorem alloc2_1b (w:World) (a b:Obj):((w.alloc a).alloc b).heap[w.heap.size+1]? =some b:=by
 have:=heap_alloc_new (w.alloc a) b
 simpa using this
theorem enter_L (args:Array Value) (w:World):(callFunc 158 args).run Tryz.prog w=.ok (.enter 158 args) w:=by
 have h : (Tryz.f158.name == "runtime.NumGoroutine") = false := by kernel_rfl
 have h2:Tryz.f158.body.isNone=false:=by kernel_rfl
 simp only [callFunc,Sem.run_bind,run_program,Result.andThen_ok,Tryz.func158,h,h2,Bool.false_eq_true,if_false,Sem.run_pure]
theorem low_L (p:Value) (n:Nat) (R:Nat→List Cx) (ord:List Int) (sg:Int) (w:World) (h:LowAt w p n R ord sg) (hn:n≤64):
 Calls Tryz.prog 136 #[p] w (RetSq (lowL R) n w):=by
 have H:=hid h;obtain ⟨g,vR,vO,V,rfl,_⟩:=h;have aI:=(Below.refl w.heap.size w).alloc (Nat.le_refl _) (.cells #[.pointer (some ⟨g,0,none⟩)] 125);have bC:=hid (aI.alloc aI.size (.cells #[.int .i64 0,.int .i64 0,.slice none 0 0] 43));have hB:=alloc2_0b w (.cells #[.pointer (some ⟨g,0,none⟩)] 125) (.cells #[.int .i64 0,.int .i64 0,.slice none 0 0] 43);have hZ:=alloc2_1b w (.cells #[.pointer (some ⟨g,0,none⟩)] 125) (.cells #[.int .i64 0,.int .i64 0,.slice none 0 0] 43);have HB:=hid hB;have HZ:=hid hZ;have HS:=hid (show w.heap.size+1 < ((w.alloc (.cells #[.pointer (some ⟨g,0,none⟩)] 125)).alloc (.cells #[.int .i64 0,.int .i64 0,.slice none 0 0] 43)).heap.size by simp);clear aI hB hZ;go_enter Tryz.func136,Tryz.ntmps136;go_upto_region 1 with fail;generalize (w.alloc (.cells #[.pointer (some ⟨g,0,none⟩)] 125)).alloc (.cells #[.int .i64 0,.int .i64 0,.slice none 0 0] 43)=w1 at *;have c0:=box_cell HB.out;have HL:=hid (H.out.below bC.out);go_wp2_with (go_at_call 157;refine (part_any _ n R ord sg _ _ (lowL R) _ HL.out hn enter_L (fun i j w' hi hj hb=> lowL_any _ _ n R ord sg i j w' (HL.out.below hb) (zBn hb HB.out) hi hj)).mono ?_;rintro e w2 ⟨v,rfl,aC,aV⟩;obtain ⟨av,cv,rfl⟩:=(IsSl.of_own aC).form;have HO:=hid aC;have aG:=hid aV;obtain ⟨z0,z1,z2,y0,y1,y2⟩:=mat_atP (zBn aV HZ.out);clear aC aV)
 (try simp only [Exit.inBlock,Exit.then])
 (try rw [Exit.noGoto_ret])
 refine bodyPost_ret (v:=.agg #[.int .i64 n,.int .i64 n,.slice av (n * n) cv]) ?_ rfl ⟨_,rfl,?_,?_⟩
 · rw [zFa rfl];go_simp
 · exact World.ownsRow.mono (ownsRow_setCell_below (ownsRow_setCell_below (ownsRow_setCell_below HO.out HS.out _) HS.out _) HS.out _) (Nat.le_of_lt (Nat.lt_of_succ_lt HS.out))
 · exact (((bC.out.trans (aG.out.mono bC.out.size)).setCell (Nat.le_succ _) _).setCell (Nat.le_succ _) _).setCell (Nat.le_succ _) _
theorem enter_U (args:Array Value) (w:World):(callFunc 159 args).run Tryz.prog w=.ok (.enter 159 args) w:=by
 have h : (Tryz.f159.name == "runtime.NumGoroutine") = false := by kernel_rfl
 have h2:Tryz.f159.body.isNone=false:=by kernel_rfl
 simp only [callFunc,Sem.run_bind,run_program,Result.andThen_ok,Tryz.func159,h,h2,Bool.false_eq_true,if_false,Sem.run_pure]
theorem low_U (p:Value) (n:Nat) (R:Nat→List Cx) (ord:List Int) (sg:Int) (w:World) (h:LowAt w p n R ord sg) (hn:n≤64):
 Calls Tryz.prog 137 #[p] w (RetSq (lowU R) n w):=by
 have H:=hid h;obtain ⟨g,vR,vO,V,rfl,_⟩:=h;have aI:=(Below.refl w.heap.size w).alloc (Nat.le_refl _) (.cells #[.pointer (some ⟨g,0,none⟩)] 125);have bC:=hid (aI.alloc aI.size (.cells #[.int .i64 0,.int .i64 0,.slice none 0 0] 43));have hB:=alloc2_0b w (.cells #[.pointer (some ⟨g,0,none⟩)] 125) (.cells #[.int .i64 0,.int .i64 0,.slice none 0 0] 43);have hZ:=alloc2_1b w (.cells #[.pointer (some ⟨g,0,none⟩)] 125) (.cells #[.int .i64 0,.int .i64 0,.slice none 0 0] 43);have HB:=hid hB;have HZ:=hid hZ;have HS:=hid (show w.heap.size+1 < ((w.alloc (.cells #[.pointer (some ⟨g,0,none⟩)] 125)).alloc (.cells #[.int .i64 0,.int .i64 0,.slice none 0 0] 43)).heap.size by simp);clear aI hB hZ;go_enter Tryz.func137,Tryz.ntmps137;go_upto_region 1 with fail;generalize (w.alloc (.cells #[.pointer (some ⟨g,0,none⟩)] 125)).alloc (.cells #[.int .i64 0,.int .i64 0,.slice none 0 0] 43)=w1 at *;have c0:=box_cell HB.out;have HL:=hid (H.out.below bC.out);go_wp2_with (go_at_call 157;refine (part_any _ n R ord sg _ _ (lowU R) _ HL.out hn enter_U (fun i j w' hi hj hb=> lowU_any _ _ n R ord sg i j w' (HL.out.below hb) (zBn hb HB.out) hi hj)).mono ?_;rintro e w2 ⟨v,rfl,aC,aV⟩;obtain ⟨av,cv,rfl⟩:=(IsSl.of_own aC).form;have HO:=hid aC;have aG:=hid aV;obtain ⟨z0,z1,z2,y0,y1,y2⟩:=mat_atP (zBn aV HZ.out);clear aC aV)
 (try simp only [Exit.inBlock,Exit.then])
 (try rw [Exit.noGoto_ret])
 refine bodyPost_ret (v:=.agg #[.int .i64 n,.int .i64 n,.slice av (n * n) cv]) ?_ rfl ⟨_,rfl,?_,?_⟩
 · rw [zFa rfl];go_simp
 · exact World.ownsRow.mono (ownsRow_setCell_below (ownsRow_setCell_below (ownsRow_setCell_below HO.out HS.out _) HS.out _) HS.out _) (Nat.le_of_lt (Nat.lt_of_succ_lt HS.out))
 · exact (((bC.out.trans (aG.out.mono bC.out.size)).setCell (Nat.le_succ _) _).setCell (Nat.le_succ _) _).setCell (Nat.le_succ _) _
end
section
open Go.RowKit
end
section
open Go.RowKit
abbrev Mx:=Nat→Nat→Cx
structure Es where
 R:Mx
 ord:Nat→Nat
 neg:Bool
def colL (n:Nat) (R:Mx) (k:Nat):List Cx:=(List.range n).map fun i=> R i k
theorem colL_len (n:Nat) (R:Mx) (k:Nat):(colL n R k).length=n:=by simp [colL]
def swp (p k i:Nat):Nat:=if i=k then p else if i=p then k else i
theorem swp_same (k i:Nat):swp k k i=i:=by unfold swp;split <;> simp_all
theorem swp_lt {p k i n:Nat} (hp:p < n) (hk:k < n) (hi:i < n):swp p k i < n:=by unfold swp;split <;> (try split) <;> omega
def swS (s:Es) (p k:Nat):Es:=⟨fun i=> s.R (swp p k i),fun i=> s.ord (swp p k i),if p=k then s.neg else !s.neg⟩
def factE (R:Mx) (k i:Nat):Cx:=cdiv (R i k) (R k k)
def rowE (R:Mx) (k i j:Nat):Cx:=if j=k then factE R k i else if k < j then csub (R i j) (cmul (factE R k i) (R k j)) else R i j
def elP (R:Mx) (k i q:Nat):Mx:=fun a j=> if k < a∧a < i then rowE R k a j else if a=i∧k < j∧j < q then rowE R k i j else R a j
def zEr (R:Mx) (k a q:Nat):Bool:=cfin (factE R k a) && (List.range q).all fun j=> !decide (k < j) || cfin (rowE R k a j)
def zEq (R:Mx) (k n i:Nat):Bool:=(List.range i).all fun a=> !decide (k < a) || zEr R k a n
theorem fineRow_succ {R:Mx} {k a q:Nat} (h:k < q):zEr R k a (q+1)=(zEr R k a q && cfin (rowE R k a q)):=by
 unfold zEr;rw [List.range_succ,List.all_append,Bool.and_assoc]
 simp [h]
theorem fineRow_start {R:Mx} {k a:Nat}:zEr R k a (k+1)=cfin (factE R k a):=by
 unfold zEr;have:(List.range (k+1)).all (fun j=> !decide (k < j) || cfin (rowE R k a j))=true:=by
  rw [List.all_eq_true];intro j hj;have:=List.mem_range.1 hj
  simp [show¬k < j by omega]
 rw [this,Bool.and_true]
theorem fineUp_succ {R:Mx} {k n i:Nat} (h:k < i):zEq R k n (i+1)=(zEq R k n i && zEr R k i n):=by
 unfold zEq;rw [List.range_succ,List.all_append]
 simp [h]
theorem fineUp_start {R:Mx} {k n:Nat}:zEq R k n (k+1)=true:=by
 unfold zEq;rw [List.all_eq_true];intro j hj;have:=List.mem_range.1 hj
 simp [show¬k < j by omega]
def elimR (R:Mx) (k n:Nat):Mx:=fun a j=> if k < a∧a < n then rowE R k a j else R a j
theorem elP_start {R:Mx} {k:Nat}:elP R k (k+1) (k+1)=R:=by
 funext a j
 unfold elP;rw [if_neg (by omega),if_neg (by omega)]
theorem elP_done {R:Mx} {k n q:Nat} (hq:q≤k+1):elP R k n q=elimR R k n:=by
 funext a j
 unfold elP elimR
 split
 · rfl
 · rw [if_neg (by omega)]
theorem elP_col {R:Mx} {k i q:Nat} (hi:k < i) (hq:k < q):(fun a j=> if a=i∧j=q then rowE R k i q else elP R k i q a j)=elP R k i (q+1):=by
 funext a j
 by_cases e:a=i∧j=q
 · rw [if_pos e,e.1,e.2];unfold elP;rw [if_neg (by omega),if_pos (by omega)]
 · rw [if_neg e];unfold elP
   split
   · rfl
   · by_cases h:a=i∧k < j∧j < q
     · rw [if_pos h,if_pos (by omega)]
     · rw [if_neg h,if_neg (by omega)]
theorem elP_row {R:Mx} {k i n a j:Nat} (hi:k < i) (hj:j < n):(if a=i∧j=k then factE R k i else elP R k i n a j)=elP R k (i+1) (k+1) a j:=by
 by_cases e:a=i∧j=k
 · rw [if_pos e,e.1,e.2];unfold elP;rw [if_pos (by omega)];unfold rowE;rw [if_pos rfl]
 · rw [if_neg e];unfold elP
   by_cases h1:k < a∧a < i
   · rw [if_pos h1,if_pos (by omega)]
   · rw [if_neg h1]
     by_cases h2:a=i
     · subst h2;rw [if_pos (show k < a∧a < a+1 by omega)]
       by_cases h3:k < j
       · rw [if_pos (by omega)]
       · rw [if_neg (by omega)];unfold rowE;rw [if_neg (by omega),if_neg h3]
     · rw [if_neg (by omega),if_neg (show¬(k < a∧a < i+1) by omega),if_neg (by omega)]
def zDy (n:Nat) (s:Es) (k:Nat):Es × Int:=
 if (zCb (colL n s.R k) k).2≠0 then (s,(zCb (colL n s.R k) k).2)
 else (⟨elimR (swS s (zCb (colL n s.R k) k).1.toNat k).R k n,(swS s (zCb (colL n s.R k) k).1.toNat k).ord,(swS s (zCb (colL n s.R k) k).1.toNat k).neg⟩,
  if zEq (swS s (zCb (colL n s.R k) k).1.toNat k).R k n n=true then 0 else 6)
def esK (n:Nat) (m:Nat→Cx):Nat→Es
 | 0=> ⟨fun i j=> m (i * n+j),fun i=> i,false⟩
 | k+1=> (zDy n (esK n m k) k).1
def lowBad (n:Nat) (m:Nat→Cx):Option Nat:=(List.range n).find? fun k=> (zDy n (esK n m k) k).2 !=0
def lowE (n:Nat) (m:Nat→Cx):Option Es × (Int × Int):=
 match lowBad n m with
 | some k=> (none,((zDy n (esK n m k) k).2,k))
 | none=> (some (esK n m n),(0,0))
theorem find_at {n k:Nat} {p:Nat→Bool} (hk:k < n) (h:∀i,i < k→p i=false) (hp:p k=true):(List.range n).find? p=some k:=by
 rw [List.find?_eq_some_iff_getElem];exact ⟨hp,k,by simpa using hk,by simp,fun j hj=> by simp [h j hj]⟩
theorem low_stop {n k:Nat} {m:Nat→Cx} (hk:k < n) (h:∀i,i < k→(zDy n (esK n m i) i).2=0) (hp:(zDy n (esK n m k) k).2≠0):lowE n m=(none,((zDy n (esK n m k) k).2,(k:Int))):=by
 unfold lowE lowBad;rw [find_at hk (fun i hi=> by simp [h i hi]) (by simpa using hp)]
theorem low_done {n:Nat} {m:Nat→Cx} (h:∀i,i < n→(zDy n (esK n m i) i).2=0):lowE n m=(some (esK n m n),(0,0)):=by
 unfold lowE lowBad;rw [List.find?_eq_none.2 (fun i hi=> by simp [h i (by simpa using hi)])]
end
section
open Go.RowKit
theorem zEg {w w':World} {g:Nat} {o:Obj} {row:Option Nat} (hg:w.grownBy w' row) (aK:row≠some g) (h:w.heap[g]? =some o):w'.heap[g]? =some o:=(hg.block g (Array.getElem?_eq_some_iff.1 h).1 (by first | exact aK | exact fun e=> aK e | exact fun e=> aK e.symm)).trans h
end
section
open Go.RowKit
structure LwAt (B:Nat) (w:World) (g:Nat) (vR vO:Value) (n m mo:Nat) (bj:Nat→Nat) (M:Nat→List Cx) (ord:List Int) (sg:Int):Prop where
 gB:B≤g
 bB:∀j,j < m→B≤bj j
 box:w.heap[g]? =some (.cells #[.bool true,vR,vO,.int .i64 sg] 206 (0,0))
 oR:w.ownsRow B 41 1 vR m ((List.range m).map fun j=> .slice (some ⟨bj j,0,none⟩) n n)
 oO:w.ownsRow B 3 1 vO mo (ord.map (.int .i64))
 row:∀j,j < m→w.heap[bj j]? =some (.cells ((M j).map mkC).toArray 48 (0,0))
 len:∀j,j < m→(M j).length=n
 inj:∀i j,i < m→j < m→bj i=bj j→i=j
theorem LwAt.lt {B g n m mo:Nat} {w:World} {vR vO:Value} {bj:Nat→Nat} {M:Nat→List Cx} {ord:List Int} {sg:Int} (h:LwAt B w g vR vO n m mo bj M ord sg):B≤w.heap.size:=by
 have:=h.gB;have:=(Array.getElem?_eq_some_iff.1 h.box).1
 omega
theorem LwAt.other {B g n m mo r:Nat} {w w':World} {vR vO:Value} {bj:Nat→Nat} {M:Nat→List Cx} {ord:List Int} {sg:Int} (h:LwAt B w g vR vO n m mo bj M ord sg) (hg:w.grownBy w' (some r))
 (h1:r≠g) (h2:vR.ownBlock≠some r) (h3:vO.ownBlock≠some r) (h4:∀j,j < m→bj j≠r):LwAt B w' g vR vO n m mo bj M ord sg:=
 ⟨h.gB,h.bB,zAj hg (Ne.symm h1) h.box,zCn h.oR hg (fun k e e2=> h2 (by rw [e,e2])),zCn h.oO hg (fun k e e2=> h3 (by rw [e,e2])),fun j hj=> zAj hg (h4 j hj) (h.row j hj),h.len,h.inj⟩
theorem LwAt.kept0 {B g n m mo:Nat} {w w':World} {vR vO:Value} {bj:Nat→Nat} {M:Nat→List Cx} {ord:List Int} {sg:Int} (h:LwAt B w g vR vO n m mo bj M ord sg) (hg:w.grownBy w' none):LwAt B w' g vR vO n m mo bj M ord sg:=
 ⟨h.gB,h.bB,(hg.block g (Array.getElem?_eq_some_iff.1 h.box).1 (by simp)).trans h.box,zBf h.oR hg,zBf h.oO hg,fun j hj=> (hg.block _ (Array.getElem?_eq_some_iff.1 (h.row j hj)).1 (by simp)).trans (h.row j hj),h.len,h.inj⟩
theorem LwAt.later {B g n m mo:Nat} {w w':World} {vR vO:Value} {bj:Nat→Nat} {M:Nat→List Cx} {ord:List Int} {sg:Int} (h:LwAt B w g vR vO n m mo bj M ord sg) (hb:Below w.heap.size w w'):LwAt B w' g vR vO n m mo bj M ord sg:=h.kept0 (zAe hb _)
theorem LwAt.typ {B g n m mo r t:Nat} {w w':World} {vR vO:Value} {bj:Nat→Nat} {M:Nat→List Cx} {ord:List Int} {sg:Int} {cs:Array Value} (h:LwAt B w g vR vO n m mo bj M ord sg) (hr:w.heap[r]? =some (.cells cs t (0,0))) (hg:w.grownBy w' (some r))
 (h1:t≠206) (h2:t≠41) (h3:t≠3) (h4:t≠48 ∨∀j,j < m→bj j≠r):LwAt B w' g vR vO n m mo bj M ord sg:=
 h.other hg (zBi hr h.box h1) (fun e=> by obtain ⟨_,c,hc⟩:=zCj h.oR e;exact zBi hr hc h2 rfl) (fun e=> by obtain ⟨_,c,hc⟩:=zCj h.oO e;exact zBi hr hc h3 rfl)
  (fun j hj=> h4.elim (fun h4=> Ne.symm (zBi hr (h.row j hj) h4)) (fun h4=> h4 j hj))
theorem LwAt.pushRow {B g n m mo q g1:Nat} {w2 w3:World} {vR vO vR':Value} {bj:Nat→Nat} {M:Nat→List Cx} {ord:List Int} {sg:Int} {r:List Cx} (h:LwAt B w2 g vR vO n m mo bj M ord sg) (hB:B≤q)
 (hq:w2.heap[q]? =some (.cells (r.map mkC).toArray 48 (0,0))) (hr:r.length=n) (pX:∀j,j < m→bj j≠q) (own:w3.ownsRow B 41 1 vR' (m+1) ((List.range m).map (fun j=> .slice (some ⟨bj j,0,none⟩) n n)++ [.slice (some ⟨q,0,none⟩) n n]))
 (two:(vR.ownBlock=some g1∧w2.grownBy w3 (some g1))∨(w2.heap.size≤g1∧w2.grownBy w3 none)):
 w3.heap[g]? =some (.cells #[.bool true,vR,vO,.int .i64 sg] 206 (0,0))∧LwAt B (w3.setCell ⟨g,1,none⟩ vR') g vR' vO n (m+1) mo (upd bj m q) (upd M m r) ord sg:=by
 have key:w3.heap[g]? =some (.cells #[.bool true,vR,vO,.int .i64 sg] 206 (0,0))∧w3.ownsRow B 3 1 vO mo (ord.map (.int .i64))∧(∀j,j < m→w3.heap[bj j]? =some (.cells ((M j).map mkC).toArray 48 (0,0)))∧w3.heap[q]? =some (.cells (r.map mkC).toArray 48 (0,0)):=by
  rcases two with ⟨e,hg⟩ | ⟨_,hg⟩
  · obtain ⟨_,c,hc⟩:=zCj h.oR e;exact ⟨zAj hg (zBi h.box hc (by decide)) h.box,zCn h.oO hg (fun k e1 e2=> by obtain rfl:=Option.some.inj e2;obtain ⟨_,c2,cC⟩:=zCj h.oO e1;exact zBi hc cC (by decide) rfl),fun j hj=> zAj hg (zBi (h.row j hj) hc (by decide)) (h.row j hj),zAj hg (zBi hq hc (by decide)) hq⟩
  · exact ⟨zEg hg (by simp) h.box,zBf h.oO hg,fun j hj=> zEg hg (by simp) (h.row j hj),zEg hg (by simp) hq⟩
 obtain ⟨k1,k2,k3,k4⟩:=key;have hs:=zAn w3 g 1 vR';have bK:=zAy (o:=1) k1 vR';refine ⟨k1,h.gB,fun j hj=> ?_,bK,?_,zCn k2 hs (fun k e1 e2=> by obtain rfl:=Option.some.inj e2;obtain ⟨_,c2,cC⟩:=zCj k2 e1;exact zBi k1 cC (by decide) rfl),fun j hj=> ?_,fun j hj=> ?_,fun i j hi hj he=> ?_⟩
 · by_cases e:j=m
   · subst e;rw [zAm];exact hB
   · rw [zAp _ _ e];exact h.bB j (by omega)
 · have:(List.range (m+1)).map (fun j=> Value.slice (some ⟨upd bj m q j,0,none⟩) n n)=(List.range m).map (fun j=> .slice (some ⟨bj j,0,none⟩) n n)++ [.slice (some ⟨q,0,none⟩) n n]:=by
    rw [List.range_succ,List.map_append]
    congr 1
    · refine List.map_congr_left fun j hj=> ?_
      rw [zAp _ _ (by have:=List.mem_range.1 hj;omega)]
    · simp [zAm]
   rw [this];exact zCn own hs (fun k e1 e2=> by obtain rfl:=Option.some.inj e2;obtain ⟨_,c2,cC⟩:=zCj own e1;exact zBi k1 cC (by decide) rfl)
 · by_cases e:j=m
   · subst e;rw [zAm,zAm];exact zAj hs (zBi k4 k1 (by decide)) k4
   · rw [zAp _ _ e,zAp _ _ e];exact zAj hs (zBi (k3 j (by omega)) k1 (by decide)) (k3 j (by omega))
 · by_cases e:j=m
   · subst e;rw [zAm];exact hr
   · rw [zAp _ _ e];exact h.len j (by omega)
 · by_cases ei:i=m
   · subst ei
     by_cases ej:j=i
     · exact ej.symm
     · rw [zAm,zAp _ _ ej] at he;exact absurd he.symm (pX j (by omega))
   · by_cases ej:j=m
     · subst ej;rw [zAm,zAp _ _ ei] at he;exact absurd he (pX i (by omega))
     · rw [zAp _ _ ei,zAp _ _ ej] at he;exact h.inj i j (by omega) (by omega) he
theorem LwAt.pushOrd {B g n m mo g1:Nat} {w2 w3:World} {vR vO vO':Value} {bj:Nat→Nat} {M:Nat→List Cx} {ord:List Int} {sg:Int} {x:Int} (h:LwAt B w2 g vR vO n m mo bj M ord sg)
 (own:w3.ownsRow B 3 1 vO' (mo+1) (ord.map (Value.int .i64)++ [.int .i64 x]))
 (two:(vO.ownBlock=some g1∧w2.grownBy w3 (some g1))∨(w2.heap.size≤g1∧w2.grownBy w3 none)):
 w3.heap[g]? =some (.cells #[.bool true,vR,vO,.int .i64 sg] 206 (0,0))∧LwAt B (w3.setCell ⟨g,2,none⟩ vO') g vR vO' n m (mo+1) bj M (ord++ [x]) sg:=by
 have key:w3.heap[g]? =some (.cells #[.bool true,vR,vO,.int .i64 sg] 206 (0,0))∧w3.ownsRow B 41 1 vR m ((List.range m).map fun j=> .slice (some ⟨bj j,0,none⟩) n n)∧(∀j,j < m→w3.heap[bj j]? =some (.cells ((M j).map mkC).toArray 48 (0,0))):=by
  rcases two with ⟨e,hg⟩ | ⟨_,hg⟩
  · obtain ⟨_,c,hc⟩:=zCj h.oO e;exact ⟨zAj hg (zBi h.box hc (by decide)) h.box,zCn h.oR hg (fun k e1 e2=> by obtain rfl:=Option.some.inj e2;obtain ⟨_,c2,cC⟩:=zCj h.oR e1;exact zBi hc cC (by decide) rfl),fun j hj=> zAj hg (zBi (h.row j hj) hc (by decide)) (h.row j hj)⟩
  · exact ⟨zEg hg (by simp) h.box,zBf h.oR hg,fun j hj=> zEg hg (by simp) (h.row j hj)⟩
 obtain ⟨k1,k2,k3⟩:=key;have hs:=zAn w3 g 2 vO';have bK:=zAy (o:=2) k1 vO';refine ⟨k1,h.gB,h.bB,bK,zCn k2 hs (fun k e1 e2=> by obtain rfl:=Option.some.inj e2;obtain ⟨_,c2,cC⟩:=zCj k2 e1;exact zBi k1 cC (by decide) rfl),?_,fun j hj=> zAj hs (zBi (k3 j hj) k1 (by decide)) (k3 j hj),h.len,h.inj⟩;rw [List.map_append];exact zCn own hs (fun k e1 e2=> by obtain rfl:=Option.some.inj e2;obtain ⟨_,c2,cC⟩:=zCj own e1;exact zBi k1 cC (by decide) rfl)
theorem LwAt.putNum {B g n m mo i j:Nat} {w:World} {vR vO:Value} {bj:Nat→Nat} {M:Nat→List Cx} {ord:List Int} {sg:Int} (h:LwAt B w g vR vO n m mo bj M ord sg) (hi:i < m) (hj:j < n) (z:Cx):
 LwAt B (w.setCell ⟨bj i,j,none⟩ (mkC z)) g vR vO n m mo bj (upd M i ((M i).set j z)) ord sg:=by
 have hs:=zAn w (bj i) j (mkC z);have hr:=h.row i hi;refine ⟨h.gB,h.bB,zAj hs (zBi h.box hr (by decide)) h.box,zCn h.oR hs (fun k e1 e2=> by obtain rfl:=Option.some.inj e2;obtain ⟨_,c2,cC⟩:=zCj h.oR e1;exact zBi hr cC (by decide) rfl),zCn h.oO hs (fun k e1 e2=> by obtain rfl:=Option.some.inj e2;obtain ⟨_,c2,cC⟩:=zCj h.oO e1;exact zBi hr cC (by decide) rfl),fun k hk=> ?_,fun k hk=> ?_,h.inj⟩
 · by_cases e:k=i
   · subst e;rw [zAm,List.map_set,←List.setIfInBounds_toArray];exact zAy (o:=j) hr (mkC z)
   · rw [zAp _ _ e];exact zAj hs (fun e2=> e (h.inj k i hk hi e2)) (h.row k hk)
 · by_cases e:k=i
   · subst e;rw [zAm,List.length_set];exact h.len k hk
   · rw [zAp _ _ e];exact h.len k hk
structure LwS (n:Nat) (s:Es) (M:Nat→List Cx) (ord:List Int) (sg:Int):Prop where
 num:∀i j,i < n→j < n→ck ((M i).getD j (0,0))=s.R i j
 ln:ord.length=n
 ord:∀i,i < n→ord[i]? =some (s.ord i:Int)
 sg:sg=if s.neg=true then -1 else 1
theorem LwAt.low {B g n:Nat} {w:World} {vR vO:Value} {bj:Nat→Nat} {M:Nat→List Cx} {ord:List Int} {sg:Int} (h:LwAt B w g vR vO n n n bj M ord sg):LowAt w (.pointer (some ⟨g,0,none⟩)) n M ord sg:=
 ⟨g,vR,vO,fun j=> .slice (some ⟨bj j,0,none⟩) n n,rfl,h.box,IsSl.of_own h.oO,IsSl.of_own h.oR,fun j hj=> by
  refine ⟨by simp [h.len j hj],.inr ⟨bj j,0,n,rfl,Nat.le_refl _,(Array.getElem?_eq_some_iff.1 (h.row j hj)).1,fun q hq=> ?_⟩⟩;rw [Nat.zero_add,cell_of_row _ _ _ _ _ _ (h.row j hj),List.getElem?_toArray]⟩
end
section
open Go.RowKit
theorem infoCs:(Tryz.prog.info? 41).map (fun i=> (i.zero,i.size,i.bytes))=some (some (.slice none 0 0),1,24):=by kernel_rfl
theorem nn_wrap {n nn:Nat} (hn:n≤64) (h:nn=n * n):IntKind.i64.wrap ((n:Int) * (n:Int))=(nn:Int):=by
 have h1:n * n≤64 * 64:=Nat.mul_le_mul hn hn;have h2:(n:Int) * (n:Int)=((n * n:Nat):Int):=by simp
 rw [h2,IntWalk.i64_in _ ⟨by omega,by omega⟩,h]
theorem in_wrap {i n:Nat} (hn:n≤64) (hi:i≤64):IntKind.i64.wrap ((i:Int) * (n:Int))=((i * n:Nat):Int):=by
 have h1:i * n≤64 * 64:=Nat.mul_le_mul hi hn;have h2:(i:Int) * (n:Int)=((i * n:Nat):Int):=by simp
 rw [h2,IntWalk.i64_in _ ⟨by omega,by omega⟩]
theorem mcheck_any (n nn:Nat) (a:Option Addr) (c:Nat) (w:World) (hn:n≤64) (fU:nn=n * n):
 Calls Tryz.prog 82 #[.agg #[.int .i64 n,.int .i64 n,.slice a nn c]] w fun e w'=> e=.returned (.int .i64 0)∧Below w.heap.size w w':=by
 have aI:=(Below.refl w.heap.size w).alloc (Nat.le_refl _) (.cells #[.int .i64 n,.int .i64 n,.slice a nn c] 43);have HB:=hid aI;have hx:=zAb (heap_alloc_new w (.cells #[.int .i64 n,.int .i64 n,.slice a nn c] 43));have b0:=hx.1 0 _ rfl;have b1:=hx.1 1 _ rfl;have b2:=hx.1 2 _ rfl;have qN:=nn_wrap hn fU;clear aI hx fU;go_enter Tryz.func82,Tryz.ntmps82;go_wp2;go_ret;exact ⟨rfl,HB.out⟩
def RetStart (n:Nat) (xs:List Cx) (w:World) (e:Ending) (w':World):Prop:=
 ∃ (g:Nat) (vR vO:Value) (bj:Nat→Nat),e=.returned (.pointer (some ⟨g,0,none⟩))∧LwAt w.heap.size w' g vR vO n n n bj (fun j=> (xs.drop (j * n)).take n) ((List.range n).map Int.ofNat) 1∧Below w.heap.size w w'
theorem cut_from {a:Addr} {nn c k:Nat} (hk:k≤nn) (hc:nn≤c) (hp:k < c) (w':World):(Instr.sliceAt 41 (.slice (some a) nn c) (some (.int .i64 k)) none none).run Tryz.prog w'=.ok (.slice (some (a.add k)) (nn - k) (c - k)) w':=by
 obtain ⟨i0,hi,cG,bD,cB⟩:=info_parts zFh;have he:Tryz.prog.elem 41 =48 :=by have:=Tryz.underlying41;simp [Program.elem,this]
 have hu:Tryz.prog.underlying 41 =some (.slice (Tryz.prog.elem 41)):=by rw [he];exact Tryz.underlying41
 have h:=run_slice_l w' 41 (some a) nn c hu .i64 k (by omega) (by omega);have h2:=run_sliceAt_slice w' 41 (.slice (some a) nn c) (some (.int .i64 k)) none none hu;rw [h2,h,he]
 simp [sizeOf,typeInfo,hi,bD,sliced,Result.andThen]
 omega
theorem drop_len {n k:Nat} {xs:List Cx} (hx:xs.length=n * n) (hk:k < n):((xs.drop (k * n)).take n).length=n∧k * n+n≤n * n:=by
 have h:(k+1) * n≤n * n:=Nat.mul_le_mul_right n hk;rw [Nat.add_mul,Nat.one_mul] at h;refine ⟨?_,h⟩;rw [List.length_take,List.length_drop,hx]
 omega
theorem upd_self {α:Type} (f:Nat→α) (i:Nat):upd f i (f i)=f:=by
 funext k
 unfold upd
 split
 · rename_i h;rw [h]
 · rfl
theorem splice_all {n:Nat} {cs ds:List Value} (h:cs.length=n) (h2:ds.length=n):Go.splice ds 0 cs=cs:=by
 unfold Go.splice;rw [List.take_zero,List.nil_append,Nat.zero_add,List.drop_eq_nil_of_le (by omega),List.append_nil]
theorem push_keepL {w0 w2 w3:World} {B g g1 gm e m t tg o:Nat} {v u:Value} {xs:List Value} {cs cg:Array Value} (own:w2.ownsRow B e 1 v m xs) (two:(v.ownBlock=some g1∧w2.grownBy w3 (some g1))∨(w2.heap.size≤g1∧w2.grownBy w3 none))
 (hgB:B≤g) (hb:Below B w0 w2) (hsz:B≤w2.heap.size) (hx:w2.heap[gm]? =some (.cells cs t (0,0))) (hte:t≠e) (k1:w3.heap[g]? =some (.cells cg tg (0,0))) (htg:t≠tg):
 Below B w0 (w3.setCell ⟨g,o,none⟩ u)∧(w3.setCell ⟨g,o,none⟩ u).heap[gm]? =some (.cells cs t (0,0)):=by
 have key:Below B w0 w3∧w3.heap[gm]? =some (.cells cs t (0,0)):=by
  rcases two with ⟨e1,hg⟩ | ⟨_,hg⟩
  · obtain ⟨hB,c,hc⟩:=zCj own e1;exact ⟨hb.trans ⟨hg.os,hg.tape,hg.output,hg.size,fun k hk=> hg.block k (by have:=(Array.getElem?_eq_some_iff.1 hc).1;omega) (fun e=> by have:=Option.some.inj e;omega)⟩,zAj hg (zBi hx hc hte) hx⟩
  · exact ⟨hb.trans ⟨hg.os,hg.tape,hg.output,hg.size,fun k hk=> hg.block k (by omega) (by simp)⟩,zEg hg (by simp) hx⟩
 obtain ⟨h1,h2⟩:=key;exact ⟨h1.setCell (p:=⟨g,o,none⟩) hgB u,zAj (zAn w3 g o u) (zBi h2 k1 htg) h2⟩
theorem lstart_any (n nn:Nat) (v:Value) (xs:List Cx) (w:World) (hv:IsSl w 1 v nn (xs.map mkC)) (hn:n≤64) (fU:nn=n * n):
 Calls Tryz.prog 132 #[.agg #[.int .i64 n,.int .i64 n,v]] w (RetStart n xs w):=by
 obtain ⟨aD,cD,rfl⟩:=hv.form;have qK:xs.length=n * n:=by have:=hv.1;simp at this;omega
 have mG:=hid qK;have HV:=hid hv;have lP:=hid fU;clear hv fU qK;have HW1:=hid (zAi ((Below.refl _ (w.alloc (.cells #[.int .i64 n,.int .i64 n,.slice aD nn cD] 43))).alloc (Nat.le_refl _) (.cells #[.bool true,.slice none 0 0,.slice none 0 0,.int .i64 1] 206)) (heap_alloc_new w (.cells #[.int .i64 n,.int .i64 n,.slice aD nn cD] 43)));have HW2:=hid (heap_alloc_new (w.alloc (.cells #[.int .i64 n,.int .i64 n,.slice aD nn cD] 43)) (.cells #[.bool true,.slice none 0 0,.slice none 0 0,.int .i64 1] 206));have bC:=hid (((Below.refl w.heap.size w).alloc (Nat.le_refl _) (.cells #[.int .i64 n,.int .i64 n,.slice aD nn cD] 43)).alloc (by simp) (.cells #[.bool true,.slice none 0 0,.slice none 0 0,.int .i64 1] 206));have lN:=hid (show (w.alloc (.cells #[.int .i64 n,.int .i64 n,.slice aD nn cD] 43)).heap.size=w.heap.size+1 by simp);go_enter Tryz.func132,Tryz.ntmps132;go_upto_region 2 with fail;generalize hw0:(w.alloc (.cells #[.int .i64 n,.int .i64 n,.slice aD nn cD] 43)).alloc (.cells #[.bool true,.slice none 0 0,.slice none 0 0,.int .i64 1] 206)=w0 at *;clear hw0;have uW:=hid (show w0.heap[w.heap.size]? =some (.cells #[.int .i64 n,.int .i64 n,.slice aD nn cD] 43 (0,0)) from HW1.out);have lA:=hid (show w0.heap[w.heap.size+1]? =some (.cells #[.bool true,.slice none 0 0,.slice none 0 0,.int .i64 1] 206 (0,0)) by rw [←lN.out];exact HW2.out);have oB:=hid (show Below w.heap.size w w0 from bC.out);clear HW1 HW2 bC lN;obtain ⟨ic,qX,hc0,kN,cC⟩:=info_parts zFh;obtain ⟨ir,wL,hr0,nG,fO⟩:=info_parts infoCs;obtain ⟨ii,tG,kG,gX,pA⟩:=info_parts infoI;have b0:=(zAb uW.out).1 0 _ rfl;have b1:=(zAb uW.out).1 1 _ rfl
 have b2:=(zAb uW.out).1 2 _ rfl;obtain ⟨gm,jW⟩:∃gm,w.heap.size=gm:=⟨_,rfl⟩;obtain ⟨g,hg⟩:∃g,w.heap.size+1=g:=⟨_,rfl⟩;rw [hg] at lA;rw [jW] at uW b0 b1 b2;rw [hg,jW];have HGM:=hid jW;have xU:=hid (show gm+1=g by rw [←jW];exact hg);clear hg jW;go_wp2
 go_loopw [10] (fun i wr=> ∃ (k:Nat) (vR vO:Value) (bj:Nat→Nat),k≤n∧i=.int .i64 k∧LwAt gm wr g vR vO n k k bj (fun j=> (xs.drop (j * n)).take n) ((List.range k).map Int.ofNat) 1∧Below w.heap.size w wr∧wr.heap[gm]? =some (.cells #[.int .i64 n,.int .i64 n,.slice aD nn cD] 43 (0,0))) (fun i _=> n - (intOf i).toNat)
 case atStart=> exact ⟨0,.slice none 0 0,.slice none 0 0,fun _=> 0,Nat.zero_le _,rfl,⟨by have:=xU.out;omega,fun j hj=> absurd hj (Nat.not_lt_zero _),lA.out,World.ownsRow_nil _ _ _ _,World.ownsRow_nil _ _ _ _,fun j hj=> absurd hj (Nat.not_lt_zero _),fun j hj=> absurd hj (Nat.not_lt_zero _),fun i j hi=> absurd hi (Nat.not_lt_zero _)⟩,oB.out,uW.out⟩
 case round=>
  obtain ⟨k,vR,vO,bj,hk,rfl,hl,hb,hx⟩:=hrel;obtain ⟨aR,cR,rfl⟩:=(IsSl.of_own hl.oR).form;obtain ⟨aO,cO,rfl⟩:=(IsSl.of_own hl.oO).form;have HL:=hid hl;have HB:=hid hb;have HX:=hid hx;clear hl hb hx b0 b1 b2 uW lA
  by_cases aM:k < n
  · have gY:=hid aM;have qV:=fun w'=> mk_many n w' (by omega)
    have b0:=(zAb HX.out).1 0 _ rfl;have b1:=(zAb HX.out).1 1 _ rfl;have b2:=(zAb HX.out).1 2 _ rfl;have hwi:=in_wrap hn (Nat.le_of_lt (Nat.lt_of_lt_of_le aM hn));have wW:=hid (HV.out.below HB.out (Nat.le_refl _));go_upto_region 6 with fail;have aI:=(Below.refl wr.heap.size wr).alloc (Nat.le_refl _) (.cells (zrow n) 48);have aL:=hid aI;have oT:=hid (heap_alloc_new wr (.cells (zrow n) 48));have lA:=hid (zAi aI HX.out);have gC:=hid (wW.out.below aI (Nat.le_refl _));clear b0 b1 b2 aI qV;generalize wr.alloc (.cells (zrow n) 48)=w1 at *;obtain ⟨q,hq⟩:∃q,wr.heap.size=q:=⟨_,rfl⟩;rw [hq];rw [hq] at oT;have rW:=hid hq;have HBq:=hid (show Below q wr w1 by rw [←hq];exact aL.out);clear hq;have b0:=(zAb lA.out).1 0 _ rfl;have b1:=(zAb lA.out).1 1 _ rfl;have b2:=(zAb lA.out).1 2 _ rfl;obtain ⟨hrl,hrn⟩:=drop_len mG.out aM;obtain ⟨row,qT⟩:∃row,(xs.drop (k * n)).take n=row:=⟨_,rfl⟩;have mK:=hid qT;have HRL:=hid (show row.length=n by rw [←qT];exact hrl);obtain ⟨cs,iK⟩:∃cs,row.map mkC=cs:=⟨_,rfl⟩;have lR:=hid iK;have mR:=hid (show cs.length=n by rw [←iK,List.length_map];exact HRL.out);clear qT hrl iK;obtain ⟨ko,kM⟩:∃ko,k * n=ko:=⟨_,rfl⟩;rw [kM] at hwi hrn;have HKO:=hid kM;have hnn2:ko+n≤nn:=by rw [lP.out];exact hrn
    clear kM hrn;obtain ⟨gD,oD,rA,uR,hDat⟩:∃gD oD,aD=some ⟨gD,oD,none⟩∧nn≤cD∧∀j,j < nn→w1.cell? ⟨gD,oD+j,none⟩=(xs.map mkC)[j]?:=by
     rcases gC.out.2 with ⟨h0,h00⟩ | ⟨gD,oD,c,hv,hc,_,aA⟩
     · omega
     · cases hv;exact ⟨gD,oD,rfl,hc,fun j hj=> aA j (by omega)⟩
    subst rA;have HDA:=hid hDat;have hcut:=fun w'=> cut_from (a:=⟨gD,oD,none⟩) (nn:=nn) (c:=cD) (k:=ko) (by omega) uR (by omega) w'
    rw [show (⟨gD,oD,none⟩:Addr).add ko=⟨gD,oD+ko,none⟩ by unfold Addr.add;split <;> simp_all] at hcut;clear hDat;have HMIN:=hid (show cs.length=Nat.min (nn - ko) n by rw [mR.out];show n=min (nn - ko) n;omega);have HFIT:=hid (show 0+cs.length≤ ((List.replicate n ((0:Nat),(0:Nat))).map mkC).length by rw [mR.out];simp);have yL:=hid (show∀v∈cs,v.oneCell'=true by intro v hv;rw [←lR.out] at hv;obtain ⟨x,_,rfl⟩:=List.mem_map.1 hv;rfl);go_wp2_with (refine wpList_copy_splice rfl (.tmp 16) (.tmp 23) _ _ rfl _ Tryz.underlying41 (by rw [qX];simp [kN]) (some ⟨q,0,none⟩) (some ⟨gD,oD+ko,none⟩) n n (nn - ko) (cD - ko) rfl rfl q 0 ((List.replicate n (0,0)).map mkC) _ oT.out cs HMIN.out (fun hp=> ⟨rfl,_,rfl,?_⟩) HFIT.out yL.out q wr HBq.out (Nat.le_refl _) ?_)
    · intro j v hv;have hj:j < n:=by have:=(List.getElem?_eq_some_iff.1 hv).1;rw [mR.out] at this;exact this
      rw [show (⟨gD,oD+ko,none⟩:Addr).add j=⟨gD,oD+(ko+j),none⟩ by unfold Addr.add;split <;> simp_all [Nat.add_assoc],HDA.out (ko+j) (by omega),←hv,←lR.out,←mK.out,HKO.out,List.map_take,List.map_drop,List.getElem?_take,if_pos hj,List.getElem?_drop]
    · intro w2 iR aV;have uS:Below wr.heap.size wr w2:=by rw [rW.out];exact aV
      have iO:=hid (show w2.heap[q]? =some (.cells (row.map mkC).toArray 48 (0,0)) by rw [lR.out,iR.out,splice_all mR.out (by simp)]);have qF:=hid (HL.out.later uS);have qA:=hid (zAi uS HX.out);have aG:=hid (zAd HB.out uS);have fW:=hid (show∀j,j < k→bj j≠q from fun j hj e=> by have h:=(Array.getElem?_eq_some_iff.1 (HL.out.row j hj)).1;rw [e,←rW.out] at h;exact Nat.lt_irrefl _ h);have HGQ:=hid (show gm≤q by rw [←rW.out];have:=HL.out.lt;omega);have jK:=hid (show gm≤w2.heap.size from qF.out.lt);clear iR aV uS HL HX HB wW aL oT lA gC HBq b0 b1 b2 hcut HDA HMIN HFIT yL;have c0:=(zAb qF.out.box).1 0 _ rfl;have c1:=(zAb qF.out.box).1 1 _ rfl;have c2:=(zAb qF.out.box).1 2 _ rfl;have c3:=(zAb qF.out.box).1 3 _ rfl;go_upto_region 7 with fail;go_upto_region 8 with (refine zBq rfl rfl _ rfl _ _ _ rfl rfl gm 41 1 24 ir (.slice none 0 0) Tryz.underlying204 wL hr0 nG fO rfl (by decide) (by decide) _ k _ qF.out.oR jK.out (.slice (some ⟨q,0,none⟩) n n) rfl rfl (by intro u hu;simp [Value.cells] at hu;subst hu;rfl) rfl rfl (by simp [maxLen];omega) (by omega) ?_;intro g1 cap1 w3 aS fM bU;obtain ⟨gW,iA⟩:=qF.out.pushRow HGQ.out iO.out HRL.out fW.out aS bU;have nB:=hid iA;have pO:=hid gW;have f1:=(zAb gW).2 1;have d1:=(zAb gW).1 1 _ rfl;have HTW:=hid bU;clear c0 c1 c2 c3 gW iA aS fM bU);obtain ⟨cI,yP⟩:=push_keepL (o:=1) (u:=.slice (some ⟨g1,0,none⟩) (k+1) cap1) qF.out.oR HTW.out nB.out.gB (by have h:=aG.out;rw [HGM.out] at h;exact h) jK.out qA.out (by decide) pO.out (by decide);have bI:=hid cI;have tO:=hid yP;clear cI yP f1 d1 HTW qF aG qA iO pO jK fW;generalize w3.setCell ⟨g,1,none⟩ (.slice (some ⟨g1,0,none⟩) (k+1) cap1)=w4 at *;have HSZ4:=hid (show gm≤w4.heap.size from nB.out.lt);have c0:=(zAb nB.out.box).1 0 _ rfl;have c1:=(zAb nB.out.box).1 1 _ rfl
      have c2:=(zAb nB.out.box).1 2 _ rfl;have c3:=(zAb nB.out.box).1 3 _ rfl;go_wp2_with (refine zBq rfl rfl _ rfl _ _ _ rfl rfl gm 3 1 8 ii (.int .i64 0) Tryz.underlying151 tG kG gX pA rfl (by decide) (by decide) _ k _ nB.out.oO HSZ4.out (.int .i64 k) rfl rfl (by intro u hu;simp [Value.cells] at hu;subst hu;rfl) rfl rfl (by simp [maxLen];omega) (by omega) ?_;intro g2 cap2 w5 cV iR qQ;obtain ⟨gW,iA⟩:=nB.out.pushOrd (x:=k) cV qQ;have HL6:=hid iA;have HK5:=hid gW;have f2:=(zAb gW).2 2;have d2:=(zAb gW).1 2 _ rfl;have HTW:=hid qQ;clear c0 c1 c2 c3 gW iA cV iR qQ);obtain ⟨kO,hx6⟩:=push_keepL (o:=2) (u:=.slice (some ⟨g2,0,none⟩) (k+1) cap2) nB.out.oO HTW.out HL6.out.gB bI.out HSZ4.out tO.out (by decide) HK5.out (by decide);go_roundw
      case rel=> exact ⟨k+1,.slice (some ⟨g1,0,none⟩) (k+1) cap1,.slice (some ⟨g2,0,none⟩) (k+1) cap2,upd bj k q,by omega,by go_num,by
       have h:=HL6.out;rw [←mK.out] at h;have h2:=upd_self (fun j=> (xs.drop (j * n)).take n) k;rw [h2,show (List.range k).map Int.ofNat++ [(k:Int)]=(List.range (k+1)).map Int.ofNat by rw [List.range_succ,List.map_append];rfl] at h;exact h,by rw [HGM.out];exact kO,hx6⟩
      case measure=> simp [intOf];omega
  · obtain rfl:k=n:=by omega
    go_wp2;go_ret;exact ⟨g,.slice aR k cR,.slice aO k cO,bj,rfl,by rw [HGM.out];exact HL.out,HB.out⟩
end
end Go.Proofs.YtdepiggjneoopaaGreatDoor
