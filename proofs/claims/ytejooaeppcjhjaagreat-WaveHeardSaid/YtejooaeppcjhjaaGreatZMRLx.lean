/- a part of the proof of the last text -/
import Derived.Test.YtejooaeppcjhjaaGreatZLw3
namespace Go.Proofs.YtejooaeppcjhjaaGreat
set_option linter.all false
set_option maxHeartbeats 4000000
set_option maxRecDepth 100000
section
open Go.RowKit
theorem rshaped_any (n nn:Nat) (a:Option Addr) (c:Nat) (w:World) (hn:n≤64) (hnn:nn=n * n):
 Calls Tryz.prog 97 #[.agg #[.int .i64 n,.int .i64 n,.slice a nn c]] w fun e w'=> e=.returned (.bool true)∧Below w.heap.size w w':=by
 have hb1:=(Below.refl w.heap.size w).alloc (Nat.le_refl _) (.cells #[.int .i64 n,.int .i64 n,.slice a nn c] 99);have HB:=hid hb1;have hx:=zAa (heap_alloc_new w (.cells #[.int .i64 n,.int .i64 n,.slice a nn c] 99));have b0:=hx.1 0 _ rfl;have b1:=hx.1 1 _ rfl;have b2:=hx.1 2 _ rfl;have hwr:=nn_wrap hn hnn;clear hb1 hx hnn;go_enter Tryz.func97,Tryz.ntmps97;go_upto_region 1 with fail;generalize w.alloc (.cells #[.int .i64 n,.int .i64 n,.slice a nn c] 99)=w1 at *;go_wp2;go_ret;exact ⟨rfl,HB.out⟩
structure RLw (B:Nat) (w:World) (g:Nat) (vR vO:Value) (n m mo:Nat) (V:Nat→Value) (M:Nat→List Cx) (ord:List Int) (odd ties:Bool):Prop where
 gB:B≤g
 box:w.heap[g]? =some (.cells #[.int .i64 n,vR,vO,.bool odd,.bool ties,.bool true] 155 (0,0))
 oR:w.ownsRow B 70 1 vR m ((List.range m).map V)
 oO:w.ownsRow B 3 1 vO mo (ord.map (.int .i64))
 row:∀j,j < m→w.ownsRow B 49 1 (V j) n ((M j).map mkC)
 len:∀j,j < m→(M j).length=n
 inj:∀i j k,i < m→j < m→(V i).ownBlock=some k→(V j).ownBlock=some k→i=j
theorem RLw.lt {B g n m mo:Nat} {w:World} {vR vO:Value} {V:Nat→Value} {M:Nat→List Cx} {ord:List Int} {odd ties:Bool} (h:RLw B w g vR vO n m mo V M ord odd ties):B≤w.heap.size:=by
 have:=h.gB;have:=(Array.getElem?_eq_some_iff.1 h.box).1
 omega
theorem RLw.kept0 {B g n m mo:Nat} {w w':World} {vR vO:Value} {V:Nat→Value} {M:Nat→List Cx} {ord:List Int} {odd ties:Bool} (h:RLw B w g vR vO n m mo V M ord odd ties) (hg:w.grownBy w' none):RLw B w' g vR vO n m mo V M ord odd ties:=
 ⟨h.gB,(hg.block g (Array.getElem?_eq_some_iff.1 h.box).1 (by simp)).trans h.box,zBa h.oR hg,zBa h.oO hg,fun j hj=> zBa (h.row j hj) hg,h.len,h.inj⟩
theorem RLw.later {B g n m mo:Nat} {w w':World} {vR vO:Value} {V:Nat→Value} {M:Nat→List Cx} {ord:List Int} {odd ties:Bool} (h:RLw B w g vR vO n m mo V M ord odd ties) (hb:Below w.heap.size w w'):RLw B w' g vR vO n m mo V M ord odd ties:=h.kept0 (zAe hb _)
theorem RLw.word {B g n m mo o:Nat} {w:World} {vR vO:Value} {V:Nat→Value} {M:Nat→List Cx} {ord:List Int} {odd ties b:Bool} (h:RLw B w g vR vO n m mo V M ord odd ties) (ho:o=3∨o=4):
 RLw B (w.setCell ⟨g,o,none⟩ (.bool b)) g vR vO n m mo V M ord (if o=3 then b else odd) (if o=4 then b else ties):=by
 have hs:=zAj w g o (.bool b);have hbx:=zBi (o:=o) h.box (.bool b);refine ⟨h.gB,?_,?_,?_,fun j hj=> ?_,h.len,h.inj⟩
 · rcases ho with rfl | rfl
   · exact hbx
   · exact hbx
 · exact zAz h.oR hs (fun k e1 e2=> by obtain rfl:=Option.some.inj e2;obtain ⟨_,c2,hc2⟩:=zAx h.oR e1;exact zAv h.box hc2 (by decide) rfl)
 · exact zAz h.oO hs (fun k e1 e2=> by obtain rfl:=Option.some.inj e2;obtain ⟨_,c2,hc2⟩:=zAx h.oO e1;exact zAv h.box hc2 (by decide) rfl)
 · exact zAz (h.row j hj) hs (fun k e1 e2=> by obtain rfl:=Option.some.inj e2;obtain ⟨_,c2,hc2⟩:=zAx (h.row j hj) e1;exact zAv h.box hc2 (by decide) rfl)
end
section
open Go.RowKit
theorem own_put {w:World} {B e n g j:Nat} {v u:Value} {xs:List Value} (h:w.ownsRow B e 1 v n xs) (hv:v.ownBlock=some g) (hj:j < n):(w.setCell ⟨g,j,none⟩ u).ownsRow B e 1 v n (xs.set j u):=by
 obtain ⟨hl,h | ⟨g',cap,cur,rfl,hb,hg,hn,hm,hs,ht⟩⟩:=h
 · obtain ⟨rfl,_⟩:=h;cases hv
 · obtain rfl:g'=g:=Option.some.inj hv;refine ⟨by rw [List.length_set];exact hl,.inr ⟨g',cap,cur.setIfInBounds j u,rfl,hb,zBi hg u,hn,hm,by simpa using hs,?_⟩⟩;rw [←ht,Array.toList_setIfInBounds,List.take_set]
theorem RLw.putNum {B g n m mo i j q:Nat} {w:World} {vR vO:Value} {V:Nat→Value} {M:Nat→List Cx} {ord:List Int} {odd ties:Bool} (h:RLw B w g vR vO n m mo V M ord odd ties) (hi:i < m) (hj:j < n) (hq:(V i).ownBlock=some q) (z:Cx):
 RLw B (w.setCell ⟨q,j,none⟩ (mkC z)) g vR vO n m mo V (upd M i ((M i).set j z)) ord odd ties:=by
 have hs:=zAj w q j (mkC z);obtain ⟨_,c,hc⟩:=zAx (h.row i hi) hq;refine ⟨h.gB,zAk hs (zAv h.box hc (by decide)) h.box,zAz h.oR hs (fun k e1 e2=> by obtain rfl:=Option.some.inj e2;obtain ⟨_,c2,hc2⟩:=zAx h.oR e1;exact zAv hc hc2 (by decide) rfl),zAz h.oO hs (fun k e1 e2=> by obtain rfl:=Option.some.inj e2;obtain ⟨_,c2,hc2⟩:=zAx h.oO e1;exact zAv hc hc2 (by decide) rfl),fun k hk=> ?_,fun k hk=> ?_,h.inj⟩
 · by_cases e:k=i
   · subst e;rw [zAr,List.map_set];exact own_put (h.row k hk) hq hj
   · rw [zAu _ _ e];exact zAz (h.row k hk) hs (fun b e1 e2=> by obtain rfl:=Option.some.inj e2;exact e (h.inj k i _ hk hi e1 hq))
 · by_cases e:k=i
   · subst e;rw [zAr,List.length_set];exact h.len k hk
   · rw [zAu _ _ e];exact h.len k hk
theorem RLw.num {B g n m mo i j:Nat} {w:World} {vR vO:Value} {V:Nat→Value} {M:Nat→List Cx} {ord:List Int} {odd ties:Bool} (h:RLw B w g vR vO n m mo V M ord odd ties) (hi:i < m) (hj:j < n):
 ∃q c,V i=.slice (some ⟨q,0,none⟩) n c∧w.cell? ⟨q,j,none⟩=some (mkC ((M i).getD j (0,0))):=by
 obtain ⟨hl,hr⟩:=h.row i hi;have hlen:=h.len i hi;rcases hr with ⟨_,h0⟩ | ⟨q,cap,cur,hv,hb,hg,hn,hm,hs,ht⟩
 · omega
 · refine ⟨q,cap,hv,?_⟩;rw [cell_of_row _ _ _ _ _ _ hg];have h2:(cur.toList.take (n * 1))[j]? =((M i).map mkC)[j]?:=by rw [ht]
   rw [List.getElem?_take,if_pos (by omega),List.getElem?_map,Array.getElem?_toList] at h2;rw [h2,List.getD_eq_getElem?_getD,List.getElem?_eq_getElem (by omega)];rfl
structure RLs (n:Nat) (s:Es) (M:Nat→List Cx) (ord:List Int) (odd:Bool):Prop where
 num:∀i j,i < n→j < n→ck ((M i).getD j (0,0))=s.R i j
 ln:ord.length=n
 ord:∀i,i < n→ord[i]? =some (s.ord i:Int)
 odd:odd=s.neg
end
section
open Go.RowKit
theorem RLw.norm {B g n m mo:Nat} {w:World} {vR vO:Value} {V:Nat→Value} {M:Nat→List Cx} {ord:List Int} {odd ties:Bool} (h:RLw B w g vR vO n m mo V M ord odd ties) (hn:0 < n):
 ∃bq bc:Nat→Nat,RLw B w g vR vO n m mo (fun i=> .slice (some ⟨bq i,0,none⟩) n (bc i)) M ord odd ties:=by
 have key:∀i,∃q c,i < m→V i=.slice (some ⟨q,0,none⟩) n c:=fun i=> by
  by_cases hi:i < m
  · obtain ⟨q,c,hv,_⟩:=h.num hi hn;exact ⟨q,c,fun _=> hv⟩
  · exact ⟨0,0,fun h=> absurd h hi⟩
 have hq:∀i,i < m→V i=.slice (some ⟨(key i).choose,0,none⟩) n (key i).choose_spec.choose:=fun i hi=> (key i).choose_spec.choose_spec hi
 refine ⟨fun i=> (key i).choose,fun i=> (key i).choose_spec.choose,h.gB,h.box,?_,h.oO,fun j hj=> ?_,h.len,fun i j k hi hj h1 h2=> ?_⟩
 · have:=h.oR;rw [List.map_congr_left (fun i hi=> hq i (List.mem_range.1 hi))] at this;exact this
 · have:=h.row j hj;rw [hq j hj] at this;exact this
 · exact h.inj i j k hi hj (by rw [hq i hi];exact h1) (by rw [hq j hj];exact h2)
theorem RLw.rc {B g gR n m mo j cR:Nat} {w:World} {aR:Option Addr} {vO:Value} {V:Nat→Value} {M:Nat→List Cx} {ord:List Int} {odd ties:Bool} (h:RLw B w g (.slice aR m cR) vO n m mo V M ord odd ties) (hj:j < m) (hg:(Value.slice aR m cR).ownBlock=some gR):
 w.cell? ⟨gR,j,none⟩=some (V j)∧w.frozen? ⟨gR,j,none⟩=false∧(∀w',(Instr.indexAt 152 (.slice aR m cR) (.int .i64 j)).run Tryz.prog w'=.ok (.pointer (some ⟨gR,j,none⟩)) w'):=by
 obtain ⟨ir,hir,hr0,hr1,hr2⟩:=info_parts infoCs;obtain ⟨g1,x,hidx,_,_,hc,hx,hf,hob,_⟩:=zCp Tryz.underlying152 hir hr1 h.oR hj;obtain rfl:=Option.some.inj (hob.symm.trans hg);rw [List.getElem?_map,List.getElem?_range hj] at hx;obtain rfl:=Option.some.inj hx;exact ⟨hc,hf,hidx⟩
theorem RLw.oc {B g gO n m mo j cO:Nat} {x:Int} {w:World} {aO:Option Addr} {vR:Value} {V:Nat→Value} {M:Nat→List Cx} {ord:List Int} {odd ties:Bool} (h:RLw B w g vR (.slice aO mo cO) n m mo V M ord odd ties) (hj:j < mo) (hx:ord[j]? =some x) (hg:(Value.slice aO mo cO).ownBlock=some gO):
 w.cell? ⟨gO,j,none⟩=some (.int .i64 x)∧w.frozen? ⟨gO,j,none⟩=false∧(∀w',(Instr.indexAt 153 (.slice aO mo cO) (.int .i64 j)).run Tryz.prog w'=.ok (.pointer (some ⟨gO,j,none⟩)) w'):=by
 obtain ⟨ii,hii,hi0,hi1,hi2⟩:=info_parts zHf;obtain ⟨g1,y,hidx,_,_,hc,hy,hf,hob,_⟩:=zCp Tryz.underlying153 hii hi1 h.oO hj;obtain rfl:=Option.some.inj (hob.symm.trans hg);rw [List.getElem?_map,hx] at hy;obtain rfl:=Option.some.inj hy;exact ⟨hc,hf,hidx⟩
theorem RLw.nc {B g n m mo i j:Nat} {w:World} {vR vO:Value} {bq bc:Nat→Nat} {M:Nat→List Cx} {ord:List Int} {odd ties:Bool} (h:RLw B w g vR vO n m mo (fun i=> .slice (some ⟨bq i,0,none⟩) n (bc i)) M ord odd ties) (hi:i < m) (hj:j < n):
 w.cell? ⟨bq i,j,none⟩=some (mkC ((M i).getD j (0,0)))∧w.frozen? ⟨bq i,j,none⟩=false:=by
 obtain ⟨i0,hi0,hz0,hz1,hz2⟩:=info_parts zEm;obtain ⟨g1,x,hidx,_,_,hc,hx,hf,hob,_⟩:=zCp Tryz.underlying70 hi0 hz1 (h.row i hi) hj;obtain rfl:bq i=g1:=Option.some.inj hob;rw [List.getElem?_map,List.getElem?_eq_getElem (by rw [h.len i hi];exact hj)] at hx;obtain rfl:=Option.some.inj hx;refine ⟨?_,hf⟩;rw [hc,List.getD_eq_getElem?_getD,List.getElem?_eq_getElem (by rw [h.len i hi];exact hj)];rfl
theorem RLw.bB {B g n m mo i:Nat} {w:World} {vR vO:Value} {bq bc:Nat→Nat} {M:Nat→List Cx} {ord:List Int} {odd ties:Bool} (h:RLw B w g vR vO n m mo (fun i=> .slice (some ⟨bq i,0,none⟩) n (bc i)) M ord odd ties) (hi:i < m):B≤bq i:=
 ((h.row i hi).lt (bq i) rfl).1
theorem RLw.put {B g n m mo i j:Nat} {w:World} {vR vO:Value} {bq bc:Nat→Nat} {M:Nat→List Cx} {ord:List Int} {odd ties:Bool} (h:RLw B w g vR vO n m mo (fun i=> .slice (some ⟨bq i,0,none⟩) n (bc i)) M ord odd ties) (hi:i < m) (hj:j < n) (z:Cx):
 RLw B (w.setCell ⟨bq i,j,none⟩ (mkC z)) g vR vO n m mo (fun i=> .slice (some ⟨bq i,0,none⟩) n (bc i)) (upd M i ((M i).set j z)) ord odd ties:=h.putNum hi hj rfl z
theorem RLw.pushRow {B g n m mo g1:Nat} {w2 w3:World} {vR vO vR' vq:Value} {V:Nat→Value} {M:Nat→List Cx} {ord:List Int} {odd ties:Bool} {r:List Cx} (h:RLw B w2 g vR vO n m mo V M ord odd ties)
 (hq:w2.ownsRow B 49 1 vq n (r.map mkC)) (hr:r.length=n) (hqn:∀j k,j < m→(V j).ownBlock=some k→vq.ownBlock≠some k) (own:w3.ownsRow B 70 1 vR' (m+1) ((List.range m).map V++ [vq]))
 (two:(vR.ownBlock=some g1∧w2.grownBy w3 (some g1))∨(w2.heap.size≤g1∧w2.grownBy w3 none)):
 w3.heap[g]? =some (.cells #[.int .i64 n,vR,vO,.bool odd,.bool ties,.bool true] 155 (0,0))∧RLw B (w3.setCell ⟨g,1,none⟩ vR') g vR' vO n (m+1) mo (upd V m vq) (upd M m r) ord odd ties:=by
 have key:w3.heap[g]? =some (.cells #[.int .i64 n,vR,vO,.bool odd,.bool ties,.bool true] 155 (0,0))∧w3.ownsRow B 3 1 vO mo (ord.map (.int .i64))∧(∀j,j < m→w3.ownsRow B 49 1 (V j) n ((M j).map mkC))∧w3.ownsRow B 49 1 vq n (r.map mkC):=by
  rcases two with ⟨e,hg⟩ | ⟨_,hg⟩
  · obtain ⟨_,c,hc⟩:=zAx h.oR e;exact ⟨zAk hg (zAv h.box hc (by decide)) h.box,zAz h.oO hg (fun k e1 e2=> by obtain rfl:=Option.some.inj e2;obtain ⟨_,c2,hc2⟩:=zAx h.oO e1;exact zAv hc hc2 (by decide) rfl),fun j hj=> zAz (h.row j hj) hg (fun k e1 e2=> by obtain rfl:=Option.some.inj e2;obtain ⟨_,c2,hc2⟩:=zAx (h.row j hj) e1;exact zAv hc hc2 (by decide) rfl),zAz hq hg (fun k e1 e2=> by obtain rfl:=Option.some.inj e2;obtain ⟨_,c2,hc2⟩:=zAx hq e1;exact zAv hc hc2 (by decide) rfl)⟩
  · exact ⟨zDo hg (by simp) h.box,zBa h.oO hg,fun j hj=> zBa (h.row j hj) hg,zBa hq hg⟩
 obtain ⟨k1,k2,k3,k4⟩:=key;have hs:=zAj w3 g 1 vR';have hbx:=zBi (o:=1) k1 vR';refine ⟨k1,h.gB,hbx,?_,zAz k2 hs (fun k e1 e2=> by obtain rfl:=Option.some.inj e2;obtain ⟨_,c2,hc2⟩:=zAx k2 e1;exact zAv k1 hc2 (by decide) rfl),fun j hj=> ?_,fun j hj=> ?_,fun i j k hi hj h1 h2=> ?_⟩
 · have:(List.range (m+1)).map (upd V m vq)=(List.range m).map V++ [vq]:=by
    rw [List.range_succ,List.map_append]
    congr 1
    · refine List.map_congr_left fun j hj=> ?_
      rw [zAu _ _ (by have:=List.mem_range.1 hj;omega)]
    · simp [zAr]
   rw [this];exact zAz own hs (fun k e1 e2=> by obtain rfl:=Option.some.inj e2;obtain ⟨_,c2,hc2⟩:=zAx own e1;exact zAv k1 hc2 (by decide) rfl)
 · by_cases e:j=m
   · subst e;rw [zAr,zAr];exact zAz k4 hs (fun k e1 e2=> by obtain rfl:=Option.some.inj e2;obtain ⟨_,c2,hc2⟩:=zAx k4 e1;exact zAv k1 hc2 (by decide) rfl)
   · rw [zAu _ _ e,zAu _ _ e];exact zAz (k3 j (by omega)) hs (fun k e1 e2=> by obtain rfl:=Option.some.inj e2;obtain ⟨_,c2,hc2⟩:=zAx (k3 j (by omega)) e1;exact zAv k1 hc2 (by decide) rfl)
 · by_cases e:j=m
   · subst e;rw [zAr];exact hr
   · rw [zAu _ _ e];exact h.len j (by omega)
 · by_cases ei:i=m
   · subst ei
     by_cases ej:j=i
     · exact ej.symm
     · rw [zAr] at h1;rw [zAu _ _ ej] at h2;exact absurd h1 (hqn j k (by omega) h2)
   · by_cases ej:j=m
     · subst ej;rw [zAr] at h2;rw [zAu _ _ ei] at h1;exact absurd h2 (hqn i k (by omega) h1)
     · rw [zAu _ _ ei] at h1;rw [zAu _ _ ej] at h2;exact h.inj i j k (by omega) (by omega) h1 h2
theorem RLw.pushOrd {B g n m mo g1:Nat} {w2 w3:World} {vR vO vO':Value} {V:Nat→Value} {M:Nat→List Cx} {ord:List Int} {odd ties:Bool} {x:Int} (h:RLw B w2 g vR vO n m mo V M ord odd ties)
 (own:w3.ownsRow B 3 1 vO' (mo+1) (ord.map (Value.int .i64)++ [.int .i64 x]))
 (two:(vO.ownBlock=some g1∧w2.grownBy w3 (some g1))∨(w2.heap.size≤g1∧w2.grownBy w3 none)):
 w3.heap[g]? =some (.cells #[.int .i64 n,vR,vO,.bool odd,.bool ties,.bool true] 155 (0,0))∧RLw B (w3.setCell ⟨g,2,none⟩ vO') g vR vO' n m (mo+1) V M (ord++ [x]) odd ties:=by
 have key:w3.heap[g]? =some (.cells #[.int .i64 n,vR,vO,.bool odd,.bool ties,.bool true] 155 (0,0))∧w3.ownsRow B 70 1 vR m ((List.range m).map V)∧(∀j,j < m→w3.ownsRow B 49 1 (V j) n ((M j).map mkC)):=by
  rcases two with ⟨e,hg⟩ | ⟨_,hg⟩
  · obtain ⟨_,c,hc⟩:=zAx h.oO e;exact ⟨zAk hg (zAv h.box hc (by decide)) h.box,zAz h.oR hg (fun k e1 e2=> by obtain rfl:=Option.some.inj e2;obtain ⟨_,c2,hc2⟩:=zAx h.oR e1;exact zAv hc hc2 (by decide) rfl),fun j hj=> zAz (h.row j hj) hg (fun k e1 e2=> by obtain rfl:=Option.some.inj e2;obtain ⟨_,c2,hc2⟩:=zAx (h.row j hj) e1;exact zAv hc hc2 (by decide) rfl)⟩
  · exact ⟨zDo hg (by simp) h.box,zBa h.oR hg,fun j hj=> zBa (h.row j hj) hg⟩
 obtain ⟨k1,k2,k3⟩:=key;have hs:=zAj w3 g 2 vO';have hbx:=zBi (o:=2) k1 vO';refine ⟨k1,h.gB,hbx,zAz k2 hs (fun k e1 e2=> by obtain rfl:=Option.some.inj e2;obtain ⟨_,c2,hc2⟩:=zAx k2 e1;exact zAv k1 hc2 (by decide) rfl),?_,fun j hj=> zAz (k3 j hj) hs (fun k e1 e2=> by obtain rfl:=Option.some.inj e2;obtain ⟨_,c2,hc2⟩:=zAx (k3 j hj) e1;exact zAv k1 hc2 (by decide) rfl),h.len,h.inj⟩;rw [List.map_append];exact zAz own hs (fun k e1 e2=> by obtain rfl:=Option.some.inj e2;obtain ⟨_,c2,hc2⟩:=zAx own e1;exact zAv k1 hc2 (by decide) rfl)
theorem fineUp_at {R:Mx} {k n a j:Nat} (h:zDt R k n n=true) (ha:k < a) (han:a < n) (hj:k < j) (hjn:j < n):cfin (rowE R k a j)=true:=by
 unfold zDt at h;have h1:=List.all_eq_true.1 h a (List.mem_range.2 han);rw [decide_eq_true ha] at h1;have h2:zEd R k a n=true:=by simpa using h1
 unfold zEd at h2;rw [Bool.and_eq_true] at h2;have h3:=List.all_eq_true.1 h2.2 j (List.mem_range.2 hjn);rw [decide_eq_true hj] at h3
 simpa using h3
def FinE (n:Nat) (s:Es) (k:Nat):Prop:=∀i j,k≤i→i < n→k≤j→j < n→cfin (s.R i j)=true
theorem fin_step {n k:Nat} {s:Es} (he:(zDu n s k).2=0):FinE n (zDu n s k).1 (k+1):=by
 unfold zDu at he⊢
 by_cases hc:(zBx (colL n s.R k) k).2≠0
 · rw [if_pos hc] at he;exact absurd he hc
 · rw [if_neg hc] at he⊢;dsimp only at he⊢
   by_cases hf:zDt (swS s (zBx (colL n s.R k) k).1.toNat k).R k n n=true
   · intro i j h1 h2 h3 h4;show cfin (elimR _ k n i j)=true;unfold elimR;rw [if_pos (by omega)];exact fineUp_at hf (by omega) h2 (by omega) h4
   · rw [if_neg hf] at he;cases he
theorem fin_all {n:Nat} {m:Nat→Cx} (hm:∀p,p < n * n→cfin (m p)=true):∀k,(∀i,i < k→(zDu n (esK n m i) i).2=0)→FinE n (esK n m k) k
 | 0,_=> fun i j _ hi _ hj=> by
  show cfin (m (i * n+j))=true;refine hm _ ?_;have:(i+1) * n≤n * n:=Nat.mul_le_mul_right n hi;rw [Nat.add_mul] at this
  omega
 | k+1,h=> by
  show FinE n (zDu n (esK n m k) k).1 (k+1);exact fin_step (h k (Nat.lt_succ_self k))
theorem FinE.col {n k:Nat} {s:Es} (h:FinE n s k) (hk:k < n):∀j,k≤j→j < (colL n s.R k).length→cfin ((colL n s.R k).getD j (0,0))=true:=fun j h1 h2=> by
 rw [colL_len] at h2;rw [colL_get h2];exact h j k h1 h2 (Nat.le_refl _) hk
theorem swp_comm {p k i:Nat}:swp k p i=swp p k i:=by
 unfold swp
 by_cases h1:i=p
 · by_cases h2:i=k
   · rw [if_pos h1,if_pos h2];omega
   · rw [if_pos h1,if_neg h2,if_pos h1]
 · by_cases h2:i=k
   · rw [if_neg h1,if_pos h2,if_pos h2]
   · rw [if_neg h1,if_neg h2,if_neg h2,if_neg h1]
theorem RLw.swapR {B g gR n m mo k p cR:Nat} {w:World} {aR:Option Addr} {vO:Value} {V:Nat→Value} {M:Nat→List Cx} {ord:List Int} {odd ties:Bool} (h:RLw B w g (.slice aR m cR) vO n m mo V M ord odd ties)
 (hk:k < m) (hp:p < m) (hne:p≠k) (hgR:(Value.slice aR m cR).ownBlock=some gR):
 (∃x,(w.setCell ⟨gR,p,none⟩ (V k)).cell? ⟨gR,k,none⟩=some x)∧(w.setCell ⟨gR,p,none⟩ (V k)).frozen? ⟨gR,k,none⟩=false∧
 Below B w ((w.setCell ⟨gR,p,none⟩ (V k)).setCell ⟨gR,k,none⟩ (V p))∧
 RLw B ((w.setCell ⟨gR,p,none⟩ (V k)).setCell ⟨gR,k,none⟩ (V p)) g (.slice aR m cR) vO n m mo (fun i=> V (swp p k i)) (fun i=> M (swp p k i)) ord odd ties:=by
 obtain ⟨ir,hir,hr0,hr1,hr2⟩:=info_parts infoCs;obtain ⟨hgRB,cRs,hcR⟩:=zAx h.oR hgR;have nRg:gR≠g:=zAv hcR h.box (by decide);have nRb:∀j,j < m→∀r,(V j).ownBlock=some r→r≠gR:=fun j hj r hr=> by obtain ⟨_,c2,hc2⟩:=zAx (h.row j hj) hr;exact zAv hc2 hcR (by decide)
 have nRO:∀r,vO.ownBlock=some r→r≠gR:=fun r hr=> by obtain ⟨_,c2,hc2⟩:=zAx h.oO hr;exact zAv hc2 hcR (by decide)
 obtain ⟨g1,_,_,_,_,_,_,_,hob,hst⟩:=zCp Tryz.underlying152 hir hr1 h.oR hp;obtain rfl:=Option.some.inj (hob.symm.trans hgR);obtain ⟨R1,G1⟩:=hst w h.oR (V k);generalize w.setCell ⟨g1,p,none⟩ (V k)=w1 at *;clear hst;obtain ⟨g2,x2,_,_,_,hc2,_,hf2,hob2,hst⟩:=zCp Tryz.underlying152 hir hr1 R1 hk;obtain rfl:=Option.some.inj (hob2.symm.trans hgR);refine ⟨⟨x2,hc2⟩,hf2,?_⟩;obtain ⟨R2,G2⟩:=hst w1 R1 (V p);generalize w1.setCell ⟨g2,k,none⟩ (V p)=w2 at *;clear hst;have G02:w.grownBy w2 (some g2):=zAf G1 G2;have hB:=h.lt;refine ⟨⟨G02.os,G02.tape,G02.output,G02.size,fun j hj=> G02.block j (by omega) (fun e=> by have:=Option.some.inj e;omega)⟩,h.gB,zAk G02 (Ne.symm nRg) h.box,?_,zAz h.oO G02 (fun r e e2=> by obtain rfl:=Option.some.inj e2;exact nRO _ e rfl),fun j hj=> ?_,fun j hj=> h.len _ (swp_lt hp hk hj),fun i j r hi hj h1 h2=> swp_inj (h.inj _ _ r (swp_lt hp hk hi) (swp_lt hp hk hj) h1 h2)⟩
 · rw [set_swp V hp hk (Ne.symm hne)] at R2;rw [List.map_congr_left (g:=fun i=> V (swp k p i)) (fun i _=> by rw [swp_comm])];exact R2
 · have hj2:=swp_lt hp hk hj;exact zAz (h.row _ hj2) G02 (fun r e e2=> by obtain rfl:=Option.some.inj e2;exact nRb _ hj2 _ e rfl)
theorem RLw.swapO {B g gO n m mo k p cO:Nat} {ok op:Int} {w:World} {aO:Option Addr} {vR:Value} {V:Nat→Value} {M:Nat→List Cx} {ord:List Int} {odd ties:Bool} (h:RLw B w g vR (.slice aO mo cO) n m mo V M ord odd ties)
 (hk:k < mo) (hp:p < mo) (hgO:(Value.slice aO mo cO).ownBlock=some gO):
 (∃x,(w.setCell ⟨gO,p,none⟩ (.int .i64 ok)).cell? ⟨gO,k,none⟩=some x)∧(w.setCell ⟨gO,p,none⟩ (.int .i64 ok)).frozen? ⟨gO,k,none⟩=false∧
 Below B w ((w.setCell ⟨gO,p,none⟩ (.int .i64 ok)).setCell ⟨gO,k,none⟩ (.int .i64 op))∧
 RLw B ((w.setCell ⟨gO,p,none⟩ (.int .i64 ok)).setCell ⟨gO,k,none⟩ (.int .i64 op)) g vR (.slice aO mo cO) n m mo V M ((ord.set p ok).set k op) odd ties:=by
 obtain ⟨ii,hii,hi0,hi1,hi2⟩:=info_parts zHf;obtain ⟨hgOB,cOs,hcO⟩:=zAx h.oO hgO;have nOg:gO≠g:=zAv hcO h.box (by decide);have nOb:∀j,j < m→∀r,(V j).ownBlock=some r→r≠gO:=fun j hj r hr=> by obtain ⟨_,c2,hc2⟩:=zAx (h.row j hj) hr;exact zAv hc2 hcO (by decide)
 have nOR:∀r,vR.ownBlock=some r→r≠gO:=fun r hr=> by obtain ⟨_,c2,hc2⟩:=zAx h.oR hr;exact zAv hc2 hcO (by decide)
 obtain ⟨g1,_,_,_,_,_,_,_,hob,hst⟩:=zCp Tryz.underlying153 hii hi1 h.oO hp;obtain rfl:=Option.some.inj (hob.symm.trans hgO);obtain ⟨R1,G1⟩:=hst w h.oO (.int .i64 ok);generalize w.setCell ⟨g1,p,none⟩ (.int .i64 ok)=w1 at *;clear hst;obtain ⟨g2,x2,_,_,_,hc2,_,hf2,hob2,hst⟩:=zCp Tryz.underlying153 hii hi1 R1 hk;obtain rfl:=Option.some.inj (hob2.symm.trans hgO);refine ⟨⟨x2,hc2⟩,hf2,?_⟩;obtain ⟨R2,G2⟩:=hst w1 R1 (.int .i64 op);generalize w1.setCell ⟨g2,k,none⟩ (.int .i64 op)=w2 at *;clear hst;have G02:w.grownBy w2 (some g2):=zAf G1 G2;have hB:=h.lt;refine ⟨⟨G02.os,G02.tape,G02.output,G02.size,fun j hj=> G02.block j (by omega) (fun e=> by have:=Option.some.inj e;omega)⟩,h.gB,zAk G02 (Ne.symm nOg) h.box,zAz h.oR G02 (fun r e e2=> by obtain rfl:=Option.some.inj e2;exact nOR _ e rfl),?_,fun j hj=> zAz (h.row _ hj) G02 (fun r e e2=> by obtain rfl:=Option.some.inj e2;exact nOb _ hj _ e rfl),h.len,h.inj⟩;rw [List.map_set,List.map_set];exact R2
theorem RLs.same {n k:Nat} {s:Es} {M:Nat→List Cx} {ord:List Int} {odd:Bool} (h:RLs n s M ord odd):RLs n (swS s k k) M ord odd:=by
 refine ⟨fun i j hi hj=> ?_,h.ln,fun i hi=> ?_,?_⟩
 · show _=s.R (swp k k i) j;rw [swp_same];exact h.num i j hi hj
 · show _=some ((s.ord (swp k k i):Nat):Int);rw [swp_same];exact h.ord i hi
 · show odd=if k=k then s.neg else !s.neg;rw [if_pos rfl];exact h.odd
theorem RLs.swap {n k p:Nat} {s:Es} {M:Nat→List Cx} {ord:List Int} {odd:Bool} (h:RLs n s M ord odd) (hk:k < n) (hp:p < n) (hne:p≠k):RLs n (swS s p k) (fun i=> M (swp p k i)) ((ord.set p (s.ord k:Int)).set k (s.ord p:Int)) (!odd):=by
 refine ⟨fun i j hi hj=> h.num _ _ (swp_lt hp hk hi) hj,by simp [h.ln],fun i hi=> ?_,?_⟩
 · show _=some ((s.ord (swp p k i):Nat):Int);rw [List.getElem?_set,List.getElem?_set];unfold swp
   by_cases e1:k=i
   · rw [if_pos e1,if_pos (by rw [List.length_set,h.ln];exact hk),if_pos e1.symm]
   · rw [if_neg e1]
     by_cases e2:p=i
     · rw [if_pos e2,if_pos (by rw [h.ln];exact hp),if_neg (show¬i=k by omega),if_pos e2.symm]
     · rw [if_neg e2,if_neg (show¬i=k by omega),if_neg (show¬i=p by omega)];exact h.ord i hi
 · show (!odd)=if p=k then s.neg else !s.neg;rw [if_neg hne,h.odd]
def oneStp (no:Nat) (a:Addr) (v:Value) (k:Nat) (w:World):World:=if k=no then w.setCell a v else w
theorem zAn {no j:Nat} {a:Addr} {v:Value} {w:World} (h:j≠no):oneStp no a v j w=w:=if_neg h
theorem oneStp_size (no g o:Nat) (v:Value) (j:Nat) (w:World):w.heap.size≤ (oneStp no ⟨g,o,none⟩ v j w).heap.size:=by
 unfold oneStp
 split
 · exact (zAj w _ _ _).size
 · exact Nat.le_refl _
def zFm (no:Nat) (st:Nat→World→World) (d:Nat→Bool) (w:World):World:=if d no=true then st no w else w
theorem oneCh_step {no:Nat} {st:Nat→World→World} (hst:∀j w,j≠no→st j w=w) {d:Nat→Bool} {j:Nat} {w0 w w':World} (hd:d j=false) (hw':w'=st j w) (hw:w=zFm no st d w0):w'=zFm no st (upd d j true) w0:=by
 subst hw hw'
 by_cases e:j=no
 · subst e;unfold zFm;rw [if_neg (by rw [hd];decide),zAr,if_pos rfl]
 · rw [hst j _ e];unfold zFm;rw [zAu _ _ (Ne.symm e)]
def bI:Option Nat→Int
 | none=> -1
 | some b=> b
theorem rb_zero {c:List Cx} {k m:Nat} (h:zFy (c.getD (k+m) (0,0))=true):rbS c k (m+1)=rbS c k m:=by
 rw [rbS,if_pos h]
theorem rb_first {c:List Cx} {k m:Nat} (h:zFy (c.getD (k+m) (0,0))=false) (hn:rbS c k m=none):rbS c k (m+1)=some (k+m):=by
 rw [rbS,if_neg (by rw [h];decide),hn]
theorem rb_more {c:List Cx} {k m b:Nat} (h:zFy (c.getD (k+m) (0,0))=false) (hn:rbS c k m=some b) (hg:cgt (c.getD (k+m) (0,0)) (c.getD b (0,0))=true):rbS c k (m+1)=some (k+m):=by
 rw [rbS,if_neg (by rw [h];decide),hn];simp only [hg,if_true]
theorem rb_less {c:List Cx} {k m b:Nat} (h:zFy (c.getD (k+m) (0,0))=false) (hn:rbS c k m=some b) (hg:cgt (c.getD (k+m) (0,0)) (c.getD b (0,0))=false):rbS c k (m+1)=some b:=by
 rw [rbS,if_neg (by rw [h];decide),hn];simp only [hg,Bool.false_eq_true,if_false]
theorem rb_range {c:List Cx} {k:Nat}:∀ {m b:Nat},rbS c k m=some b→k≤b∧b < k+m
 | 0,b,h=> by cases h
 | m+1,b,h=> by
  rw [rbS] at h
  split at h
  · have:=rb_range h;omega
  · split at h
    · have:=Option.some.inj h;omega
    · rename_i b2 hb2;have h3:=rb_range hb2
      split at h
      · have:=Option.some.inj h;omega
      · have:=Option.some.inj h;omega
theorem rsize1_any (a b:Nat) (w:World):
 Calls Tryz.prog 147 #[.complex .f64 a b] w (Ret (IsF (zDc (fc a,fc b))) w):=by
 go_enter Tryz.func147,Tryz.ntmps147;go_wp2_with (first | (refine zAp rfl _ _ _ _ _ rfl rfl _ _ rfl rfl ?_;intro _ _ _) | (go_at_call 107;refine (rsize_any _ _).mono ?_;rintro e w' ⟨rfl,rfl⟩));go_ret;refine ⟨_,_,rfl,rfl,_,rfl,?_⟩;rename_i h;rw [h];unfold zDc fadd;dsimp only;rw [←fop_fc .add (zBf (fc a)),fc_fsize,fc_fsize]
def RetCol (B n g:Nat) (vR vO:Value) (S:Es × Int) (w:World) (e:Ending) (w':World):Prop:=
 e=.returned (.int .i64 S.2)∧Below B w w'∧(S.2=0→∃V M ord odd ties,RLw B w' g vR vO n n n V M ord odd ties∧RLs n S.1 M ord odd)
theorem czero_of {x1 x2:Nat}:(FloatKind.f64.format.order x1 0==some .eq && FloatKind.f64.format.order x2 0==some .eq)=zFy (fc x1,fc x2):=by
 unfold zFy;rw [ford_zero,ford_zero]
theorem gt_of {r1 r2:Nat} {x y:Cx} (h1:fc r1=zDc x) (h2:fc r2=zDc y):(FloatKind.f64.format.order r1 r2==some .gt)=cgt x y:=by
 show (ford r1 r2==_)=_;rw [←ford_fc,h1,h2];rfl
end
end Go.Proofs.YtejooaeppcjhjaaGreat
