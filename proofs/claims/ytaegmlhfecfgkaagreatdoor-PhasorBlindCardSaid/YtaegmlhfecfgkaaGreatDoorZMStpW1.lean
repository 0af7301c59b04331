/- a part of the proof of the last text -/
import Derived.Test.YtaegmlhfecfgkaaGreatDoorZMCopyE
namespace Go.Proofs.YtaegmlhfecfgkaaGreatDoor
set_option linter.all false
set_option maxHeartbeats 4000000
set_option maxRecDepth 100000
section
open Go.RowKit
theorem szL_eq (l:List El):((nds l).length:Int)+((brs l).length:Int)=((szL l:Nat):Int):=by unfold szL;simp
theorem read20_any (v:Value) (l:List El) (w:World) (hv:InSl w 8 v l.length (l.flatMap ez)) (hok:∀e∈l,e.Ok):
 Calls Tryz.prog 6 #[v] w (RetRd l w):=by
 obtain ⟨a,c,rfl⟩:=hv.form;have HV:=hid hv;have HOK:=hid hok;have HBO:=hid (Below.refl w.heap.size w);clear hv hok
 by_cases h40:40 < l.length
 · have h41:(40:Int) < (l.length:Int):=by omega
   clear h40;go_enter Tryz.func6,Tryz.ntmps6;go_wp2
   (try rw [Exit.noGoto_ret])
   refine bodyPost_ret (v:=.tuple #[.pointer none,.pointer none,.bool false]) ?_ rfl ⟨_,_,_,rfl,HBO.out,fun h=> by cases h⟩;rw [results_tmp3 rfl];rfl
 have h41:¬(40:Int) < (l.length:Int):=by omega
 have H40:=hid (show l.length≤40 by omega);clear h40;cases hob:(ofL l).1
 · have HOB:=hid hob;clear hob;go_enter Tryz.func6,Tryz.ntmps6;go_upto_region 4 with (go_at_call 15;refine (elements_any _ l _ HV.out (by have:=H40.out;omega)).mono ?_;rintro e w1 ⟨vo,xs,rfl,hown,rfl,hb⟩;have HB1:=hid (below_next HBO.out hb);have HO:=hid (IsSl.of_own hown);obtain ⟨ao,co,rfl⟩:=HO.out.form;clear hown;clear hb);clear HBO HV;go_upto_region 5 with (first | (go_at_call 16;refine (copyelements_any _ l _ HO.out (by have:=H40.out;omega)).mono ?_;rintro e w2 ⟨vo2,xs2,rfl,hown,rfl,hb⟩;have HO2:=hid (HO.out.below hb (Nat.le_refl _));have HB2:=hid (below_next HB1.out hb);have HC:=hid (IsSl.of_own hown);obtain ⟨ac,cc,rfl⟩:=HC.out.form;clear hown;clear hb) | (go_at_call 11;refine (nof_any _ l _ HC.out HOK.out (by have:=H40.out;omega)).mono ?_;intro e w3 hr;obtain ⟨fxN,fyN,rfl,hfxN,hb⟩:=retof_bad hr HOB.out;have HO3:=hid (HO2.out.below hb (Nat.le_refl _));have HC3:=hid (HC.out.below hb (Nat.le_refl _));have HB3:=hid (below_next HB2.out hb);clear hb hr));clear HO HB1 HO2 HC HB2;have HO4:=hid (HO3.out.below ((Below.refl w3.heap.size w3).alloc (Nat.le_refl _) (.cells #[.int .i64 fxN,.int .i64 fyN] 38)) (Nat.le_refl _));have HB4:=hid (below_next HB3.out ((Below.refl w3.heap.size w3).alloc (Nat.le_refl _) (.cells #[.int .i64 fxN,.int .i64 fyN] 38)));have HF:=hid (heap_alloc_new w3 (.cells #[.int .i64 fxN,.int .i64 fyN] 38));clear HO3 HB3;generalize w3.alloc (.cells #[.int .i64 fxN,.int .i64 fyN] 38)=w4 at *;obtain ⟨gf,hgf⟩:∃gf,w3.heap.size=gf:=⟨_,rfl⟩;rw [hgf] at HF⊢;clear hgf;go_upto_region 6 with (go_at_call 17;refine (rof_any15 _ l _ HO4.out HOK.out (by have:=H40.out;omega)).mono ?_;intro e w5 hr;obtain ⟨fxR,fyR,rfl,hfxR,hb⟩:=retof_bad hr HOB.out;have HO5:=hid (HO4.out.below hb (Nat.le_refl _));have HF5:=hid (heap_later2 hb HF.out);have HB5:=hid (below_next HB4.out hb);clear hb hr)
   clear HO4 HF HB4;have HF6:=hid (heap_later2 ((Below.refl w5.heap.size w5).alloc (Nat.le_refl _) (.cells #[.int .i64 fxR,.int .i64 fyR] 38)) HF5.out);have HB6:=hid (below_next HB5.out ((Below.refl w5.heap.size w5).alloc (Nat.le_refl _) (.cells #[.int .i64 fxR,.int .i64 fyR] 38)));have HG:=hid (heap_alloc_new w5 (.cells #[.int .i64 fxR,.int .i64 fyR] 38));clear HF5 HB5;generalize w5.alloc (.cells #[.int .i64 fxR,.int .i64 fyR] 38)=w6 at *;obtain ⟨gg,hgg⟩:∃gg,w5.heap.size=gg:=⟨_,rfl⟩;rw [hgg] at HG⊢;clear hgg;have hsc:=block_cells HF6.out;have z0:=hsc.1 0 _ rfl;have z1:=hsc.1 1 _ rfl;clear hsc;have hsc:=block_cells HG.out;have y0:=hsc.1 0 _ rfl;have y1:=hsc.1 1 _ rfl;clear hsc;have q1:(fxN==0)=false:=by simpa using hfxN
   go_wp2
   (try rw [Exit.noGoto_ret])
   refine bodyPost_ret (v:=.tuple #[.pointer none,.pointer none,.bool false]) ?_ rfl ⟨_,_,_,rfl,HB6.out,fun h=> by cases h⟩;rw [results_tmp3 rfl];rfl
 · have HOB:=hid hob;clear hob;go_enter Tryz.func6,Tryz.ntmps6;go_upto_region 4 with (go_at_call 15;refine (elements_any _ l _ HV.out (by have:=H40.out;omega)).mono ?_;rintro e w1 ⟨vo,xs,rfl,hown,rfl,hb⟩;have HB1:=hid (below_next HBO.out hb);have HO:=hid (IsSl.of_own hown);obtain ⟨ao,co,rfl⟩:=HO.out.form;clear hown;clear hb);clear HBO HV;go_upto_region 5 with (first | (go_at_call 16;refine (copyelements_any _ l _ HO.out (by have:=H40.out;omega)).mono ?_;rintro e w2 ⟨vo2,xs2,rfl,hown,rfl,hb⟩;have HO2:=hid (HO.out.below hb (Nat.le_refl _));have HB2:=hid (below_next HB1.out hb);have HC:=hid (IsSl.of_own hown);obtain ⟨ac,cc,rfl⟩:=HC.out.form;clear hown;clear hb) | (go_at_call 11;refine (nof_any _ l _ HC.out HOK.out (by have:=H40.out;omega)).mono ?_;intro e w3 hr;obtain ⟨gN,rfl,hnn,hb⟩:=retof_good hr HOB.out;have HO3:=hid (HO2.out.below hb (Nat.le_refl _));have HC3:=hid (HC.out.below hb (Nat.le_refl _));have HB3:=hid (below_next HB2.out hb);clear hb hr;have HN:=hid hnn;clear hnn));clear HO HB1 HO2 HC HB2;have HO4:=hid (HO3.out.below ((Below.refl w3.heap.size w3).alloc (Nat.le_refl _) (.cells #[.int .i64 0,.int .i64 0] 38)) (Nat.le_refl _));have HN4:=hid (HN.out.below' ((Below.refl w3.heap.size w3).alloc (Nat.le_refl _) (.cells #[.int .i64 0,.int .i64 0] 38)));have HB4:=hid (below_next HB3.out ((Below.refl w3.heap.size w3).alloc (Nat.le_refl _) (.cells #[.int .i64 0,.int .i64 0] 38)));have HF:=hid (heap_alloc_new w3 (.cells #[.int .i64 0,.int .i64 0] 38));clear HO3 HN HB3;generalize w3.alloc (.cells #[.int .i64 0,.int .i64 0] 38)=w4 at *;obtain ⟨gf,hgf⟩:∃gf,w3.heap.size=gf:=⟨_,rfl⟩;rw [hgf] at HF⊢;clear hgf;go_upto_region 6 with (go_at_call 17;refine (rof_any15 _ l _ HO4.out HOK.out (by have:=H40.out;omega)).mono ?_;intro e w5 hr;obtain ⟨gR,rfl,hnn,hb⟩:=retof_goodR hr HOB.out;have HO5:=hid (HO4.out.below hb (Nat.le_refl _));have HN5:=hid (HN4.out.below' hb);have HF5:=hid (heap_later2 hb HF.out);have HB5:=hid (below_next HB4.out hb);clear hb hr;have HR:=hid hnn;clear hnn)
   clear HO4 HN4 HF HB4;have HN6:=hid (HN5.out.below' ((Below.refl w5.heap.size w5).alloc (Nat.le_refl _) (.cells #[.int .i64 0,.int .i64 0] 38)));have HF6:=hid (heap_later2 ((Below.refl w5.heap.size w5).alloc (Nat.le_refl _) (.cells #[.int .i64 0,.int .i64 0] 38)) HF5.out);have HR6:=hid (HR.out.below' ((Below.refl w5.heap.size w5).alloc (Nat.le_refl _) (.cells #[.int .i64 0,.int .i64 0] 38)));have HB6:=hid (below_next HB5.out ((Below.refl w5.heap.size w5).alloc (Nat.le_refl _) (.cells #[.int .i64 0,.int .i64 0] 38)));have HG:=hid (heap_alloc_new w5 (.cells #[.int .i64 0,.int .i64 0] 38));clear HN5 HF5 HR HB5;generalize w5.alloc (.cells #[.int .i64 0,.int .i64 0] 38)=w6 at *;obtain ⟨gg,hgg⟩:∃gg,w5.heap.size=gg:=⟨_,rfl⟩;rw [hgg] at HG⊢;clear hgg;have hsc:=block_cells HF6.out;have z0:=hsc.1 0 _ rfl;have z1:=hsc.1 1 _ rfl;clear hsc;have hsc:=block_cells HG.out;have y0:=hsc.1 0 _ rfl;have y1:=hsc.1 1 _ rfl;clear hsc;have hsz:=szL_eq l;have HLEN:=hid (show l.length≤100000 by have:=H40.out;omega);go_wp2_with (go_at_call 18;refine (rorder_any _ l _ HR6.out HLEN.out).mono ?_;rintro e w7 ⟨rfl,hb⟩;have HN7:=hid (HN6.out.below' hb);have HF7:=hid (heap_later2 hb HF6.out);have HR7:=hid (HR6.out.below' hb);have HG7:=hid (heap_later2 hb HG.out);have HB7:=hid (below_next HB6.out hb);rw [hsz];clear hb)
   (try rw [Exit.noGoto_ret])
   refine bodyPost_ret (v:=.tuple #[.pointer (some ⟨gN,0,none⟩),.pointer (some ⟨gR,0,none⟩),.bool (decide ((szL l:Int)≤16))]) ?_ rfl ⟨_,_,_,rfl,HB7.out,fun h=> ⟨H40.out,HOB.out,by have:=of_decide_eq_true h;omega,HN7.out,HR7.out,rfl,rfl⟩⟩;rw [results_tmp3 rfl];rfl
end
section
open Go.RowKit
end
section
open Go.RowKit
def nats (l:List Nat):List Value:=l.map fun (k:Nat)=> Value.int .i64 (k:Int)
theorem nats_snoc (l:List Nat) (k:Nat):nats (l++ [k])=nats l++ [.int .i64 k]:=by simp [nats]
theorem infoI:(Tryz.prog.info? 3).map (fun i=> (i.zero,i.size,i.bytes))=some (some (.int .i64 0),1,8):=by kernel_rfl
end
section
open Go.RowKit
end
section
open Go.RowKit
def boardCells (p:Value) (nd n:Nat) (ov:Bool) (M:List Cx):Array Value:=(p::.int .i64 nd::.int .i64 n::.bool ov::M.map mkC).toArray
theorem board_0 {p:Value} {nd n:Nat} {ov:Bool} {M:List Cx}:(boardCells p nd n ov M)[0]? =some p:=by simp [boardCells]
theorem board_1 {p:Value} {nd n:Nat} {ov:Bool} {M:List Cx}:(boardCells p nd n ov M)[1]? =some (.int .i64 nd):=by simp [boardCells]
theorem board_2 {p:Value} {nd n:Nat} {ov:Bool} {M:List Cx}:(boardCells p nd n ov M)[2]? =some (.int .i64 n):=by simp [boardCells]
theorem board_3 {p:Value} {nd n:Nat} {ov:Bool} {M:List Cx}:(boardCells p nd n ov M)[3]? =some (.bool ov):=by simp [boardCells]
theorem board_z {p:Value} {nd n k:Nat} {ov:Bool} {M:List Cx} (h:k < M.length):(boardCells p nd n ov M)[4+k]? =some (mkC (M.getD k (0,0))):=by
 unfold boardCells;rw [List.getElem?_toArray,show 4+k=k+1+1+1+1 by omega];simp only [List.getElem?_cons_succ,List.getElem?_map,List.getD_eq_getElem?_getD];rw [List.getElem?_eq_getElem h];rfl
theorem board_set_z {p:Value} {nd n k:Nat} {ov:Bool} {M:List Cx} (z:Cx):(boardCells p nd n ov M).setIfInBounds (4+k) (mkC z)=boardCells p nd n ov (M.set k z):=by
 unfold boardCells;rw [List.setIfInBounds_toArray,show 4+k=k+1+1+1+1 by omega];simp only [List.set_cons_succ,List.map_set]
theorem board_set_ov {p:Value} {nd n:Nat} {ov b:Bool} {M:List Cx}:(boardCells p nd n ov M).setIfInBounds 3 (.bool b)=boardCells p nd n b M:=by
 unfold boardCells;rw [List.setIfInBounds_toArray];rfl
def BoardM (w:World) (g:Nat) (p:Value) (nd n:Nat) (m:Nat→Cx) (ov:Bool) (M:List Cx):Prop:=
 M.length=4096∧w.heap[g]? =some (.cells (boardCells p nd n ov M) 90 (0,0))∧∀k,k < 4096→ck (M.getD k (0,0))=m k
def BoardR (w:World) (g:Nat) (p:Value) (nd n:Nat) (s:StS):Prop:=∃M,BoardM w g p nd n s.1 s.2 M
theorem BoardM.below {w w':World} {g nd n:Nat} {p:Value} {m:Nat→Cx} {ov:Bool} {M:List Cx} (h:BoardM w g p nd n m ov M) (hb:Below w.heap.size w w'):BoardM w' g p nd n m ov M:=
 ⟨h.1,heap_laterS hb h.2.1,h.2.2⟩
theorem BoardR.below {w w':World} {g nd n:Nat} {p:Value} {s:StS} (h:BoardR w g p nd n s) (hb:Below w.heap.size w w'):BoardR w' g p nd n s:=by
 obtain ⟨M,hM⟩:=h;exact ⟨M,hM.below hb⟩
theorem BoardR.lt {w:World} {g nd n:Nat} {p:Value} {s:StS} (h:BoardR w g p nd n s):g < w.heap.size:=by
 obtain ⟨M,h1,h2,h3⟩:=h;exact (Array.getElem?_eq_some_iff.1 h2).1
theorem BoardM.put {w:World} {g nd n k:Nat} {p:Value} {m:Nat→Cx} {ov:Bool} {M:List Cx} (h:BoardM w g p nd n m ov M) (hk:k < 4096) (z:Cx):
 BoardM (w.setCell ⟨g,4+k,none⟩ (mkC z)) g p nd n (upd m k (ck z)) ov (M.set k z):=by
 obtain ⟨h1,h2,h3⟩:=h;refine ⟨by rw [List.length_set,h1],?_,fun j hj=> ?_⟩
 · have h4:=blk_setS (o:=4+k) h2 (mkC z);rw [board_set_z] at h4;exact h4
 · by_cases e:j=k
   · subst e;rw [upd_same,List.getD_eq_getElem?_getD,List.getElem?_set_self (by omega)];rfl
   · rw [upd_ne _ _ e,←h3 j hj,List.getD_eq_getElem?_getD,List.getD_eq_getElem?_getD,List.getElem?_set_ne (Ne.symm e)]
theorem BoardM.mark {w:World} {g nd n:Nat} {p:Value} {m:Nat→Cx} {ov:Bool} {M:List Cx} (h:BoardM w g p nd n m ov M) (b:Bool):
 BoardM (w.setCell ⟨g,3,none⟩ (.bool b)) g p nd n m b M:=by
 obtain ⟨h1,h2,h3⟩:=h;have h4:=blk_setS (o:=3) h2 (.bool b);rw [board_set_ov] at h4;exact ⟨h1,h4,h3⟩
def RetBd (g:Nat) (p:Value) (nd n:Nat) (s:StS) (w:World) (en:Ending) (w':World):Prop:=en=.returned (.tuple #[])∧BoardR w' g p nd n s∧w.grownBy w' (some g)
end
section
open Go.RowKit
theorem badd_any (g nd n:Nat) (p:Value) (s:StS) (i j:Int) (a b:Nat) (w:World) (h:BoardR w g p nd n s) (hn:n≤64) (hi:i < n) (hj:j < n):
 Calls Tryz.prog 96 #[.pointer (some ⟨g,0,none⟩),.int .i64 i,.int .i64 j,.complex .f64 a b] w (RetBd g p nd n (st1 n s ⟨false,i,j,(fc a,fc b)⟩) w):=by
 by_cases hi0:i < 0
 · have H:=hid h;clear h;go_enter Tryz.func96,Tryz.ntmps96;go_wp2
   (try rw [Exit.noGoto_ret])
   go_end0
   exact ⟨rfl,by rw [st1_no (.inl hi0)];exact H.out,World.grownBy.refl _ _⟩
 by_cases hj0:j < 0
 · have H:=hid h;clear h;go_enter Tryz.func96,Tryz.ntmps96;go_wp2
   (try rw [Exit.noGoto_ret])
   go_end0
   exact ⟨rfl,by rw [st1_no (.inr hj0)];exact H.out,World.grownBy.refl _ _⟩
 rw [st1_yes (show¬(i < 0∨j < 0) by omega)];obtain ⟨i,rfl⟩:=Int.eq_ofNat_of_zero_le (show 0≤i by omega);obtain ⟨j,rfl⟩:=Int.eq_ofNat_of_zero_le (show 0≤j by omega);have hk:i * n+j < 4096:=by
  have h1:i≤63:=by omega
  have h2:i * n≤63 * n:=Nat.mul_le_mul_right n h1
  omega
 have hidx:(((i:Nat):Int) * (n:Int)+((j:Nat):Int)).toNat=i * n+j:=by
  rw [show (i:Int) * (n:Int)=((i * n:Nat):Int) by simp];omega
 have HIDX:=hid hidx;obtain ⟨q,hq⟩:∃q,i * n=q:=⟨_,rfl⟩;obtain ⟨k,hkk⟩:∃k,q+j=k:=⟨_,rfl⟩;rw [hq,hkk] at hk;have hw1:IntKind.i64.wrap ((i:Int) * (n:Int))=(q:Int):=by
  rw [show (i:Int) * (n:Int)=((i * n:Nat):Int) by simp,hq];rw [IntWalk.i64_in _ ⟨by omega,by omega⟩]
 have hw2:IntKind.i64.wrap ((q:Int)+(j:Int))=(k:Int):=by
  rw [IntWalk.i64_in _ ⟨by omega,by omega⟩];omega
 have hkz:(k:Int) < 4096:=by omega
 have HQ:=hid hq;have HKK:=hid hkk;rw [hq,hkk] at HIDX;clear hidx hq hkk;obtain ⟨M,hM⟩:=h;have HM:=hid hM;have HK:=hid hk;have hsc:=cells_ofS HM.out.2.1;have c2:=hsc.1 2 _ board_2;clear hsc hM hk;go_enter Tryz.func96,Tryz.ntmps96;go_upto_region 1 with fail
 go_still_tail 12,(by kernel_rfl)
 change wpList _ _ _ _ _ w.drew;have HD:=hid (HM.out.below (Below.refl _ _).drew);have HG:=hid (grown_of_below ((Below.refl w.heap.size w).drew) (some g));clear HM c2;obtain ⟨hz,hfz⟩:=cells_ofS HD.out.2.1;have cz:=hz (4+k) _ (board_z (by have:=HD.out.1;have:=HK.out;omega));have HFZ:=hid hfz;clear hz hfz;have HZE:=hid (HD.out.2.2 k HK.out);generalize w.drew=w1 at *;generalize M.getD k (0,0)=z at *;obtain ⟨z1,z2⟩:=z;go_upto_region 3 with (go_at_call 50;refine (padd_any z1 z2 a b _).mono ?_;rintro e w2 ⟨v,nn,rfl,he,r1,r2,rfl,hzz⟩;have hb2:Below w1.heap.size w1 w2:=(by rw [he];exact below_n (Below.refl _ _) nn);have HD2:=hid (HD.out.below hb2);have HG2:=hid (grown_trans HG.out (grown_of_below hb2 (some g)));have HZZ:=hid hzz;have fz:=(cells_ofS HD2.out.2.1).2 (4+k);have cz2:=(hb2.cell (p:=⟨g,4+k,none⟩) (Array.getElem?_eq_some_iff.1 HD.out.2.1).1).trans cz;clear HD HG hzz HFZ he hb2 cz);have HD3:=hid (HD2.out.put HK.out (r1,r2));have HG3:=hid (grown_trans HG2.out (grown_setS w2 g (4+k) (.complex .f64 r1 r2)));clear HD2 HG2 fz cz2;have HD4:Hid (BoardM (w2.setCell ⟨g,4+k,none⟩ (.complex .f64 r1 r2)) g p nd n (upd s.1 k (ck (r1,r2))) s.2 (M.set k (r1,r2))):=HD3;clear HD3;have HST:=hid (show stZ n s.1 ⟨false,(i:Int),(j:Int),(fc a,fc b)⟩=ck (r1,r2) by
  unfold stZ;simp only [HIDX.out,Bool.false_eq_true,if_false];rw [←HZE.out];exact HZZ.out.symm)
 generalize w2.setCell ⟨g,4+k,none⟩ (.complex .f64 r1 r2)=w3 at *;have hsc:=cells_ofS HD4.out.2.1;have o3:=hsc.1 3 _ board_3;have HZ3:=hid (hsc.1 (4+k) _ (board_z (by have:=HD4.out.1;have:=HK.out;omega)));have z3:w3.cell? ⟨g,4+k,none⟩=some (.complex .f64 r1 r2):=by
  have h1:=HZ3.out;rw [List.getD_eq_getElem?_getD,List.getElem?_set_self (by have:=HD4.out.1;rw [List.length_set] at this;have:=HK.out;omega)] at h1;exact h1
 have f3:=hsc.2 3;clear hsc HZ3;rcases hov:s.2 with _ | _
 · rw [hov] at o3;go_wp2_with (go_at_call 47;refine (pfin_any r1 r2 _).mono ?_;rintro e w4 ⟨v,nn4,rfl,he,rfl⟩;have hb4:Below w3.heap.size w3 w4:=(by rw [he];exact below_n (Below.refl _ _) nn4);have HD5:=hid (HD4.out.below hb4);have HG5:=hid (grown_trans HG3.out (grown_of_below hb4 (some g)));have o4:=(cells_ofS HD5.out.2.1).1 3 _ board_3;have f4:=(cells_ofS HD5.out.2.1).2 3;clear HD4 HG3 he hb4 o3 f3 z3)
   (try rw [Exit.noGoto_ret])
   go_end0
   refine ⟨rfl,⟨M.set k (r1,r2),?_⟩,grown_trans HG5.out (grown_setS _ _ _ _)⟩;rw [HST.out,HIDX.out];rw [hov,Bool.false_or];exact HD5.out.mark _
 · rw [hov] at o3;go_wp2
   (try rw [Exit.noGoto_ret])
   go_end0
   refine ⟨rfl,⟨M.set k (r1,r2),?_⟩,grown_trans HG3.out (grown_setS _ _ _ _)⟩;rw [HST.out,HIDX.out];rw [hov,Bool.true_or];exact HD4.out.mark _
theorem bsub_any (g nd n:Nat) (p:Value) (s:StS) (i j:Int) (a b:Nat) (w:World) (h:BoardR w g p nd n s) (hn:n≤64) (hi:i < n) (hj:j < n):
 Calls Tryz.prog 97 #[.pointer (some ⟨g,0,none⟩),.int .i64 i,.int .i64 j,.complex .f64 a b] w (RetBd g p nd n (st1 n s ⟨true,i,j,(fc a,fc b)⟩) w):=by
 by_cases hi0:i < 0
 · have H:=hid h;clear h;go_enter Tryz.func97,Tryz.ntmps97;go_wp2
   (try rw [Exit.noGoto_ret])
   go_end0
   exact ⟨rfl,by rw [st1_no (.inl hi0)];exact H.out,World.grownBy.refl _ _⟩
 by_cases hj0:j < 0
 · have H:=hid h;clear h;go_enter Tryz.func97,Tryz.ntmps97;go_wp2
   (try rw [Exit.noGoto_ret])
   go_end0
   exact ⟨rfl,by rw [st1_no (.inr hj0)];exact H.out,World.grownBy.refl _ _⟩
 rw [st1_yes (show¬(i < 0∨j < 0) by omega)];obtain ⟨i,rfl⟩:=Int.eq_ofNat_of_zero_le (show 0≤i by omega);obtain ⟨j,rfl⟩:=Int.eq_ofNat_of_zero_le (show 0≤j by omega);have hk:i * n+j < 4096:=by
  have h1:i≤63:=by omega
  have h2:i * n≤63 * n:=Nat.mul_le_mul_right n h1
  omega
 have hidx:(((i:Nat):Int) * (n:Int)+((j:Nat):Int)).toNat=i * n+j:=by
  rw [show (i:Int) * (n:Int)=((i * n:Nat):Int) by simp];omega
 have HIDX:=hid hidx;obtain ⟨q,hq⟩:∃q,i * n=q:=⟨_,rfl⟩;obtain ⟨k,hkk⟩:∃k,q+j=k:=⟨_,rfl⟩;rw [hq,hkk] at hk;have hw1:IntKind.i64.wrap ((i:Int) * (n:Int))=(q:Int):=by
  rw [show (i:Int) * (n:Int)=((i * n:Nat):Int) by simp,hq];rw [IntWalk.i64_in _ ⟨by omega,by omega⟩]
 have hw2:IntKind.i64.wrap ((q:Int)+(j:Int))=(k:Int):=by
  rw [IntWalk.i64_in _ ⟨by omega,by omega⟩];omega
 have hkz:(k:Int) < 4096:=by omega
 have HQ:=hid hq;have HKK:=hid hkk;rw [hq,hkk] at HIDX;clear hidx hq hkk;obtain ⟨M,hM⟩:=h;have HM:=hid hM;have HK:=hid hk;have hsc:=cells_ofS HM.out.2.1;have c2:=hsc.1 2 _ board_2;clear hsc hM hk;go_enter Tryz.func97,Tryz.ntmps97;go_upto_region 1 with fail
 go_still_tail 12,(by kernel_rfl)
 change wpList _ _ _ _ _ w.drew;have HD:=hid (HM.out.below (Below.refl _ _).drew);have HG:=hid (grown_of_below ((Below.refl w.heap.size w).drew) (some g));clear HM c2;obtain ⟨hz,hfz⟩:=cells_ofS HD.out.2.1;have cz:=hz (4+k) _ (board_z (by have:=HD.out.1;have:=HK.out;omega));have HFZ:=hid hfz;clear hz hfz;have HZE:=hid (HD.out.2.2 k HK.out);generalize w.drew=w1 at *;generalize M.getD k (0,0)=z at *;obtain ⟨z1,z2⟩:=z;go_upto_region 3 with (go_at_call 49;refine (psub_any z1 z2 a b _).mono ?_;rintro e w2 ⟨v,nn,rfl,he,r1,r2,rfl,hzz⟩;have hb2:Below w1.heap.size w1 w2:=(by rw [he];exact below_n (Below.refl _ _) nn);have HD2:=hid (HD.out.below hb2);have HG2:=hid (grown_trans HG.out (grown_of_below hb2 (some g)));have HZZ:=hid hzz;have fz:=(cells_ofS HD2.out.2.1).2 (4+k);have cz2:=(hb2.cell (p:=⟨g,4+k,none⟩) (Array.getElem?_eq_some_iff.1 HD.out.2.1).1).trans cz;clear HD HG hzz HFZ he hb2 cz);have HD3:=hid (HD2.out.put HK.out (r1,r2));have HG3:=hid (grown_trans HG2.out (grown_setS w2 g (4+k) (.complex .f64 r1 r2)));clear HD2 HG2 fz cz2;have HD4:Hid (BoardM (w2.setCell ⟨g,4+k,none⟩ (.complex .f64 r1 r2)) g p nd n (upd s.1 k (ck (r1,r2))) s.2 (M.set k (r1,r2))):=HD3;clear HD3;have HST:=hid (show stZ n s.1 ⟨true,(i:Int),(j:Int),(fc a,fc b)⟩=ck (r1,r2) by
  unfold stZ;simp only [HIDX.out,if_true];rw [←HZE.out];exact HZZ.out.symm)
 generalize w2.setCell ⟨g,4+k,none⟩ (.complex .f64 r1 r2)=w3 at *;have hsc:=cells_ofS HD4.out.2.1;have o3:=hsc.1 3 _ board_3;have HZ3:=hid (hsc.1 (4+k) _ (board_z (by have:=HD4.out.1;have:=HK.out;omega)));have z3:w3.cell? ⟨g,4+k,none⟩=some (.complex .f64 r1 r2):=by
  have h1:=HZ3.out;rw [List.getD_eq_getElem?_getD,List.getElem?_set_self (by have:=HD4.out.1;rw [List.length_set] at this;have:=HK.out;omega)] at h1;exact h1
 have f3:=hsc.2 3;clear hsc HZ3;rcases hov:s.2 with _ | _
 · rw [hov] at o3;go_wp2_with (go_at_call 47;refine (pfin_any r1 r2 _).mono ?_;rintro e w4 ⟨v,nn4,rfl,he,rfl⟩;have hb4:Below w3.heap.size w3 w4:=(by rw [he];exact below_n (Below.refl _ _) nn4);have HD5:=hid (HD4.out.below hb4);have HG5:=hid (grown_trans HG3.out (grown_of_below hb4 (some g)));have o4:=(cells_ofS HD5.out.2.1).1 3 _ board_3;have f4:=(cells_ofS HD5.out.2.1).2 3;clear HD4 HG3 he hb4 o3 f3 z3)
   (try rw [Exit.noGoto_ret])
   go_end0
   refine ⟨rfl,⟨M.set k (r1,r2),?_⟩,grown_trans HG5.out (grown_setS _ _ _ _)⟩;rw [HST.out,HIDX.out];rw [hov,Bool.false_or];exact HD5.out.mark _
 · rw [hov] at o3;go_wp2
   (try rw [Exit.noGoto_ret])
   go_end0
   refine ⟨rfl,⟨M.set k (r1,r2),?_⟩,grown_trans HG3.out (grown_setS _ _ _ _)⟩;rw [HST.out,HIDX.out];rw [hov,Bool.true_or];exact HD4.out.mark _
end
end Go.Proofs.YtaegmlhfecfgkaaGreatDoor
