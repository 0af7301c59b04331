/- a part of the proof of the last text -/
import Derived.Test.YtejooaeppcjhjaaGreatZRSt2
import Derived.Test.YtejooaeppcjhjaaGreatZRPh1
namespace Go.Proofs.YtejooaeppcjhjaaGreat
set_option linter.all false
set_option maxHeartbeats 4000000
set_option maxRecDepth 100000
section
open Go.RowKit
theorem wp_gen2 {P:Program} {c:Code} {Q:Exit→Act→World→Prop} {a:Act} {w:World}
 (h:∀Q':Exit→Act→World→Prop,(∀a w,Q .normal a w→Q' .normal a w)→(∀a w,Q .ret a w→Q' .ret a w)→(∀i a w,Q (.exit i) a w→Q' (.exit i) a w)→c.wp P Q' a w):c.wp P Q a w:=
 h Q (fun _ _ h=> h) (fun _ _ h=> h) (fun _ _ _ h=> h)
theorem rn_at {w:World} {g:Nat} {l:List El} (h:RN w (.pointer (some ⟨g,0,none⟩)) l):∃a c,w.cell? ⟨g,0,none⟩=some (.slice a l.length c)∧w.cell? ⟨g,1,none⟩=some (.bool true)∧IsSl w 8 (.slice a l.length c) l.length (l.flatMap ea):=by
 rcases h with ⟨h,_⟩ | ⟨g',v,h,h0,h1,h2⟩
 · cases h
 · cases h;obtain ⟨a,c,rfl⟩:=h2.form;exact ⟨a,c,h0,h1,h2⟩
def MkD (n:Nat) (v:Value) (w:World) (lo hi:Nat):Prop:=∃b,v=.slice (some ⟨b,0,none⟩) n n∧lo≤b∧b < hi∧w.heap[b]? =some (.cells (zrow n) 49 (0,0))
theorem MkD.later {n lo hi:Nat} {v:Value} {w w':World} (h:MkD n v w lo hi) (hb:Below w.heap.size w w'):MkD n v w' lo hi:=by
 obtain ⟨b,h1,h2,h3,h4⟩:=h;exact ⟨b,h1,h2,h3,zAo hb h4⟩
theorem sheet_new {w:World} {g h n:Nat} (hg:w.heap[g]? =some (.cells (shCells h n false) 149 (0,0))) (hh:w.heap[h]? =some (.cells (zrow (n * n)) 49 (0,0))) (hne:g≠h):zDx w g h n (fun _=> cZero,false):=
 ⟨List.replicate (n * n) (0,0),by simp,hg,hh,hne,fun k hk=> by
  rw [List.getD_eq_getElem?_getD,List.getElem?_replicate,if_pos hk];rfl⟩
theorem sheet_own {w:World} {g h n:Nat} {s:StS} {B:Nat} (H:zDx w g h n s) (hB:B≤h) (hn:n≤64):
 ∃xs:List Cx,xs.length=n * n∧xs.map ck=(List.range (n * n)).map s.1∧w.ownsRow B 49 1 (.slice (some ⟨h,0,none⟩) (n * n) (n * n)) xs.length (xs.map mkC):=by
 obtain ⟨M,hM⟩:=H;refine ⟨M,hM.len,?_,?_⟩
 · apply List.ext_getElem
   · simp [hM.len]
   · intro i h1 h2;have hi:i < n * n:=by simpa using h2
     have:=hM.num i hi;rw [List.getD_eq_getElem?_getD,List.getElem?_eq_getElem (by rw [hM.len];exact hi)] at this
     simpa using this
 · have h64:n * n≤64 * 64:=Nat.mul_le_mul hn hn;refine ⟨by simp,.inr ⟨h,n * n,(M.map mkC).toArray,by rw [hM.len],hB,hM.row,by rw [hM.len];exact Nat.le_refl _,by unfold maxLen;omega,by simp [hM.len],?_⟩⟩;rw [List.take_of_length_le (by simp)]
theorem rmatrix_bad (q:Value) (l:List El) (om:Nat) (w:World) (hq:RN w q l) (hb:zAw q=true∨angE om≠0):
 Calls Tryz.prog 52 #[q,.float .f64 om] w (zEr (matS (zAw q) l om) w):=by
 have h0:=zCc w (.cells #[.int .i64 0,.int .i64 0,.slice none 0 0] 99) (.cells #[.int .i64 0,.int .i64 0] 32);have hq2:=hq.below h0 (Nat.le_refl _);rcases hq with ⟨rfl,rfl⟩ | ⟨g,v,rfl,_⟩
 · clear hb hq2 h0;go_enter Tryz.func52,Tryz.ntmps52;go_wp2;refine bodyPost_ret (v:=zEq 1 (-1)) ?_ rfl (zEr.bad mat_none (zCc _ _ _));rw [zAh rfl];go_simp;rfl
 · have ha:angE om≠0:=by rcases hb with h | h;(cases h);exact h
   obtain ⟨a,c,c0,c1,_⟩:=rn_at hq2;have HA:=hid ha;have hne:(angE om !=0)=true:=by rw [bne_iff_ne];exact ha
   clear hb ha hq2 h0;go_enter Tryz.func52,Tryz.ntmps52;go_wp2_with (go_at_call 30;refine (zHd om _).mono ?_;rintro e w1 ⟨v,nn,rfl,he,rfl⟩);refine bodyPost_ret (v:=zEq (angE om) (-1)) ?_ rfl (zEr.bad (mat_ang HA.out) (by first | rw [he] | skip;repeat (first | with_reducible exact zAg (zCc _ _ _) nn | with_reducible refine Below.setCell ?_ (by dsimp only;omega) _)));rw [zAh rfl];go_simp;rfl
abbrev MZr:Obj:=.cells #[.int .i64 0,.int .i64 0,.slice none 0 0] 99 (0,0)
abbrev FZr:Obj:=.cells #[.int .i64 0,.int .i64 0] 32 (0,0)
theorem rmatrix_good (q:Value) (l:List El) (om:Nat) (w:World) (hq:RN w q l) (hn:zAw q=false) (ha:angE om=0) (hok:∀x∈l,x.Ok) (hk:∀x∈l,isK x.kind=true) (hl:l.length≤100000) (hsz:szL l≤64):
 Calls Tryz.prog 52 #[q,.float .f64 om] w (zEr (matS false l om) w):=by
 have HB0:=hid (zCc w MZr FZr);have HQ0:=hid (hq.below HB0.out (Nat.le_refl _));have hZ4:=heap_alloc_new w MZr;have hZ5:=heap_alloc_new (w.alloc MZr) FZr;have HZ5:Hid (((w.alloc MZr).alloc FZr).heap[w.heap.size+1]? =some FZr):=hid (by have:=hZ5;simp at this;simpa using this);have HZ4:Hid (((w.alloc MZr).alloc FZr).heap[w.heap.size]? =some MZr):=hid ((heap_alloc_old _ FZr (by simp)).trans hZ4);have HS1:=hid (show ((w.alloc MZr).alloc FZr).heap.size=w.heap.size+2 by simp);obtain ⟨g0,rfl⟩:∃g0,q=.pointer (some ⟨g0,0,none⟩):=by
  rcases hq with ⟨rfl,_⟩ | ⟨g,v,rfl,_⟩
  · cases hn
  · exact ⟨g,rfl⟩
 obtain ⟨a9,d9,c0,c1,_⟩:=rn_at HQ0.out;have HA:=hid ha;have HOK:=hid hok;have HKK:=hid hk;have HLE:=hid hl;have HSZ:=hid hsz;have hsz2:((nds l).length:Int)+((brs l).length:Int)=((szL l:Nat):Int):=by unfold szL;omega
 have HSZ2:=hid hsz2;clear hq hn hok hk hl hsz hsz2 hZ4 hZ5;go_enter Tryz.func52,Tryz.ntmps52;go_upto_region 1 with fail;generalize (w.alloc MZr).alloc FZr=w1 at *;go_upto_region 4 with (go_at_call 30;refine (zHd om _).mono ?_;rintro e w2 ⟨v,nn,rfl,he,rfl⟩;rw [HA.out];have hb:Below w1.heap.size w1 w2:=(by rw [he];exact zAg (Below.refl _ _) nn);have HB2:=hid (zAd HB0.out hb);have HQ2:=hid (HQ0.out.below hb (Nat.le_refl _));have HZ4b:=hid (zAo hb HZ4.out);have HZ5b:=hid (zAo hb HZ5.out);have HGW:=hid (show w.heap.size+2≤w2.heap.size by have:=hb.size;have:=HS1.out;omega);clear HB0 HQ0 HZ4 HZ5 HS1 hb he c0 c1);clear ha;go_upto_region 7 with (go_at_call 23;refine (zGs _ l _ HQ2.out HLE.out).mono ?_;rintro e w3 ⟨rfl,hb⟩;rw [HSZ2.out];have HB3:=hid (zAd HB2.out hb);have HQ3:=hid (HQ2.out.below hb (Nat.le_refl _));have HZ4c:=hid (zAo hb HZ4b.out);have HZ5c:=hid (zAo hb HZ5b.out);have HGW3:=hid (Nat.le_trans HGW.out hb.size);clear HB2 HQ2 HZ4b HZ5b HGW hb);have hb4:=(Below.refl w3.heap.size w3).alloc (Nat.le_refl _) (.cells #[.int .i64 (szL l:Nat),.slice none 0 0,.bool false] 149);have HSB:=hid (heap_alloc_new w3 (.cells #[.int .i64 (szL l:Nat),.slice none 0 0,.bool false] 149));have HB:=hid (zAd HB3.out hb4);have HQ:=hid (HQ3.out.below hb4 (Nat.le_refl _));have HZ4:=hid (zAo hb4 HZ4c.out);have HZ5:=hid (zAo hb4 HZ5c.out);have HSBW:=hid hb4;clear hb4 HB3 HZ4c HZ5c;generalize w3.alloc (.cells #[.int .i64 (szL l:Nat),.slice none 0 0,.bool false] 149)=w4 at *;generalize hsb:w3.heap.size=sb at *;obtain ⟨n,hnn⟩:∃n,szL l=n:=⟨_,rfl⟩;obtain ⟨nn,hn2⟩:∃nn,n * n=nn:=⟨_,rfl⟩;have hn64:n≤64:=by rw [←hnn];exact HSZ.out
 have hnb:nn≤4096:=by rw [←hn2];exact Nat.mul_le_mul hn64 hn64
 have hwm:IntKind.i64.wrap ((n:Int) * (n:Int))=(nn:Int):=by
  rw [show (n:Int) * (n:Int)=((n * n:Nat):Int) by simp,hn2];rw [IntWalk.i64_in _ ⟨by omega,by omega⟩]
 have HN2:=hid hn2;have HNN:=hid hnn;have HNB:=hid hnb;rw [hnn] at HSB;rw [hnn];have HSBE:=hid hsb;clear hn2 hnn hn64 hnb hsb;refine wp_region_any (by kernel_rfl) ?_;change wpAny _ _ _ _ _ _ _ (World.drew _);refine zAy [⟨some 32,0, []⟩,⟨some 33,1, []⟩,⟨some 34,2, []⟩,⟨some 35,3, []⟩,⟨some 36,4, []⟩,⟨some 37,5, []⟩,⟨some 38,6, []⟩,⟨some 39,7, []⟩,⟨some 40,8, []⟩,⟨some 41,9, []⟩,⟨some 42,10, []⟩]
  (fun w'=> w'.heap[sb]? =some (.cells #[.int .i64 n,.slice none 0 0,.bool false] 149 (0,0)))
  (fun oq v _ w lo hi=> (match oq with | 0=> v=.pointer (some ⟨sb,0,none⟩) | 1=> v=.pointer (some ⟨sb,0,none⟩) | 2=> v=.pointer (some ⟨sb,0,none⟩) | 3=> v=.pointer (some ⟨sb,0,none⟩) | 4=> v=.int .i64 n | 5=> v=.pointer (some ⟨sb,0,none⟩) | 6=> v=.pointer (some ⟨sb,0,none⟩) | 7=> v=.pointer (some ⟨sb,0,none⟩) | 8=> v=.int .i64 n | 9=> v=.int .i64 nn | _=> True)∧(oq=10→MkD nn v w lo hi)) (by kernel_rfl) ?hSm (fun _ _ hb h=> zAo hb h) (fun _ _ _ _ _ _ _ hb _ h=> ⟨h.1,fun e=> (h.2 e).later hb⟩) ?hopm ?hendm
 case hSm=> exact zAo (Below.refl _ _).drew HSB.out
 case hopm=>
  delta Owed
  simp only [zBg,Act.put,List.setIfInBounds_toArray,lz,ls];refine Each.cons rfl ?_ (Each.cons rfl ?_ (Each.cons rfl ?_ (Each.cons rfl ?_ (Each.cons rfl ?_ (Each.cons rfl ?_ (Each.cons rfl ?_ (Each.cons rfl ?_ (Each.cons rfl ?_ (Each.cons rfl ?_ (Each.cons rfl ?_ Each.nil))))))))))
  all_goals intro vs w2 hb2 hS2 hR2 K hK;try simp only [lz,ls] at hK⊢
  · go_simp;exact hK.out _ _ (Below.refl _ _) ⟨rfl,fun e=> by cases e⟩
  · go_simp;exact hK.out _ _ (Below.refl _ _) ⟨rfl,fun e=> by cases e⟩
  · have h1:vs 1=_:=exR (hR2 1 (by kernel_rfl)) (fun _ _ h=> h.1);simp only [h1] at hK⊢;go_simp;exact hK.out _ _ (Below.refl _ _) ⟨rfl,fun e=> by cases e⟩
  · have h2:vs 2=_:=exR (hR2 2 (by kernel_rfl)) (fun _ _ h=> h.1);simp only [h2] at hK⊢;go_simp;exact hK.out _ _ (Below.refl _ _) ⟨rfl,fun e=> by cases e⟩
  · have h3:vs 3=_:=exR (hR2 3 (by kernel_rfl)) (fun _ _ h=> h.1);have k0:=(zAa hS2).1 0 _ rfl;simp only [h3] at hK⊢;go_simp;exact hK.out _ _ (Below.refl _ _) ⟨rfl,fun e=> by cases e⟩
  · go_simp;exact hK.out _ _ (Below.refl _ _) ⟨rfl,fun e=> by cases e⟩
  · have h5:vs 5=_:=exR (hR2 5 (by kernel_rfl)) (fun _ _ h=> h.1);simp only [h5] at hK⊢;go_simp;exact hK.out _ _ (Below.refl _ _) ⟨rfl,fun e=> by cases e⟩
  · have h6:vs 6=_:=exR (hR2 6 (by kernel_rfl)) (fun _ _ h=> h.1);simp only [h6] at hK⊢;go_simp;exact hK.out _ _ (Below.refl _ _) ⟨rfl,fun e=> by cases e⟩
  · have h7:vs 7=_:=exR (hR2 7 (by kernel_rfl)) (fun _ _ h=> h.1);have k0:=(zAa hS2).1 0 _ rfl;simp only [h7] at hK⊢;go_simp;exact hK.out _ _ (Below.refl _ _) ⟨rfl,fun e=> by cases e⟩
  · have h4:vs 4=_:=exR (hR2 4 (by kernel_rfl)) (fun _ _ h=> h.1);have h8:vs 8=_:=exR (hR2 8 (by kernel_rfl)) (fun _ _ h=> h.1);simp only [h4,h8] at hK⊢;go_simp;exact hK.out _ _ (Below.refl _ _) ⟨rfl,fun e=> by cases e⟩
  · have h9:vs 9=_:=exR (hR2 9 (by kernel_rfl)) (fun _ _ h=> h.1);simp only [h9] at hK⊢;have hmk:=zHe nn w2 HNB.out;go_simp;exact hK.out _ _ ((Below.refl _ _).alloc (Nat.le_refl _) _) ⟨trivial,fun _=> ⟨w2.heap.size,rfl,Nat.le_refl _,by simp,heap_alloc_new _ _⟩⟩
 case hendm=>
  intro vs wx lo hi hbx hSx hRx hdx;have h0:vs 0=_:=(hRx 0 (by kernel_rfl)).1.1;have h1:vs 1=_:=(hRx 1 (by kernel_rfl)).1.1;have h2:vs 2=_:=(hRx 2 (by kernel_rfl)).1.1;have h3:vs 3=_:=(hRx 3 (by kernel_rfl)).1.1;have h4:vs 4=_:=(hRx 4 (by kernel_rfl)).1.1;have h5:vs 5=_:=(hRx 5 (by kernel_rfl)).1.1;have h6:vs 6=_:=(hRx 6 (by kernel_rfl)).1.1;have h7:vs 7=_:=(hRx 7 (by kernel_rfl)).1.1;have h8:vs 8=_:=(hRx 8 (by kernel_rfl)).1.1;have h9:vs 9=_:=(hRx 9 (by kernel_rfl)).1.1;obtain ⟨hb0,h10,hlo,hhi,hrow⟩:=(hRx 10 (by kernel_rfl)).1.2 rfl;have hlo2:=(hRx 10 (by kernel_rfl)).2.1;simp only [zBg,Act.put,List.setIfInBounds_toArray,lz,ls,h0,h1,h2,h3,h4,h5,h6,h7,h8,h9,h10];have hb:=zAq hbx;have HSX:=hid (show wx.heap[sb]? =some (.cells #[.int .i64 n,.slice none 0 0,.bool false] 149 (0,0)) from hSx);have HRX:=hid hrow;have hlt:sb < w4.heap.size:=(Array.getElem?_eq_some_iff.1 HSB.out).1;have HLT:=hid (show sb < hb0 from Nat.lt_of_lt_of_le hlt (Nat.le_trans hlo2 hlo));have HBx:=hid (zAd HB.out hb);have HQx:=hid (HQ.out.below hb (Nat.le_refl _));have HZ4x:=hid (zAo hb HZ4.out);have HZ5x:=hid (zAo hb HZ5.out);have HSBx:=hid (HSBW.out.trans (hb.mono (by have:=HSBE.out;have:=HSBW.out.size;omega)));clear hb hbx hSx hRx hdx hrow hlo hhi hlo2 hlt HB HQ HZ4 HZ5 HSB HSBW h0 h1 h2 h3 h4 h5 h6 h7 h8 h9 h10;generalize hb0=rb at *;have x1:=(zAa HSX.out).1 1 _ rfl;have f1:=(zAa HSX.out).2 1;refine zAt (i:=11) (by kernel_rfl) rfl (fun K hK=> ?_);go_simp;refine hK.out _ _ ?_;clear hK;refine zAt (i:=12) (by kernel_rfl) rfl (fun K hK=> ?_);go_simp;refine hK.out _ _ ?_;clear hK;refine zAt (i:=13) (by kernel_rfl) rfl (fun K hK=> ?_);go_simp;refine hK.out _ _ ?_;clear hK x1 f1;have hset:=blk_setS (o:=1) HSX.out (.slice (some ⟨rb,0,none⟩) nn nn);have hrow:=zEo (g:=sb) (o:=1) (v:=.slice (some ⟨rb,0,none⟩) nn nn) (show rb≠sb by have:=HLT.out;omega) HRX.out
  have HSH:Hid (zDx (wx.setCell ⟨sb,1,none⟩ (.slice (some ⟨rb,0,none⟩) nn nn)) sb rb n (fun _=> cZero,false)):=hid (sheet_new (by rw [←HN2.out] at hset;rw [←HN2.out];exact hset) (by rw [←HN2.out] at hrow;rw [←HN2.out];exact hrow) (by have:=HLT.out;omega));have HB:=hid (HBx.out.setCell (p:=⟨sb,1,none⟩) (show w.heap.size≤sb by have:=HGW3.out;omega) (.slice (some ⟨rb,0,none⟩) nn nn));have HQ:=hid (HQ3.out.below (HSBx.out.setCell (p:=⟨sb,1,none⟩) (Nat.le_refl _) (.slice (some ⟨rb,0,none⟩) nn nn)) (by have:=HSBE.out;omega));have HZ4:=hid (zEo (g:=sb) (o:=1) (v:=.slice (some ⟨rb,0,none⟩) nn nn) (show w.heap.size≠sb by have:=HGW3.out;omega) HZ4x.out);have HZ5:=hid (zEo (g:=sb) (o:=1) (v:=.slice (some ⟨rb,0,none⟩) nn nn) (show w.heap.size+1≠sb by have:=HGW3.out;omega) HZ5x.out);have HSBb:=hid (HSBx.out.setCell (p:=⟨sb,1,none⟩) (Nat.le_refl _) (.slice (some ⟨rb,0,none⟩) nn nn));have HQS:=hid (show sb≤ (wx.setCell ⟨sb,1,none⟩ (.slice (some ⟨rb,0,none⟩) nn nn)).heap.size from Nat.le_of_lt HSH.out.lt.1);clear hset hrow HSX HRX HBx HQx HZ4x HZ5x HSBx;generalize wx.setCell ⟨sb,1,none⟩ (.slice (some ⟨rb,0,none⟩) nn nn)=w6 at *;refine wpAny_done (by kernel_rfl) ?_ _;go_wp2_with fail;obtain ⟨ie,hie,hi0,hi1,hi2⟩:=info_parts zFh;have HLB:=hid (show w6.heap.size=w6.heap.size from rfl)
  go_loopw [8] (fun i wr=> ∃k:Nat,k≤l.length∧i=.int .i64 k∧zDx wr sb rb n (matK l om k,false)∧Grown2 w6 wr sb rb∧∀ (i:Nat) (x:El),i < k→l[i]? =some x→(zBd l om (matK l om i) x).2=0) (fun i _=> l.length - (intOf i).toNat)
  case atStart=> exact ⟨0,Nat.zero_le _,rfl,HSH.out,Grown2.of_below (Below.refl _ _),fun i x hi=> absurd hi (Nat.not_lt_zero _)⟩
  case round=>
   obtain ⟨k,hk,rfl,hsh,hgr,hst⟩:=hrel;obtain ⟨wo,rfl⟩:∃wo:World,wo=wr:=⟨_,rfl⟩;have HSHO:=hid hsh;have HGR:=hid hgr;have HST:=hid hst;have HQO:=hid (HQ3.out.below ((HSBb.out.trans (hgr.below (Nat.le_refl _) (by have:=HLT.out;omega) HQS.out))) (by have:=HSBE.out;omega));obtain ⟨a0,d0,c0,c1,hsl⟩:=rn_at HQO.out;have HSL:=hid hsl;clear hsh hgr hst hsl c1
   by_cases hlt:k < l.length
   · obtain ⟨g1,o1,x,hidx,hg,hx,hcell⟩:=IsSl.atF Tryz.underlying26 hie hi1 ea_len HSL.out rfl hlt;have HX:=hid hx;have HXOK:=hid (HOK.out x (List.mem_of_getElem? hx));have HXK:=hid (HKK.out x (List.mem_of_getElem? hx));have HK1:=hid (show k+1≤l.length from hlt);clear hx hg;refine wp_gen2 ?_;intro QQ HQN HQR HQE;have e0:wo.cell? ⟨g1,o1,none⟩=some (.int .u8 x.kind):=hcell 0 _ rfl;have e1:wo.cell? ⟨g1,o1+1,none⟩=some (.string x.name):=hcell 1 _ rfl;have e2:wo.cell? ⟨g1,o1+2,none⟩=some (.string x.a):=hcell 2 _ rfl;have e3:wo.cell? ⟨g1,o1+3,none⟩=some (.string x.b):=hcell 3 _ rfl;have e4:wo.cell? ⟨g1,o1+4,none⟩=some (.string x.c):=hcell 4 _ rfl;have e5:wo.cell? ⟨g1,o1+5,none⟩=some (.string x.d):=hcell 5 _ rfl;have e6:wo.cell? ⟨g1,o1+6,none⟩=some (.float .f64 x.val):=hcell 6 _ rfl;have e7:wo.cell? ⟨g1,o1+7,none⟩=some (.int .i64 x.ph):=hcell 7 _ rfl;clear hcell;go_upto_region 12 with (go_at_call 96;refine (rstamp_any _ l om sb rb (matK l om k) x _ HQO.out (by rw [HNN.out];exact HSHO.out) HLE.out HXOK.out HXK.out HSZ.out (fun h=> has_br HX.out h)).mono ?_;rintro e we ⟨rfl,hnx,hgr⟩;rw [HNN.out] at hnx;have HNX:=hid hnx;have HG1:=hid (HGR.out.trans hgr);clear HSHO HGR HQO hnx hgr e0 e1 e2 e3 e4 e5 e6 e7 c0)
     by_cases he:(zBd l om (matK l om k) x).2=0
     · have HE:=hid he;have hne:((zBd l om (matK l om k) x).2 !=0)=false:=by rw [he];rfl
       clear he;have hll:=HLE.out;go_wp2_with fail
       (try simp only [Exit.inBlock,Exit.then])
       refine HQN _ _ ?_;go_wp2;go_roundw
       case rel=>
        refine ⟨k+1,HK1.out,?num,?brd,HG1.out,?all⟩
        case num=> go_num
        case brd=> rw [zDw HX.out];exact HNX.out HE.out
        case all=>
         intro i y hi hy
         by_cases e:i=k
         · subst e;obtain rfl:=Option.some.inj (hy.symm.trans HX.out);exact HE.out
         · exact HST.out i y (by omega) hy
       case measure=> simp [intOf];omega
     · have HE:=hid he;have hne:((zBd l om (matK l om k) x).2 !=0)=true:=by rw [bne_iff_ne];exact he
       clear he;have hz4:=HG1.out.heap (show w.heap.size≠sb by have:=HGW3.out;omega) (show w.heap.size≠rb by have:=HGW3.out;have:=HLT.out;omega) HZ4.out;have hz5:=HG1.out.heap (show w.heap.size+1≠sb by have:=HGW3.out;omega) (show w.heap.size+1≠rb by have:=HGW3.out;have:=HLT.out;omega) HZ5.out;have z40:=(zAa hz4).1 0 _ rfl;have z41:=(zAa hz4).1 1 _ rfl;have z42:=(zAa hz4).1 2 _ rfl;have y40:=(zAa hz4).2 0;have y41:=(zAa hz4).2 1;have y42:=(zAa hz4).2 2;have z50:=(zAa hz5).1 0 _ rfl;have z51:=(zAa hz5).1 1 _ rfl;have y50:=(zAa hz5).2 0;have y51:=(zAa hz5).2 1;have HBF:=hid (HB.out.trans (HG1.out.below (show w.heap.size≤sb by have:=HGW3.out;omega) (show w.heap.size≤rb by have:=HGW3.out;have:=HLT.out;omega) HB.out.size));clear hz4 hz5;go_wp2_with fail
       (try simp only [Exit.inBlock,Exit.then])
       refine HQR _ _ ?_;refine bodyPost_ret (v:=zEq ((zBd l om (matK l om k) x).2) k) ?_ rfl (zEr.bad (zDa HA.out HX.out HST.out HE.out) (by repeat (first | with_reducible exact HBF.out | with_reducible refine Below.setCell ?_ (by dsimp only;omega) _)));rw [zAh rfl];go_simp;(try rfl)
   · obtain rfl:k=l.length:=by omega
     go_upto_region 14 with fail;have HBF:=hid (HB.out.trans (HGR.out.below (show w.heap.size≤sb by have:=HGW3.out;omega) (show w.heap.size≤rb by have:=HGW3.out;have:=HLT.out;omega) HB.out.size));have HZ4e:=hid (HGR.out.heap (show w.heap.size≠sb by have:=HGW3.out;omega) (show w.heap.size≠rb by have:=HGW3.out;have:=HLT.out;omega) HZ4.out);have HZ5e:=hid (HGR.out.heap (show w.heap.size+1≠sb by have:=HGW3.out;omega) (show w.heap.size+1≠rb by have:=HGW3.out;have:=HLT.out;omega) HZ5.out);have HLW:=hid (show w.heap.size < wo.heap.size by have:=HSHO.out.lt.1;have:=HGW3.out;omega);obtain ⟨M,hM⟩:=HSHO.out
     have hM':SheetM wo sb rb n (matK l om l.length) false M:=hM;have HM:=hid hM';clear hM hM' HQO HSL c0 hlt;refine wp_region_any (by kernel_rfl) ?_;change wpAny _ _ _ _ _ _ _ (World.drew _);refine wpAny_makersSD [⟨some 71,0, []⟩,⟨some 72,1, []⟩,⟨some 73,2, []⟩,⟨some 74,3, []⟩,⟨some 75,4, []⟩,⟨some 76,5, []⟩,⟨some 77,6, []⟩,⟨some 78,7, []⟩,⟨some 79,8, []⟩,⟨some 80,9, []⟩,⟨some 81,10, []⟩,⟨some 82,11, []⟩,⟨some 83,12, []⟩,⟨some 84,13, []⟩,⟨none,14, []⟩] (fun u u'=> u.grownBy u' (some (w.heap.size))) (fun k u u'=> (k=14∧Set3 (w.heap.size) u u')∨(k≠14∧Below u.heap.size u u'))
      (fun w'=> SheetM w' sb rb n (matK l om l.length) false M∧(∃x0 x1 x2,w'.heap[w.heap.size]? =some (.cells #[x0,x1,x2] 99 (0,0)))∧w'.heap[w.heap.size+1]? =some FZr)
      (fun oq v _ ww lo hi=> (match oq with | 0=> v=.pointer (some ⟨sb,0,none⟩) | 1=> v=.pointer (some ⟨sb,0,none⟩) | 2=> v=.pointer (some ⟨sb,0,none⟩) | 3=> v=.int .i64 n | 4=> v=.pointer (some ⟨sb,0,none⟩) | 5=> v=.pointer (some ⟨sb,0,none⟩) | 6=> v=.pointer (some ⟨sb,0,none⟩) | 7=> v=.int .i64 n | 8=> v=.pointer (some ⟨sb,0,none⟩) | 9=> v=.pointer (some ⟨sb,0,none⟩) | 10=> v=.pointer (some ⟨sb,1,none⟩) | 11=> v=.slice (some ⟨rb,0,none⟩) (n * n) (n * n) | 12=> v=.agg #[.int .i64 n,.int .i64 n,.slice (some ⟨rb,0,none⟩) (n * n) (n * n)] | 13=> v=.agg #[.int .i64 0,.int .i64 0] | 14=> True | _=> True)∧(oq=14→ww.heap[w.heap.size]? =some (.cells #[.int .i64 n,.int .i64 n,.slice (some ⟨rb,0,none⟩) (n * n) (n * n)] 99 (0,0)))) (by kernel_rfl) ?hSe (fun _=> World.grownBy.refl _ _) (fun _ _ _ h1 h2=> zAf h1 h2) (fun _ _ h=> h.size) (fun _ _ _ h=> by rcases h with ⟨_,h⟩ | ⟨_,h⟩;exact h.grown;exact zAe h _) (fun k w1 w2 _ h hS=> by rcases h with ⟨_,h⟩ | ⟨_,h⟩;exact ⟨⟨hS.1.len,zAk h.grown (by have:=HGW3.out;omega) hS.1.box,zAk h.grown (by have:=HGW3.out;have:=HLT.out;omega) hS.1.row,hS.1.ne,hS.1.num⟩,h.three hS.2.1,zAk h.grown (by omega) hS.2.2⟩;exact ⟨hS.1.below h,⟨_,_,_,zAm h hS.2.1.choose_spec.choose_spec.choose_spec⟩,zAm h hS.2.2⟩) (fun k i hki v xs w1 w2 lo hi hlo hst hle h=> by rcases hst with ⟨rfl,hg⟩ | ⟨_,hb⟩;exact ⟨h.1,(fun e=> absurd e hki)⟩;exact ⟨h.1,fun e=> zAm hb (h.2 e)⟩) ?hope ?hende
     case hSe=> exact ⟨HM.out.below (Below.refl _ _).drew,⟨_,_,_,zAm (Below.refl _ _).drew HZ4e.out⟩,zAm (Below.refl _ _).drew HZ5e.out⟩
     case hope=>
      delta OwedS
      simp only [zBg,Act.put,List.setIfInBounds_toArray,lz,ls];refine Each.cons rfl ?_ (Each.cons rfl ?_ (Each.cons rfl ?_ (Each.cons rfl ?_ (Each.cons rfl ?_ (Each.cons rfl ?_ (Each.cons rfl ?_ (Each.cons rfl ?_ (Each.cons rfl ?_ (Each.cons rfl ?_ (Each.cons rfl ?_ (Each.cons rfl ?_ (Each.cons rfl ?_ (Each.cons rfl ?_ (Each.cons rfl ?_ Each.nil))))))))))))))
      all_goals intro vs w2 hb2 hS2 hR2 K hK;try simp only [lz,ls] at hK⊢
      · go_simp;exact shT hK (by decide) (by decide)
      · have h0:vs 0=_:=exR (hR2 0 (by kernel_rfl)) (fun _ _ h=> h.1);simp only [h0] at hK⊢;go_simp;exact shT hK (by decide) (by decide)
      · have h1:vs 1=_:=exR (hR2 1 (by kernel_rfl)) (fun _ _ h=> h.1);simp only [h1] at hK⊢;go_simp;exact shT hK (by decide) (by decide)
      · have h2:vs 2=_:=exR (hR2 2 (by kernel_rfl)) (fun _ _ h=> h.1);have k0:=hS2.1.c0;have k1:=hS2.1.c1;simp only [h2] at hK⊢;go_simp;exact shT hK (by decide) (by decide)
      · go_simp;exact shT hK (by decide) (by decide)
      · have h4:vs 4=_:=exR (hR2 4 (by kernel_rfl)) (fun _ _ h=> h.1);simp only [h4] at hK⊢;go_simp;exact shT hK (by decide) (by decide)
      · have h5:vs 5=_:=exR (hR2 5 (by kernel_rfl)) (fun _ _ h=> h.1);simp only [h5] at hK⊢;go_simp;exact shT hK (by decide) (by decide)
      · have h6:vs 6=_:=exR (hR2 6 (by kernel_rfl)) (fun _ _ h=> h.1);have k0:=hS2.1.c0;have k1:=hS2.1.c1;simp only [h6] at hK⊢;go_simp;exact shT hK (by decide) (by decide)
      · go_simp;exact shT hK (by decide) (by decide)
      · have h8:vs 8=_:=exR (hR2 8 (by kernel_rfl)) (fun _ _ h=> h.1);simp only [h8] at hK⊢;go_simp;exact shT hK (by decide) (by decide)
      · have h9:vs 9=_:=exR (hR2 9 (by kernel_rfl)) (fun _ _ h=> h.1);simp only [h9] at hK⊢;go_simp;exact shT hK (by decide) (by decide)
      · have h10:vs 10=_:=exR (hR2 10 (by kernel_rfl)) (fun _ _ h=> h.1);have k0:=hS2.1.c0;have k1:=hS2.1.c1;simp only [h10] at hK⊢;go_simp;exact shT hK (by decide) (by decide)
      · have h3:vs 3=_:=exR (hR2 3 (by kernel_rfl)) (fun _ _ h=> h.1);have h7:vs 7=_:=exR (hR2 7 (by kernel_rfl)) (fun _ _ h=> h.1);have h11:vs 11=_:=exR (hR2 11 (by kernel_rfl)) (fun _ _ h=> h.1);simp only [h3,h7,h11] at hK⊢;go_simp;exact shT hK (by decide) (by decide)
      · go_simp;exact shT hK (by decide) (by decide)
      · have h12:vs 12=_:=exR (hR2 12 (by kernel_rfl)) (fun _ _ h=> h.1)
        (try simp only at hK⊢)
        simp only [h12] at hK⊢;obtain ⟨x0,x1,x2,HZ⟩:=hS2.2.1;have z40:=(zAa HZ).1 0 _ rfl;have z41:=(zAa HZ).1 1 _ rfl;have z42:=(zAa HZ).1 2 _ rfl;have y40:=(zAa HZ).2 0;have y41:=(zAa HZ).2 1;have y42:=(zAa HZ).2 2;go_simp;exact hK.out undef _ (.inl ⟨by first | rfl | trivial,_,_,_,rfl⟩) ⟨trivial,fun _=> set3_new HZ _ _ _⟩
     case hende=>
      intro vs wx lo hiv hbx hSx hRx hdx;have h0:vs 0=_:=(hRx 0 (by kernel_rfl)).1.1;have h1:vs 1=_:=(hRx 1 (by kernel_rfl)).1.1;have h2:vs 2=_:=(hRx 2 (by kernel_rfl)).1.1;have h3:vs 3=_:=(hRx 3 (by kernel_rfl)).1.1;have h4:vs 4=_:=(hRx 4 (by kernel_rfl)).1.1;have h5:vs 5=_:=(hRx 5 (by kernel_rfl)).1.1;have h6:vs 6=_:=(hRx 6 (by kernel_rfl)).1.1;have h7:vs 7=_:=(hRx 7 (by kernel_rfl)).1.1;have h8:vs 8=_:=(hRx 8 (by kernel_rfl)).1.1;have h9:vs 9=_:=(hRx 9 (by kernel_rfl)).1.1;have h10:vs 10=_:=(hRx 10 (by kernel_rfl)).1.1;have h11:vs 11=_:=(hRx 11 (by kernel_rfl)).1.1;have h12:vs 12=_:=(hRx 12 (by kernel_rfl)).1.1;have h13:vs 13=_:=(hRx 13 (by kernel_rfl)).1.1;have Y14:=(hRx 14 (by kernel_rfl)).1.2 rfl;have Z14:=(hRx 14 (by kernel_rfl)).2;simp only [zBg,Act.put,List.setIfInBounds_toArray,lz,ls,h0,h1,h2,h3,h4,h5,h6,h7,h8,h9,h10,h11,h12,h13];have HGx:=hid (zEp hbx);have HBx:=hid (HBF.out.grown HGx.out HBF.out.size (fun k e=> by cases e;exact Nat.le_refl _));have HSx:=hid hSx.1;have HZ5x:=hid hSx.2.2;have HMZ:=hid Y14;clear hbx hSx hRx hdx Y14 Z14 HGx h0 h1 h2 h3 h4 h5 h6 h7 h8 h9 h10 h11 h12 h13 HBF HZ4e HZ5e;have z40:=(zAa HMZ.out).1 0 _ rfl;have z41:=(zAa HMZ.out).1 1 _ rfl;have z42:=(zAa HMZ.out).1 2 _ rfl;have z50:=(zAa HZ5x.out).1 0 _ rfl;have z51:=(zAa HZ5x.out).1 1 _ rfl;have y50:=(zAa HZ5x.out).2 0;have y51:=(zAa HZ5x.out).2 1;refine zAt (i:=15) (by kernel_rfl) rfl (fun K hK=> ?_);go_simp;refine hK.out _ _ ?_;clear hK;refine wpAny_done (by kernel_rfl) ?_ _;go_wp2_with fail
      (try simp only [Exit.inBlock,Exit.then])
      refine bodyPost_ret (v:=.tuple #[.agg #[.int .i64 n,.int .i64 n,.slice (some ⟨rb,0,none⟩) (n * n) (n * n)],.agg #[.int .i64 0,.int .i64 0]]) ?_ rfl ?_
      · rw [zAh rfl];go_simp;(try rfl)
      · rw [mat_done HA.out (fun i x hx=> HST.out i x (List.getElem?_eq_some_iff.1 hx).1 hx),HNN.out];obtain ⟨xs,h1,h2,h3⟩:=sheet_own (B:=w.heap.size+2) (s:=(matK l om l.length,false)) ⟨M,HSx.out⟩ (by have:=HGW3.out;have:=HLT.out;omega) (by rw [←HNN.out];exact HSZ.out);refine ⟨.slice (some ⟨rb,0,none⟩) (n * n) (n * n),xs,rfl,h2,?_,?_⟩
        · refine zBs (B':=w.heap.size+2) ?_ (by omega)
          repeat (first | with_reducible exact h3 | with_reducible refine ownsRow_setCell_below ?_ (by dsimp only;omega) _)
        · repeat (first | with_reducible exact HBx.out | with_reducible refine Below.setCell ?_ (by dsimp only;omega) _)
end
section
open Go.RowKit
theorem noRef_eq (q:Value):noRef q=zAw q:=by
 unfold noRef zAw
 split <;> simp_all
theorem rmx_any (q:Value) (l:List El) (om:Nat) (w:World) (hq:RN w q l) (hn:zAw q=false) (hg:NetG l):
 Calls Tryz.prog 52 #[q,.float .f64 om] w (zEr (matS false l om) w):=by
 by_cases ha:angE om=0
 · exact rmatrix_good q l om w hq hn ha hg.ok (fun x hx=> check_isK (hg.ck x hx)) (by have:=hg.len;omega) hg.sz
 · have h:=rmatrix_bad q l om w hq (.inr ha);rw [hn] at h;exact h
end
end Go.Proofs.YtejooaeppcjhjaaGreat
