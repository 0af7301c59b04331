/- a part of the proof of the last text -/
import Derived.Test.YtdepiggjneoopaaGreatDoorZMNegR
namespace Go.Proofs.YtdepiggjneoopaaGreatDoor
set_option linter.all false
set_option maxHeartbeats 4000000
set_option maxRecDepth 100000
section
open Go.RowKit
abbrev mk4 (a b c d:Cx):Value:=.agg #[mkC a,mkC b,mkC c,mkC d]
def takS (r c:Int) (xs:List Cx):Int:=if r≠2∨c≠2∨xs.length≠4 then 4 else if (xs.all fun z=> cfin (ck z))=true then 0 else 5
theorem bw (b:Bool):b=false∨b=true:=by cases b <;> simp
def fin4 (a b c d:Cx):Bool:=cfin (ck a) && cfin (ck b) && cfin (ck c) && cfin (ck d)
theorem fin4_ways (a b c d:Cx):(cfin (fc a.1,fc a.2)=false∨(cfin (fc a.1,fc a.2)=true∧(cfin (fc b.1,fc b.2)=false∨(cfin (fc b.1,fc b.2)=true∧(cfin (fc c.1,fc c.2)=false∨(cfin (fc c.1,fc c.2)=true∧(cfin (fc d.1,fc d.2)=false∨cfin (fc d.1,fc d.2)=true))))))):=by
 rcases bw (cfin (fc a.1,fc a.2)) with h | h
 · exact .inl h
 refine .inr ⟨h,?_⟩;rcases bw (cfin (fc b.1,fc b.2)) with h | h
 · exact .inl h
 refine .inr ⟨h,?_⟩;rcases bw (cfin (fc c.1,fc c.2)) with h | h
 · exact .inl h
 exact .inr ⟨h,bw _⟩
theorem zBm {w:World} {g o cp:Nat} {a b c d:Cx} (h:IsSl w 1 (.slice (some ⟨g,o,none⟩) 4 cp) 4 [mkC a,mkC b,mkC c,mkC d]):w.cell? ⟨g,o,none⟩=some (mkC a)∧w.cell? ⟨g,o+1,none⟩=some (mkC b)∧w.cell? ⟨g,o+2,none⟩=some (mkC c)∧w.cell? ⟨g,o+3,none⟩=some (mkC d):=by
 obtain ⟨_,h⟩:=h;rcases h with ⟨_,h⟩ | ⟨g',o',cp',hv,hc,_,hq⟩
 · exact absurd h (by decide)
 · cases hv;exact ⟨hq 0 (by decide),hq 1 (by decide),hq 2 (by decide),hq 3 (by decide)⟩
theorem below_f4 {B gt:Nat} {w u:World} {a0 a1 a2 a3:Value} (h:Below B w u) (hg:B≤gt):Below B w ((((u.setCell ⟨gt,0,none⟩ a0).setCell ⟨gt,1,none⟩ a1).setCell ⟨gt,2,none⟩ a2).setCell ⟨gt,3,none⟩ a3):=
 (((h.setCell (p:=⟨gt,0,none⟩) hg a0).setCell (p:=⟨gt,1,none⟩) hg a1).setCell (p:=⟨gt,2,none⟩) hg a2).setCell (p:=⟨gt,3,none⟩) hg a3
theorem two_blks (w:World) (o1 o2:Array Value) (t1 t2:TypeId):((w.alloc (.cells o1 t1)).alloc (.cells o2 t2)).heap[w.heap.size]? =some (.cells o1 t1 (0,0))∧((w.alloc (.cells o1 t1)).alloc (.cells o2 t2)).heap[w.heap.size+1]? =some (.cells o2 t2 (0,0))∧Below w.heap.size w ((w.alloc (.cells o1 t1)).alloc (.cells o2 t2)):=
 ⟨(heap_alloc_old _ _ (by simp)).trans (heap_alloc_new w _),by have h:=heap_alloc_new (w.alloc (.cells o1 t1)) (.cells o2 t2);simpa using h,((Below.refl _ w).alloc (Nat.le_refl _) _).alloc (by simp) _⟩
abbrev z4:Value:=.agg #[.complex .f64 0 0,.complex .f64 0 0,.complex .f64 0 0,.complex .f64 0 0]
def RetTk (r c:Int) (xs:List Cx) (w:World) (e:Ending) (w':World):Prop:=
 ∃x y z u:Cx,e=.returned (.tuple #[mk4 x y z u,.int .i64 (takS r c xs)])∧Below w.heap.size w w'∧(takS r c xs=0→xs= [x,y,z,u])
theorem RetTk.good {a b c d:Cx} {w w':World} (h:takS 2 2 [a,b,c,d]=0) (hb:Below w.heap.size w w'):RetTk 2 2 [a,b,c,d] w (.returned (.tuple #[mk4 a b c d,.int .i64 0])) w':=
 ⟨a,b,c,d,by rw [h],hb,fun _=> rfl⟩
theorem RetTk.bad {r c k:Int} {xs:List Cx} {w w':World} (h:takS r c xs=k) (hk:k≠0) (hb:Below w.heap.size w w'):RetTk r c xs w (.returned (.tuple #[z4,.int .i64 k])) w':=
 ⟨(0,0),(0,0),(0,0),(0,0),by rw [h],hb,fun h0=> absurd (h.symm.trans h0) hk⟩
theorem slice4 {w:World} {v:Value} {a b c d:Cx} (h:IsSl w 1 v 4 [mkC a,mkC b,mkC c,mkC d]):∃g o cp,v=.slice (some ⟨g,o,none⟩) 4 cp∧4≤cp∧w.cell? ⟨g,o,none⟩=some (mkC a)∧w.cell? ⟨g,o+1,none⟩=some (mkC b)∧w.cell? ⟨g,o+2,none⟩=some (mkC c)∧w.cell? ⟨g,o+3,none⟩=some (mkC d):=by
 obtain ⟨_,h⟩:=h;rcases h with ⟨_,h⟩ | ⟨g,o,cp,rfl,hc,_,hq⟩
 · exact absurd h (by decide)
 · exact ⟨g,o,cp,rfl,hc,hq 0 (by decide),hq 1 (by decide),hq 2 (by decide),hq 3 (by decide)⟩
theorem f4fin_any (a b c d:Cx) (w:World):
 Calls Tryz.prog 76 #[mk4 a b c d] w (fun e w'=> e=.returned (.bool (fin4 a b c d))∧Below w.heap.size w w'):=by
 have aI:=(Below.refl w.heap.size w).alloc (Nat.le_refl _) (.cells #[mkC a,mkC b,mkC c,mkC d] 82);have HS:=hid (heap_alloc_new w (.cells #[mkC a,mkC b,mkC c,mkC d] 82));have HB:=hid aI;clear aI;rcases fin4_ways a b c d with h1 | ⟨h1,h2 | ⟨h2,h3 | ⟨h3,h4 | h4⟩⟩⟩
 all_goals
  go_enter Tryz.func76,Tryz.ntmps76;go_upto_region 1 with fail;generalize w.alloc (.cells #[mkC a,mkC b,mkC c,mkC d] 82)=w1 at *;obtain ⟨gs,eH⟩:∃gs,w.heap.size=gs:=⟨_,rfl⟩;rw [eH] at HS⊢;have aE:=zAc HS.out;have s0:=aE.1 0 _ rfl;have s1:=aE.1 1 _ rfl;have s2:=aE.1 2 _ rfl;have s3:=aE.1 3 _ rfl;clear aE;go_wp2_with (go_at_call 41;refine (zBk _ _ _).mono ?_;rintro e w' ⟨_,n,rfl,rfl,rfl⟩);go_ret;exact ⟨by simp [fin4,ck, *],by first | exact HB.out.drewN _ | exact zAg (zAg (zAg (zAg HB.out _) _) _) _ | exact zAg (zAg (zAg HB.out _) _) _ | exact zAg (zAg HB.out _) _ | exact zAg HB.out _⟩
theorem taken_any (r c:Int) (v:Value) (xs:List Cx) (w:World) (hv:IsSl w 1 v xs.length (xs.map mkC)):
 Calls Tryz.prog 44 #[.agg #[.int .i64 r,.int .i64 c,v]] w (RetTk r c xs w):=by
 obtain ⟨av,cp,rfl⟩:=hv.form;obtain ⟨t1,t2,t3⟩:=two_blks w #[.int .i64 r,.int .i64 c,.slice av xs.length cp] #[.complex .f64 0 0,.complex .f64 0 0,.complex .f64 0 0,.complex .f64 0 0] 43 82;have HM:=hid t1;have HT:=hid t2;have HB:=hid t3;have HV:=hid (hv.below t3 (Nat.le_refl _));clear hv t1 t2 t3;have hways:(r≠2∧(r !=2)=true∧takS r c xs=4)∨(r=2∧(c !=2)=true∧takS r c xs=4)∨(r=2∧c=2∧((xs.length:Int) !=4)=true∧takS r c xs=4)∨(r=2∧c=2∧xs.length=4):=by
  unfold takS
  by_cases h1:r=2
  · by_cases h2:c=2
    · by_cases h3:xs.length=4
      · exact .inr (.inr (.inr ⟨h1,h2,h3⟩))
      · exact .inr (.inr (.inl ⟨h1,h2,by simp;omega,by rw [if_pos (.inr (.inr h3))]⟩))
    · exact .inr (.inl ⟨h1,by simpa using h2,by rw [if_pos (.inr (.inl h2))]⟩)
  · exact .inl ⟨h1,by simpa using h1,by rw [if_pos (.inl h1)]⟩
 rcases hways with ⟨_,q1,hs⟩ | ⟨rfl,q1,hs⟩ | ⟨rfl,rfl,q1,hs⟩ | ⟨rfl,rfl,h4⟩
 · have HS:=hid hs;clear hs;go_enter Tryz.func44,Tryz.ntmps44;go_upto_region 1 with fail;generalize (w.alloc (.cells #[.int .i64 r,.int .i64 c,.slice av xs.length cp] 43)).alloc (.cells #[.complex .f64 0 0,.complex .f64 0 0,.complex .f64 0 0,.complex .f64 0 0] 82)=w1 at *;obtain ⟨gm,jW⟩:∃gm,w.heap.size=gm:=⟨_,rfl⟩;obtain ⟨gt,eR⟩:∃gt,gm+1=gt:=⟨_,rfl⟩;have cK:=hid (show w.heap.size≤gt by omega);have fR:=hid (show gm≠gt by omega);rw [jW] at HM HT⊢;rw [eR] at HT⊢;clear jW eR;have aE:=zAc HM.out;have m0:=aE.1 0 _ rfl;have m1:=aE.1 1 _ rfl;have m2:=aE.1 2 _ rfl;have aE:=zAc HT.out;have t0:=aE.1 0 _ rfl;have t1:=aE.1 1 _ rfl;have t2:=aE.1 2 _ rfl;have t3:=aE.1 3 _ rfl;have f0:=aE.2 0;have f1:=aE.2 1;have f2:=aE.2 2;have f3:=aE.2 3;clear aE;go_wp2
   (try simp only [Exit.inBlock,Exit.then])
   (try rw [Exit.noGoto_ret])
   refine bodyPost_ret (v:=.tuple #[z4,.int .i64 4]) ?_ rfl (RetTk.bad HS.out (by decide) (below_f4 HB.out cK.out));rw [results_cell_tmp rfl];go_simp
 · have HS:=hid hs;clear hs;go_enter Tryz.func44,Tryz.ntmps44;go_upto_region 1 with fail;generalize (w.alloc (.cells #[.int .i64 2,.int .i64 c,.slice av xs.length cp] 43)).alloc (.cells #[.complex .f64 0 0,.complex .f64 0 0,.complex .f64 0 0,.complex .f64 0 0] 82)=w1 at *;obtain ⟨gm,jW⟩:∃gm,w.heap.size=gm:=⟨_,rfl⟩;obtain ⟨gt,eR⟩:∃gt,gm+1=gt:=⟨_,rfl⟩;have cK:=hid (show w.heap.size≤gt by omega);have fR:=hid (show gm≠gt by omega);rw [jW] at HM HT⊢;rw [eR] at HT⊢;clear jW eR;have aE:=zAc HM.out;have m0:=aE.1 0 _ rfl;have m1:=aE.1 1 _ rfl;have m2:=aE.1 2 _ rfl;have aE:=zAc HT.out;have t0:=aE.1 0 _ rfl;have t1:=aE.1 1 _ rfl;have t2:=aE.1 2 _ rfl;have t3:=aE.1 3 _ rfl;have f0:=aE.2 0;have f1:=aE.2 1;have f2:=aE.2 2;have f3:=aE.2 3;clear aE;go_wp2
   (try simp only [Exit.inBlock,Exit.then])
   (try rw [Exit.noGoto_ret])
   refine bodyPost_ret (v:=.tuple #[z4,.int .i64 4]) ?_ rfl (RetTk.bad HS.out (by decide) (below_f4 HB.out cK.out));rw [results_cell_tmp rfl];go_simp
 · have HS:=hid hs;clear hs;go_enter Tryz.func44,Tryz.ntmps44;go_upto_region 1 with fail;generalize (w.alloc (.cells #[.int .i64 2,.int .i64 2,.slice av xs.length cp] 43)).alloc (.cells #[.complex .f64 0 0,.complex .f64 0 0,.complex .f64 0 0,.complex .f64 0 0] 82)=w1 at *;obtain ⟨gm,jW⟩:∃gm,w.heap.size=gm:=⟨_,rfl⟩;obtain ⟨gt,eR⟩:∃gt,gm+1=gt:=⟨_,rfl⟩;have cK:=hid (show w.heap.size≤gt by omega);have fR:=hid (show gm≠gt by omega);rw [jW] at HM HT⊢;rw [eR] at HT⊢;clear jW eR;have aE:=zAc HM.out;have m0:=aE.1 0 _ rfl;have m1:=aE.1 1 _ rfl;have m2:=aE.1 2 _ rfl;have aE:=zAc HT.out;have t0:=aE.1 0 _ rfl;have t1:=aE.1 1 _ rfl;have t2:=aE.1 2 _ rfl;have t3:=aE.1 3 _ rfl;have f0:=aE.2 0;have f1:=aE.2 1;have f2:=aE.2 2;have f3:=aE.2 3;clear aE;go_wp2
   (try simp only [Exit.inBlock,Exit.then])
   (try rw [Exit.noGoto_ret])
   refine bodyPost_ret (v:=.tuple #[z4,.int .i64 4]) ?_ rfl (RetTk.bad HS.out (by decide) (below_f4 HB.out cK.out));rw [results_cell_tmp rfl];go_simp
 · obtain ⟨a,b,c,d,rfl⟩:∃a b c d:Cx,xs= [a,b,c,d]:=by
    match xs,h4 with
    | [a,b,c,d],_=> exact ⟨a,b,c,d,rfl⟩
   clear h4;have hC:=hid (show IsSl ((w.alloc (.cells #[.int .i64 2,.int .i64 2,.slice av 4 cp] 43)).alloc (.cells #[.complex .f64 0 0,.complex .f64 0 0,.complex .f64 0 0,.complex .f64 0 0] 82)) 1 (.slice av 4 cp) 4 [mkC a,mkC b,mkC c,mkC d] from HV.out);clear HV;obtain ⟨g,o,cp',iG,_,_⟩:=slice4 hC.out;cases iG;dsimp only [List.length_cons,List.length_nil] at HM HT HB⊢;go_enter Tryz.func44,Tryz.ntmps44;go_upto_region 1 with fail;generalize (w.alloc (.cells #[.int .i64 2,.int .i64 2,.slice (some ⟨g,o,none⟩) 4 cp] 43)).alloc (.cells #[.complex .f64 0 0,.complex .f64 0 0,.complex .f64 0 0,.complex .f64 0 0] 82)=w1 at *;obtain ⟨gm,jW⟩:∃gm,w.heap.size=gm:=⟨_,rfl⟩;obtain ⟨gt,eR⟩:∃gt,gm+1=gt:=⟨_,rfl⟩;have cK:=hid (show w.heap.size≤gt by omega);have fR:=hid (show gm≠gt by omega);rw [jW] at HM HT⊢;rw [eR] at HT⊢;clear jW eR;have aE:=zAc HM.out;have m0:=aE.1 0 _ rfl;have m1:=aE.1 1 _ rfl;have m2:=aE.1 2 _ rfl;have aE:=zAc HT.out;have t0:=aE.1 0 _ rfl;have t1:=aE.1 1 _ rfl;have t2:=aE.1 2 _ rfl;have t3:=aE.1 3 _ rfl;have f0:=aE.2 0;have f1:=aE.2 1;have f2:=aE.2 2;have f3:=aE.2 3;clear aE;clear t0 t1 t2 t3 f0 f1 f2 f3;go_upto_region 3 with fail;clear m0 m1 m2;refine wp_region_any (by kernel_rfl) ?_;change wpAny _ _ _ _ _ _ _ (World.drew _);refine zAx [⟨some 20,0, []⟩,⟨some 21,1, []⟩,⟨some 22,2, []⟩,⟨some 23,3, []⟩,⟨some 24,4, []⟩,⟨some 25,5, []⟩,⟨some 26,6, []⟩,⟨some 27,7, []⟩,⟨some 28,8, []⟩,⟨some 29,9, []⟩,⟨some 30,10, []⟩,⟨some 31,11, []⟩,⟨some 32,12, []⟩,⟨some 33,13, []⟩,⟨some 34,14, []⟩,⟨some 35,15, []⟩,⟨some 36,16, []⟩,⟨some 37,17, []⟩,⟨some 38,18, []⟩,⟨some 4,19, []⟩]
    (fun w'=> w'.heap[gm]? =some (.cells #[.int .i64 2,.int .i64 2,.slice (some ⟨g,o,none⟩) 4 cp] 43 (0,0))∧w'.heap[gt]? =some (.cells #[.complex .f64 0 0,.complex .f64 0 0,.complex .f64 0 0,.complex .f64 0 0] 82 (0,0))∧IsSl w' 1 (.slice (some ⟨g,o,none⟩) 4 cp) 4 [mkC a,mkC b,mkC c,mkC d])
    (fun oq v _ ww lo hi=> (match oq with | 0=> v=.pointer (some ⟨gm,2,none⟩) | 1=> v=.slice (some ⟨g,o,none⟩) 4 cp | 2=> v=.pointer (some ⟨g,o,none⟩) | 3=> v=mkC a | 4=> v=.pointer (some ⟨gm,2,none⟩) | 5=> v=.slice (some ⟨g,o,none⟩) 4 cp | 6=> v=.pointer (some ⟨g,o+1,none⟩) | 7=> v=mkC b | 8=> v=.agg #[mkC a,mkC b] | 9=> v=.pointer (some ⟨gm,2,none⟩) | 10=> v=.slice (some ⟨g,o,none⟩) 4 cp | 11=> v=.pointer (some ⟨g,o+2,none⟩) | 12=> v=mkC c | 13=> v=.pointer (some ⟨gm,2,none⟩) | 14=> v=.slice (some ⟨g,o,none⟩) 4 cp | 15=> v=.pointer (some ⟨g,o+3,none⟩) | 16=> v=mkC d | 17=> v=.agg #[mkC c,mkC d] | 18=> v=mk4 a b c d | 19=> True | _=> True)∧(oq=19→BlkD (.cells #[.complex .f64 0 0,.complex .f64 0 0,.complex .f64 0 0,.complex .f64 0 0] 82) v ww lo hi)) (by kernel_rfl) ?hSm (fun _ _ hb h=> ⟨zAi hb h.1,zAi hb h.2.1,h.2.2.below hb (Nat.le_refl _)⟩) (fun _ _ _ _ _ _ _ hb _ h=> ⟨h.1,fun e=> (h.2 e).later hb⟩) ?kW ?gK
   case hSm=> exact ⟨HM.out,HT.out,hC.out⟩
   case kW=>
    delta Owed
    simp only [zBb,Act.put,List.setIfInBounds_toArray,lz,ls];refine Each.cons rfl ?_ (Each.cons rfl ?_ (Each.cons rfl ?_ (Each.cons rfl ?_ (Each.cons rfl ?_ (Each.cons rfl ?_ (Each.cons rfl ?_ (Each.cons rfl ?_ (Each.cons rfl ?_ (Each.cons rfl ?_ (Each.cons rfl ?_ (Each.cons rfl ?_ (Each.cons rfl ?_ (Each.cons rfl ?_ (Each.cons rfl ?_ (Each.cons rfl ?_ (Each.cons rfl ?_ (Each.cons rfl ?_ (Each.cons rfl ?_ (Each.cons rfl ?_ Each.nil)))))))))))))))))))
    all_goals intro vs w2 aV hS2 hR2 K hK;try simp only [lz,ls] at hK⊢
    · go_simp;exact hK.out _ _ (Below.refl _ _) ⟨rfl,(fun e=> (by cases e))⟩
    · have h0:vs 0=_:=exR (hR2 0 (by kernel_rfl)) (fun _ _ h=> h.1);have k0:=(zAb hS2.1).1 2 _ rfl;obtain ⟨k1,k2,k3,k4⟩:=zBm hS2.2.2;simp only [h0] at hK⊢;go_simp;exact hK.out _ _ (Below.refl _ _) ⟨rfl,(fun e=> (by cases e))⟩
    · have h1:vs 1=_:=exR (hR2 1 (by kernel_rfl)) (fun _ _ h=> h.1);have k0:=(zAb hS2.1).1 2 _ rfl;obtain ⟨k1,k2,k3,k4⟩:=zBm hS2.2.2;simp only [h1] at hK⊢;go_simp;exact hK.out _ _ (Below.refl _ _) ⟨rfl,(fun e=> (by cases e))⟩
    · have h2:vs 2=_:=exR (hR2 2 (by kernel_rfl)) (fun _ _ h=> h.1);have k0:=(zAb hS2.1).1 2 _ rfl;obtain ⟨k1,k2,k3,k4⟩:=zBm hS2.2.2;simp only [h2] at hK⊢;go_simp;exact hK.out _ _ (Below.refl _ _) ⟨rfl,(fun e=> (by cases e))⟩
    · go_simp;exact hK.out _ _ (Below.refl _ _) ⟨rfl,(fun e=> (by cases e))⟩
    · have h4:vs 4=_:=exR (hR2 4 (by kernel_rfl)) (fun _ _ h=> h.1);have k0:=(zAb hS2.1).1 2 _ rfl;obtain ⟨k1,k2,k3,k4⟩:=zBm hS2.2.2;simp only [h4] at hK⊢;go_simp;exact hK.out _ _ (Below.refl _ _) ⟨rfl,(fun e=> (by cases e))⟩
    · have h5:vs 5=_:=exR (hR2 5 (by kernel_rfl)) (fun _ _ h=> h.1);have k0:=(zAb hS2.1).1 2 _ rfl;obtain ⟨k1,k2,k3,k4⟩:=zBm hS2.2.2;simp only [h5] at hK⊢;go_simp;exact hK.out _ _ (Below.refl _ _) ⟨rfl,(fun e=> (by cases e))⟩
    · have h6:vs 6=_:=exR (hR2 6 (by kernel_rfl)) (fun _ _ h=> h.1);have k0:=(zAb hS2.1).1 2 _ rfl;obtain ⟨k1,k2,k3,k4⟩:=zBm hS2.2.2;simp only [h6] at hK⊢;go_simp;exact hK.out _ _ (Below.refl _ _) ⟨rfl,(fun e=> (by cases e))⟩
    · have h3:vs 3=_:=exR (hR2 3 (by kernel_rfl)) (fun _ _ h=> h.1);have h7:vs 7=_:=exR (hR2 7 (by kernel_rfl)) (fun _ _ h=> h.1);simp only [h3,h7] at hK⊢;go_simp;exact hK.out _ _ (Below.refl _ _) ⟨rfl,(fun e=> (by cases e))⟩
    · go_simp;exact hK.out _ _ (Below.refl _ _) ⟨rfl,(fun e=> (by cases e))⟩
    · have h9:vs 9=_:=exR (hR2 9 (by kernel_rfl)) (fun _ _ h=> h.1);have k0:=(zAb hS2.1).1 2 _ rfl;obtain ⟨k1,k2,k3,k4⟩:=zBm hS2.2.2;simp only [h9] at hK⊢;go_simp;exact hK.out _ _ (Below.refl _ _) ⟨rfl,(fun e=> (by cases e))⟩
    · have bX:vs 10=_:=exR (hR2 10 (by kernel_rfl)) (fun _ _ h=> h.1);have k0:=(zAb hS2.1).1 2 _ rfl;obtain ⟨k1,k2,k3,k4⟩:=zBm hS2.2.2;simp only [bX] at hK⊢;go_simp;exact hK.out _ _ (Below.refl _ _) ⟨rfl,(fun e=> (by cases e))⟩
    · have bQ:vs 11=_:=exR (hR2 11 (by kernel_rfl)) (fun _ _ h=> h.1);have k0:=(zAb hS2.1).1 2 _ rfl;obtain ⟨k1,k2,k3,k4⟩:=zBm hS2.2.2;simp only [bQ] at hK⊢;go_simp;exact hK.out _ _ (Below.refl _ _) ⟨rfl,(fun e=> (by cases e))⟩
    · go_simp;exact hK.out _ _ (Below.refl _ _) ⟨rfl,(fun e=> (by cases e))⟩
    · have bV:vs 13=_:=exR (hR2 13 (by kernel_rfl)) (fun _ _ h=> h.1);have k0:=(zAb hS2.1).1 2 _ rfl;obtain ⟨k1,k2,k3,k4⟩:=zBm hS2.2.2;simp only [bV] at hK⊢;go_simp;exact hK.out _ _ (Below.refl _ _) ⟨rfl,(fun e=> (by cases e))⟩
    · have bZ:vs 14=_:=exR (hR2 14 (by kernel_rfl)) (fun _ _ h=> h.1);have k0:=(zAb hS2.1).1 2 _ rfl;obtain ⟨k1,k2,k3,k4⟩:=zBm hS2.2.2;simp only [bZ] at hK⊢;go_simp;exact hK.out _ _ (Below.refl _ _) ⟨rfl,(fun e=> (by cases e))⟩
    · have cM:vs 15=_:=exR (hR2 15 (by kernel_rfl)) (fun _ _ h=> h.1);have k0:=(zAb hS2.1).1 2 _ rfl;obtain ⟨k1,k2,k3,k4⟩:=zBm hS2.2.2;simp only [cM] at hK⊢;go_simp;exact hK.out _ _ (Below.refl _ _) ⟨rfl,(fun e=> (by cases e))⟩
    · have bW:vs 12=_:=exR (hR2 12 (by kernel_rfl)) (fun _ _ h=> h.1);have dR:vs 16=_:=exR (hR2 16 (by kernel_rfl)) (fun _ _ h=> h.1);simp only [bW,dR] at hK⊢;go_simp;exact hK.out _ _ (Below.refl _ _) ⟨rfl,(fun e=> (by cases e))⟩
    · have h8:vs 8=_:=exR (hR2 8 (by kernel_rfl)) (fun _ _ h=> h.1);have dQ:vs 17=_:=exR (hR2 17 (by kernel_rfl)) (fun _ _ h=> h.1);simp only [h8,dQ] at hK⊢;go_simp;exact hK.out _ _ (Below.refl _ _) ⟨rfl,(fun e=> (by cases e))⟩
    · go_simp;exact hK.out _ _ ((Below.refl _ _).alloc (Nat.le_refl _) _) ⟨trivial,fun _=> BlkD.new _ _⟩
   case gK=>
    intro vs wx lo iB bK hSx hRx dN;have h0:vs 0=_:=(hRx 0 (by kernel_rfl)).1.1;have h1:vs 1=_:=(hRx 1 (by kernel_rfl)).1.1;have h2:vs 2=_:=(hRx 2 (by kernel_rfl)).1.1;have h3:vs 3=_:=(hRx 3 (by kernel_rfl)).1.1;have h4:vs 4=_:=(hRx 4 (by kernel_rfl)).1.1;have h5:vs 5=_:=(hRx 5 (by kernel_rfl)).1.1;have h6:vs 6=_:=(hRx 6 (by kernel_rfl)).1.1;have h7:vs 7=_:=(hRx 7 (by kernel_rfl)).1.1;have h8:vs 8=_:=(hRx 8 (by kernel_rfl)).1.1;have h9:vs 9=_:=(hRx 9 (by kernel_rfl)).1.1;have bX:vs 10=_:=(hRx 10 (by kernel_rfl)).1.1;have bQ:vs 11=_:=(hRx 11 (by kernel_rfl)).1.1;have bW:vs 12=_:=(hRx 12 (by kernel_rfl)).1.1;have bV:vs 13=_:=(hRx 13 (by kernel_rfl)).1.1;have bZ:vs 14=_:=(hRx 14 (by kernel_rfl)).1.1;have cM:vs 15=_:=(hRx 15 (by kernel_rfl)).1.1;have dR:vs 16=_:=(hRx 16 (by kernel_rfl)).1.1;have dQ:vs 17=_:=(hRx 17 (by kernel_rfl)).1.1;have fQ:vs 18=_:=(hRx 18 (by kernel_rfl)).1.1;have Y19:=(hRx 19 (by kernel_rfl)).1.2 rfl;have Z19:=(hRx 19 (by kernel_rfl)).2;simp only [zBb,Act.put,List.setIfInBounds_toArray,lz,ls,h0,h1,h2,h3,h4,h5,h6,h7,h8,h9,bX,bQ,bW,bV,bZ,cM,dR,dQ,fQ];obtain ⟨g8,gS,lo8,hi8,hr8⟩:=Y19;have l8:w1.heap.size≤g8:=Nat.le_trans Z19.1 lo8;have hb:=zAt bK;have hbS:Below w1.heap.size w1 ((((wx.setCell ⟨g8,0,none⟩ (mkC a)).setCell ⟨g8,1,none⟩ (mkC b)).setCell ⟨g8,2,none⟩ (mkC c)).setCell ⟨g8,3,none⟩ (mkC d)):=below_f4 hb l8;have eO:=hid (zAi hbS HT.out);have aG:=hid (zAd HB.out hbS);have HS8:=hid (show ((((wx.setCell ⟨g8,0,none⟩ (mkC a)).setCell ⟨g8,1,none⟩ (mkC b)).setCell ⟨g8,2,none⟩ (mkC c)).setCell ⟨g8,3,none⟩ (mkC d)).heap[g8]? =some (.cells #[mkC a,mkC b,mkC c,mkC d] 82 (0,0)) from zAy (zAy (zAy (zAy hr8 _) _) _) _);have aB:=zAc hr8;have f0:=aB.2 0;have f1:=aB.2 1;have f2:=aB.2 2;have f3:=aB.2 3;have v0:=aB.1 0 _ rfl
    have v1:=aB.1 1 _ rfl;have v2:=aB.1 2 _ rfl;have v3:=aB.1 3 _ rfl;clear aB;simp only [fQ,gS];clear bK hSx hRx dN hr8 lo8 hi8 l8 hb hbS Z19 HT HB h0 h1 h2 h3 h4 h5 h6 h7 h8 h9 bX bQ bW bV bZ cM dR dQ fQ gS;refine zAr (i:=20) (by kernel_rfl) rfl (fun K hK=> ?_);go_simp;refine hK.out _ _ ?_;clear hK;refine wpAny_done (by kernel_rfl) ?_ _;clear f0 f1 f2 f3 v0 v1 v2 v3;generalize ((((wx.setCell ⟨g8,0,none⟩ (mkC a)).setCell ⟨g8,1,none⟩ (mkC b)).setCell ⟨g8,2,none⟩ (mkC c)).setCell ⟨g8,3,none⟩ (mkC d))=w2 at *;have aE:=zAc HS8.out;have s0:=aE.1 0 _ rfl;have s1:=aE.1 1 _ rfl;have s2:=aE.1 2 _ rfl;have s3:=aE.1 3 _ rfl;clear aE;cases gJ:fin4 a b c d
    · skip;have oW:=hid gJ;have HW:=hid (show takS 2 2 [a,b,c,d]=5 by unfold takS;rw [if_neg (by simp)];rw [if_neg];simpa [fin4,Bool.and_assoc] using gJ);clear gJ;go_upto_region 5 with (go_at_call 76;refine (f4fin_any a b c d _).mono ?_;rintro e w3 ⟨rfl,hb⟩;rw [oW.out];have aT:=hid (zAd aG.out hb);have jG:=hid (zAa hb eO.out);have oQ:=hid (zAa hb HS8.out);clear hb);clear s0 s1 s2 s3;have aE:=zAc oQ.out;have s0:=aE.1 0 _ rfl;have s1:=aE.1 1 _ rfl;have s2:=aE.1 2 _ rfl;have s3:=aE.1 3 _ rfl;have aE:=zAc jG.out;have t0:=aE.1 0 _ rfl;have t1:=aE.1 1 _ rfl;have t2:=aE.1 2 _ rfl;have t3:=aE.1 3 _ rfl;have f0:=aE.2 0;have f1:=aE.2 1;have f2:=aE.2 2;have f3:=aE.2 3;clear aE;go_wp2
      (try simp only [Exit.inBlock,Exit.then])
      (try rw [Exit.noGoto_ret])
      refine bodyPost_ret (v:=.tuple #[z4,.int .i64 5]) ?_ rfl (RetTk.bad HW.out (by decide) (below_f4 aT.out cK.out));rw [results_cell_tmp rfl];go_simp
    · skip;have oW:=hid gJ;have HW:=hid (show takS 2 2 [a,b,c,d]=0 by unfold takS;rw [if_neg (by simp)];rw [if_pos];simpa [fin4,Bool.and_assoc] using gJ);clear gJ;go_upto_region 6 with (go_at_call 76;refine (f4fin_any a b c d _).mono ?_;rintro e w3 ⟨rfl,hb⟩;rw [oW.out];have aT:=hid (zAd aG.out hb);have jG:=hid (zAa hb eO.out);have oQ:=hid (zAa hb HS8.out);clear hb);clear s0 s1 s2 s3;have aE:=zAc oQ.out;have s0:=aE.1 0 _ rfl;have s1:=aE.1 1 _ rfl;have s2:=aE.1 2 _ rfl;have s3:=aE.1 3 _ rfl;have aE:=zAc jG.out;have t0:=aE.1 0 _ rfl;have t1:=aE.1 1 _ rfl;have t2:=aE.1 2 _ rfl;have t3:=aE.1 3 _ rfl;have f0:=aE.2 0;have f1:=aE.2 1;have f2:=aE.2 2;have f3:=aE.2 3;clear aE;go_wp2
      (try simp only [Exit.inBlock,Exit.then])
      (try rw [Exit.noGoto_ret])
      refine bodyPost_ret (v:=.tuple #[mk4 a b c d,.int .i64 0]) ?_ rfl (RetTk.good HW.out (below_f4 aT.out cK.out));rw [results_cell_tmp rfl];go_simp
end
section
open Go.RowKit
def RetM2 (S:(Nat × List Cx) × Int) (w:World) (e:Ending) (w':World):Prop:=
 ∃ (v:Value) (xs:List Cx),e=.returned (.tuple #[.agg #[.int .i64 S.1.1,.int .i64 S.1.1,v],.int .i64 S.2])∧xs.map ck=S.1.2∧w'.ownsRow w.heap.size 48 1 v xs.length (xs.map mkC)∧Below w.heap.size w w'
theorem RetM2.bad {S:(Nat × List Cx) × Int} {k:Int} {w w':World} (h:S=((0, []),k)) (hb:Below w.heap.size w w'):RetM2 S w (.returned (.tuple #[.agg #[.int .i64 0,.int .i64 0,.slice none 0 0],.int .i64 k])) w':=
 ⟨_, [],by rw [h];rfl,by rw [h];rfl,World.ownsRow_nil _ _ _ _,hb⟩
theorem cells4_own {w w':World} {q:Nat} {a b c d:Cx} (hq:w.heap.size≤q) (h:w'.heap[q]? =some (.cells #[mkC a,mkC b,mkC c,mkC d] 48 (0,0))):w'.ownsRow w.heap.size 48 1 (.slice (some ⟨q,0,none⟩) 4 4) 4 ([a,b,c,d].map mkC):=by
 exact ⟨rfl,.inr ⟨q,4,#[mkC a,mkC b,mkC c,mkC d],rfl,hq,h,Nat.le_refl _,by decide,rfl,rfl⟩⟩
theorem below_m3 {B gt:Nat} {w u:World} {a0 a1 a2:Value} (h:Below B w u) (hg:B≤gt):Below B w (((u.setCell ⟨gt,0,none⟩ a0).setCell ⟨gt,1,none⟩ a1).setCell ⟨gt,2,none⟩ a2):=
 ((h.setCell (p:=⟨gt,0,none⟩) hg a0).setCell (p:=⟨gt,1,none⟩) hg a1).setCell (p:=⟨gt,2,none⟩) hg a2
theorem grown_m3 (u:World) (gt:Nat) (a0 a1 a2:Value):u.grownBy (((u.setCell ⟨gt,0,none⟩ a0).setCell ⟨gt,1,none⟩ a1).setCell ⟨gt,2,none⟩ a2) (some gt):=
 zAf (zAf (zAn u gt 0 _) (zAn _ gt 1 _)) (zAn _ gt 2 _)
theorem results_cell1Q {fn:Func} {p:Tmp} {ty:TypeId} (h:fn.results=#[.cell p ty]) (tmps:Array Value) (P:Program) (w:World):
 (results fn tmps).run P w=((asAddr (tmps.getD p undef)).run P w).andThen fun a w₁=> (loadVar ty a).run P w₁:=by
 simp only [results,h]
 simp [Sem.run_bind,Result.andThen]
def tw (R:Nat):Nat:=fmul 4611686018427387904 R
def sP (A:Cx) (R:Nat):Cx:=cadd A (R,0)
def sM (A:Cx) (R:Nat):Cx:=csub A (R,0)
def sD (A B C D:Cx) (R:Nat):Cx:=csub (cmul (sP A R) (sP D R)) (cmul B C)
def o1 (A B C D:Cx) (R:Nat):Cx:=cdiv (csub (cmul (sM A R) (sP D R)) (cmul B C)) (sD A B C D R)
def o2 (A B C D:Cx) (R:Nat) (Z:Cx):Cx:=cdiv (cscale (tw R) Z) (sD A B C D R)
def o4 (A B C D:Cx) (R:Nat):Cx:=cdiv (csub (cmul (sP A R) (sM D R)) (cmul B C)) (sD A B C D R)
theorem f4list_any (a b c d:Cx) (w:World):
 Calls Tryz.prog 42 #[mk4 a b c d] w (fun e w'=> ∃q,e=.returned (.agg #[.int .i64 2,.int .i64 2,.slice (some ⟨q,0,none⟩) 4 4])∧w.heap.size≤q∧w'.heap[q]? =some (.cells #[mkC a,mkC b,mkC c,mkC d] 48 (0,0))∧Below w.heap.size w w'):=by
 obtain ⟨t1,t2,t3⟩:=two_blks w #[mkC a,mkC b,mkC c,mkC d] #[.int .i64 0,.int .i64 0,.slice none 0 0] 82 43;have HS:=hid t1;have HT:=hid t2;have HB:=hid t3;clear t1 t2 t3;go_enter Tryz.func42,Tryz.ntmps42;go_upto_region 1 with fail;generalize (w.alloc (.cells #[mkC a,mkC b,mkC c,mkC d] 82)).alloc (.cells #[.int .i64 0,.int .i64 0,.slice none 0 0] 43)=w1 at *;obtain ⟨gs,eH⟩:∃gs,w.heap.size=gs:=⟨_,rfl⟩;obtain ⟨gt,eR⟩:∃gt,gs+1=gt:=⟨_,rfl⟩;have cK:=hid (show w.heap.size≤gt by omega);rw [eH] at HS HT⊢;rw [eR] at HT⊢;clear eH eR;have aE:=zAc HS.out;have s0:=aE.1 0 _ rfl;have s1:=aE.1 1 _ rfl;have s2:=aE.1 2 _ rfl;have s3:=aE.1 3 _ rfl;have aE:=zAc HT.out;have t0:=aE.1 0 _ rfl;have t1:=aE.1 1 _ rfl;have t2:=aE.1 2 _ rfl;have f0:=aE.2 0;have f1:=aE.2 1;have f2:=aE.2 2;clear aE;have aE:=zAc (zCg (o':=(.cells #[mkC a,mkC b,mkC c,mkC d] 48)) HT.out);have n0:=aE.1 0 _ rfl;have n1:=aE.1 1 _ rfl;have n2:=aE.1 2 _ rfl;have m0:=aE.2 0;have m1:=aE.2 1;have m2:=aE.2 2;clear aE t0 t1 t2 f0 f1 f2;have fR:=hid (show w1.heap.size≠gt from fun e=> by have:=(Array.getElem?_eq_some_iff.1 HT.out).1;omega);have HLQ:=hid (show w.heap.size≤w1.heap.size from HB.out.size);have HQ:=hid (heap_alloc_new w1 (.cells #[mkC a,mkC b,mkC c,mkC d] 48));have kC:=hid (HB.out.alloc HB.out.size (.cells #[mkC a,mkC b,mkC c,mkC d] 48));go_wp2
 (try simp only [Exit.inBlock,Exit.then])
 (try rw [Exit.noGoto_ret])
 refine bodyPost_ret (v:=.agg #[.int .i64 2,.int .i64 2,.slice (some ⟨w1.heap.size,0,none⟩) 4 4]) ?_ rfl ⟨_,rfl,HLQ.out,zAj (grown_m3 _ gt _ _ _) fR.out HQ.out,below_m3 kC.out cK.out⟩;rw [results_cell1Q rfl];go_simp
end
section
open Go.RowKit
theorem RetSolP.no {om k m:Nat} {S:Option (Nat→Cx) × (Int × Int)} {w w':World} {e:Ending} (h:RetSolP om k m S w e w') (hs:S.1=none):e=.returned (.tuple #[.agg #[.float .f64 0,.slice none 0 0,.slice none 0 0],.agg #[.int .i64 S.2.1,.int .i64 S.2.2]])∧Below w.heap.size w w':=by
 rcases h.2 with ⟨_,h2⟩ | ⟨x,_,_,h2,_⟩
 · exact ⟨h2,h.1⟩
 · rw [h2] at hs;cases hs
theorem RetSolP.yes {om k m:Nat} {S:Option (Nat→Cx) × (Int × Int)} {x:Nat→Cx} {w w':World} {e:Ending} (h:RetSolP om k m S w e w') (hs:S.1=some x):∃q1 q2,e=.returned (.tuple #[.agg #[.float .f64 om,.slice (some ⟨q1,0,none⟩) k k,.slice (some ⟨q2,0,none⟩) m m],.agg #[.int .i64 0,.int .i64 0]])∧S.2=(0,0)∧w.heap.size≤q1∧w.heap.size≤q2∧q1≠q2∧VecR w' q1 k x∧VecR w' q2 m (fun i=> x (k+i))∧Below w.heap.size w w':=by
 rcases h.2 with ⟨h2,_⟩ | ⟨y,q1,q2,h2,h3,h4,h5,h6,h7,h8⟩
 · rw [hs] at h2;cases h2
 · rw [h2] at hs;obtain rfl:=Option.some.inj hs;exact ⟨q1,q2,h3,by rw [h2],h4,h5,h6,h7,h8,h.1⟩
end
end Go.Proofs.YtdepiggjneoopaaGreatDoor
