/- a part of the proof of the last text -/
import Derived.Test.YtejooaeppcjhjaaGreatZMOf15T
import Derived.ProofKit
import Derived.OpenShut
import Derived.ShutString
import Derived.ChangeOld
import Derived.Below
import Derived.Lib.SmallJoins
import Derived.SizedLaws
import Derived.Deep.Slices
namespace Go.Proofs.YtejooaeppcjhjaaGreat
set_option linter.all false
set_option maxHeartbeats 4000000
set_option maxRecDepth 100000
section
open Go.RowKit
theorem infoEr:(Tryz.prog.info? 28).map (fun i=> (i.zero,i.size,i.bytes))=some (some (.slice none 0 0),1,24):=by kernel_rfl
structure ERows (w:World) (v0:Value) (m:Nat) (V:Nat→Value) (L:Nat→List El):Prop where
 list:InSl w 1 v0 m ((List.range m).map V)
 rows:∀j,j < m→InSl w 8 (V j) (L j).length ((L j).flatMap ez)
theorem ERows.below {w w':World} {v0:Value} {m:Nat} {V:Nat→Value} {L:Nat→List El} (h:ERows w v0 m V L) (hb:Below w.heap.size w w'):ERows w' v0 m V L:=
 ⟨h.list.below hb (Nat.le_refl _),fun j hj=> (h.rows j hj).below hb (Nat.le_refl _)⟩
def netE (L:Nat→List El) (j:Nat):List El:=if (ofL (L j)).1=true then L j else []
theorem netg_nil:NetG []:=⟨by decide,fun x hx=> (by cases hx),fun x hx=> (by cases hx),rfl,by decide⟩
theorem netg_e {L:Nat→List El} {j:Nat} (hok:∀e∈L j,e.Ok):NetG (netE L j):=by
 unfold netE
 split
 · rename_i h;exact netg_of h hok
 · exact netg_nil
theorem uniq_e (L:Nat→List El) (j:Nat):Uniq (netE L j):=by
 unfold netE
 split
 · rename_i h;exact uniq_of h
 · intro k x hx;cases hx
theorem net_of {R:World→Value→List El→Prop} {w:World} {p:Value} {L:Nat→List El} {j:Nat} (h:((ofL (L j)).1=false∧p=.pointer none)∨((ofL (L j)).1=true∧p≠ .pointer none∧R w p (L j)))
 (h0:R w (.pointer none) []) (hR:∀ {p l},R w p l→∃pa,p=.pointer pa):∃pa,p=.pointer pa∧R w p (netE L j)∧zAw p=!(ofL (L j)).1:=by
 rcases h with ⟨h1,rfl⟩ | ⟨h1,h2,h3⟩
 · refine ⟨none,rfl,?_,by rw [h1];rfl⟩;unfold netE;rw [if_neg (by rw [h1];decide)];exact h0
 · obtain ⟨pa,rfl⟩:=hR h3;refine ⟨pa,rfl,?_,?_⟩
   · unfold netE;rw [if_pos h1];exact h3
   · rw [h1];cases pa with
     | none=> exact absurd rfl h2
     | some a=> rfl
theorem nn_ptr {w:World} {p:Value} {l:List El} (h:NN w p l):∃pa,p=.pointer pa:=by
 rcases h with ⟨h,_⟩ | ⟨_,_,_,_,_,_,_,_,h,_⟩
 · exact ⟨_,h⟩
 · exact ⟨_,h⟩
theorem rn_ptr {w:World} {p:Value} {l:List El} (h:RNt w p l):∃pa,p=.pointer pa:=by
 rcases h.1 with ⟨h,_⟩ | ⟨_,_,h,_⟩
 · exact ⟨_,h⟩
 · exact ⟨_,h⟩
structure Nets2 (B:Nat) (w:World) (L:Nat→List El) (k9 k10:Nat) (v9 v10:Value) (ps qs:List Value):Prop where
 o9:w.ownsRow B 29 1 v9 k9 ps
 o10:w.ownsRow B 35 1 v10 k10 qs
 n9:∀j p,ps[j]? =some p→NN w p (netE L j)∧zAw p=!(ofL (L j)).1
 n10:∀j q,qs[j]? =some q→RNt w q (netE L j)∧zAw q=!(ofL (L j)).1
theorem Nets2.below {B k9 k10:Nat} {w w':World} {L:Nat→List El} {v9 v10:Value} {ps qs:List Value} (h:Nets2 B w L k9 k10 v9 v10 ps qs) (hb:Below w.heap.size w w'):Nets2 B w' L k9 k10 v9 v10 ps qs:=
 ⟨zBa h.o9 (zAe hb none),zBa h.o10 (zAe hb none),fun j p hp=> ⟨(h.n9 j p hp).1.below' hb,(h.n9 j p hp).2⟩,fun j q hq=> ⟨(h.n10 j q hq).1.below' hb,(h.n10 j q hq).2⟩⟩
theorem Nets2.l9 {B k9 k10:Nat} {w:World} {L:Nat→List El} {v9 v10:Value} {ps qs:List Value} (h:Nets2 B w L k9 k10 v9 v10 ps qs):ps.length=k9:=by have:=h.o9.1;omega
theorem Nets2.l10 {B k9 k10:Nat} {w:World} {L:Nat→List El} {v9 v10:Value} {ps qs:List Value} (h:Nets2 B w L k9 k10 v9 v10 ps qs):qs.length=k10:=by have:=h.o10.1;omega
theorem snoc_at {α:Type} {l:List α} {p x:α} {j k:Nat} (hl:l.length=k) (h:(l++ [p])[j]? =some x):(j < k∧l[j]? =some x)∨(j=k∧x=p):=by
 subst hl
 by_cases hj:j < l.length
 · rw [List.getElem?_append_left hj] at h;exact .inl ⟨hj,h⟩
 · rw [List.getElem?_append_right (by omega)] at h;have:j - l.length=0:=by
    have:=(List.getElem?_eq_some_iff.1 h).1
    simp at this;omega
   rw [this] at h;exact .inr ⟨by omega,(Option.some.inj h).symm⟩
theorem Nets2.push9 {B k k10 g1:Nat} {w2 w3:World} {L:Nat→List El} {v9 v10 v9' p:Value} {ps qs:List Value} (h:Nets2 B w2 L k k10 v9 v10 ps qs) (own:w3.ownsRow B 29 1 v9' (k+1) (ps++ [p]))
 (two:(v9.ownBlock=some g1∧w2.grownBy w3 (some g1))∨(w2.heap.size≤g1∧w2.grownBy w3 none)) (hp:NN w2 p (netE L k)) (hpn:zAw p=!(ofL (L k)).1):Nets2 B w3 L (k+1) k10 v9' v10 (ps++ [p]) qs:=by
 have hl:=h.l9;rcases two with ⟨e,hg⟩ | ⟨_,hg⟩
 · obtain ⟨_,c,hc⟩:=zAx h.o9 e;refine ⟨own,zAz h.o10 hg (fun r e1 e2=> by obtain rfl:=Option.some.inj e2;obtain ⟨_,c2,hc2⟩:=zAx h.o10 e1;exact zAv hc hc2 (by decide) rfl),fun j x hx=> ?_,fun j q hq=> ⟨(h.n10 j q hq).1.typ hc hg (by decide) (by decide),(h.n10 j q hq).2⟩⟩;rcases snoc_at hl hx with ⟨_,h2⟩ | ⟨rfl,rfl⟩
   · exact ⟨(h.n9 j x h2).1.typ hc hg (by decide) (by decide) (by decide),(h.n9 j x h2).2⟩
   · exact ⟨hp.typ hc hg (by decide) (by decide) (by decide),hpn⟩
 · have hb:=zCz hg;refine ⟨own,zBa h.o10 hg,fun j x hx=> ?_,fun j q hq=> ⟨(h.n10 j q hq).1.below' hb,(h.n10 j q hq).2⟩⟩;rcases snoc_at hl hx with ⟨_,h2⟩ | ⟨rfl,rfl⟩
   · exact ⟨(h.n9 j x h2).1.below' hb,(h.n9 j x h2).2⟩
   · exact ⟨hp.below' hb,hpn⟩
theorem Nets2.push10 {B k9 k g1:Nat} {w2 w3:World} {L:Nat→List El} {v9 v10 v10' q:Value} {ps qs:List Value} (h:Nets2 B w2 L k9 k v9 v10 ps qs) (own:w3.ownsRow B 35 1 v10' (k+1) (qs++ [q]))
 (two:(v10.ownBlock=some g1∧w2.grownBy w3 (some g1))∨(w2.heap.size≤g1∧w2.grownBy w3 none)) (hq:RNt w2 q (netE L k)) (hqn:zAw q=!(ofL (L k)).1):Nets2 B w3 L k9 (k+1) v9 v10' ps (qs++ [q]):=by
 have hl:=h.l10;rcases two with ⟨e,hg⟩ | ⟨_,hg⟩
 · obtain ⟨_,c,hc⟩:=zAx h.o10 e;refine ⟨zAz h.o9 hg (fun r e1 e2=> by obtain rfl:=Option.some.inj e2;obtain ⟨_,c2,hc2⟩:=zAx h.o9 e1;exact zAv hc hc2 (by decide) rfl),own,fun j p hp=> ⟨(h.n9 j p hp).1.typ hc hg (by decide) (by decide) (by decide),(h.n9 j p hp).2⟩,fun j x hx=> ?_⟩;rcases snoc_at hl hx with ⟨_,h2⟩ | ⟨rfl,rfl⟩
   · exact ⟨(h.n10 j x h2).1.typ hc hg (by decide) (by decide),(h.n10 j x h2).2⟩
   · exact ⟨hq.typ hc hg (by decide) (by decide),hqn⟩
 · have hb:=zCz hg;refine ⟨zBa h.o9 hg,own,fun j p hp=> ⟨(h.n9 j p hp).1.below' hb,(h.n9 j p hp).2⟩,fun j x hx=> ?_⟩;rcases snoc_at hl hx with ⟨_,h2⟩ | ⟨rfl,rfl⟩
   · exact ⟨(h.n10 j x h2).1.below' hb,(h.n10 j x h2).2⟩
   · exact ⟨hq.below' hb,hqn⟩
theorem Nets2.nets {B k k':Nat} {w:World} {L:Nat→List El} {v9 v10:Value} {ps qs:List Value} (h:Nets2 B w L k k' v9 v10 ps qs) (hok:∀j,j < k→∀e∈L j,e.Ok):NetsAt w v9 ps ((List.range k).map (netE L)):=by
 have hl:=h.l9;refine ⟨by rw [hl];exact IsSl.of_own h.o9,by simp [hl],fun i p l hp hlx=> ?_⟩;have hi:i < k:=by rw [←hl];exact (List.getElem?_eq_some_iff.1 hp).1
 rw [List.getElem?_map,List.getElem?_range hi] at hlx;obtain rfl:=Option.some.inj hlx;exact ⟨(h.n9 i p hp).1,netg_e (hok i hi)⟩
theorem Nets2.rnets {B k k':Nat} {w:World} {L:Nat→List El} {v9 v10:Value} {ps qs:List Value} (h:Nets2 B w L k' k v9 v10 ps qs) (hok:∀j,j < k→∀e∈L j,e.Ok):RNetsAt w v10 qs ((List.range k).map (netE L)):=by
 have hl:=h.l10;refine ⟨by rw [hl];exact IsSl.of_own h.o10,by simp [hl],fun i p l hp hlx=> ?_⟩;have hi:i < k:=by rw [←hl];exact (List.getElem?_eq_some_iff.1 hp).1
 rw [List.getElem?_map,List.getElem?_range hi] at hlx;obtain rfl:=Option.some.inj hlx;exact ⟨(h.n10 i p hp).1.1,netg_e (hok i hi),uniq_e L i⟩
theorem Nets2.same {B k:Nat} {w:World} {L:Nat→List El} {v9 v10:Value} {ps qs:List Value} (h:Nets2 B w L k k v9 v10 ps qs):qs.map zAw=ps.map zAw:=by
 apply List.ext_getElem
 · simp [h.l9,h.l10]
 · intro i h1 h2;have i1:i < qs.length:=by simpa using h1
   have i2:i < ps.length:=by simpa using h2
   rw [List.getElem_map,List.getElem_map,(h.n10 i _ (List.getElem?_eq_getElem i1)).2,(h.n9 i _ (List.getElem?_eq_getElem i2)).2]
theorem heard_walk (v0:Value) (m:Nat) (V:Nat→Value) (L:Nat→List El) (om:Nat) (t:ByteArray) (at_:Int) (w:World) (hR:ERows w v0 m V L) (hm:m * 24≤140737488351232) (hn:∀j,j < m→(L j).length * 104≤140737488351232) (hok:∀j,j < m→∀e∈L j,e.Ok) (ht:t.size≤maxLen):
 Calls Tryz.prog 3 #[v0,.int .u64 om,.string t,.int .i64 at_] w fun e w'=> e=.returned (.bool true)∧Below w.heap.size w w':=by
 obtain ⟨a0,c0,rfl⟩:=hR.list.form;obtain ⟨iE,hiE,hE0,hE1,hE2⟩:=info_parts infoEr;obtain ⟨iN,hiN,hN0,hN1,hN2⟩:=info_parts infoNp;obtain ⟨iR,hiR,hR0,hR1,hR2⟩:=info_parts infoRp;have HR:=hid hR;have HN:=hid hn;have HOK:=hid hok;have HT:=hid ht;have hfb:=zDi;clear hR hn hok ht;go_enter Tryz.func3,Tryz.ntmps3;go_wp2_with fail
 go_loopw [9,10,11] (fun t9 t10 i wr=> ∃ (k:Nat) (ps qs:List Value),k≤m∧k≤66∧i=.int .i64 k∧Nets2 w.heap.size wr L k k t9 t10 ps qs∧Below w.heap.size w wr) (fun _ _ i _=> m - (intOf i).toNat)
 case atStart=> exact ⟨0, [], [],Nat.zero_le _,Nat.zero_le _,rfl,⟨World.ownsRow_nil _ _ _ _,World.ownsRow_nil _ _ _ _,fun j p hp=> (by simp at hp),fun j p hp=> (by simp at hp)⟩,Below.refl _ _⟩
 case round=>
  obtain ⟨k,ps,qs,hk,hk66,rfl,hns,hb⟩:=hrel;obtain ⟨wo,rfl⟩:∃wo:World,wo=wr:=⟨_,rfl⟩;obtain ⟨a9,c9,rfl⟩:=(IsSl.of_own hns.o9).form;obtain ⟨a10,c10,rfl⟩:=(IsSl.of_own hns.o10).form;have HNS:=hid hns;have HB:=hid hb;clear hns hb
  by_cases hlt:k < m
  · by_cases h66:k < 66
    · obtain ⟨ak,ck,hVk⟩:=(HR.out.rows k hlt).form;have hR1:=HR.out.below HB.out;obtain ⟨g0,o0,hidx0,hg0,hcell0,hob0⟩:=hR1.list.atV Tryz.underlying22 hiE hE1 hlt hVk;have hrow:=hR1.rows k hlt;rw [hVk] at hrow;have HRW:=hid hrow;have HLK:=hid (HN.out k hlt);have HOKK:=hid (HOK.out k hlt);obtain ⟨f0,fa,fb,hfab⟩:∃f0 fa fb,ofL (L k)=(f0,fa,fb):=⟨_,_,_,rfl⟩;have HFAB:=hid hfab;clear hob0 hVk hR1 hrow hfab hg0;go_upto_region 7 with (go_at_call 5;refine (elements_any _ (L k) _ HRW.out HLK.out).mono ?_;rintro e w1 ⟨v1,xs1,rfl,hown1,rfl,hb1⟩;obtain ⟨a1,c1,rfl⟩:=(IsSl.of_own hown1).form;have HS1:=hid (IsSl.of_own hown1);have HNS1:=hid (HNS.out.below hb1);have HB1:=hid (zBb HB.out hb1);clear hown1 hb1);clear hidx0 hcell0 HNS HB;go_upto_region 8 with (go_at_call 6;refine (nof_any _ (L k) _ HS1.out HOKK.out (by have:=HLK.out;omega)).mono ?_;rintro e w2 ⟨p,rfl,hp,hb2⟩;obtain ⟨pa,rfl,hp1,hp2⟩:=net_of hp (.inl ⟨rfl,rfl⟩) nn_ptr;rw [HFAB.out];(try dsimp only);have HP:=hid hp1;have HPN:=hid hp2;have HS2:=hid (HS1.out.below hb2 (Nat.le_refl _));have HNS2:=hid (HNS1.out.below hb2);have HB2:=hid (zBb HB1.out hb2);clear hp hp1 hp2 hb2);clear HS1 HNS1 HB1;have hb3:=(Below.refl w2.heap.size w2).alloc (Nat.le_refl _) (.cells #[.int .i64 fa,.int .i64 fb] 32);have HP3:=hid (HP.out.below' hb3);have HS3:=hid (HS2.out.below hb3 (Nat.le_refl _));have HNS3:=hid (HNS2.out.below hb3);have HB3:=hid (zBb HB2.out hb3);clear hb3 HP HS2 HNS2 HB2;generalize w2.alloc (.cells #[.int .i64 fa,.int .i64 fb] 32)=w3 at *;go_upto_region 9 with (go_at_call 7;refine (rof_t _ (L k) _ HS3.out HOKK.out (by have:=HLK.out;omega)).mono ?_;rintro e w4 ⟨q,rfl,hq,hb4⟩;obtain ⟨qa,rfl,hq1,hq2⟩:=net_of hq ⟨.inl ⟨rfl,rfl⟩,.inl rfl⟩ rn_ptr;rw [HFAB.out];(try dsimp only);have HQ:=hid hq1;have HQN:=hid hq2;have HP4:=hid (HP3.out.below' hb4);have HNS4:=hid (HNS3.out.below hb4);have HB4:=hid (zBb HB3.out hb4);clear hq hq1 hq2 hb4)
      clear HS3 HNS3 HB3 HP3;have hb5:=(Below.refl w4.heap.size w4).alloc (Nat.le_refl _) (.cells #[.int .i64 fa,.int .i64 fb] 32);have HP5:=hid (HP4.out.below' hb5);have HQ5:=hid (HQ.out.below' hb5);have HNS5:=hid (HNS4.out.below hb5);have HB5:=hid (zBb HB4.out hb5);clear hb5 HP4 HQ HNS4 HB4;generalize w4.alloc (.cells #[.int .i64 fa,.int .i64 fb] 32)=w5 at *;have HSZ5:=hid HB5.out.size
      go_upto_region 10 with (refine zBj rfl rfl _ rfl _ _ _ rfl rfl w.heap.size 29 1 8 iN (.pointer none) Tryz.underlying24 hiN hN0 hN1 hN2 rfl (by decide) (by decide) _ k _ HNS5.out.o9 HSZ5.out (.pointer pa) rfl rfl (by intro u hu;simp [Value.cells] at hu;subst hu;rfl) rfl rfl (by simp [maxLen];omega) (by omega) ?_;intro g1 cap1 w6 hown1 hg1 htwo;have HNS6:=hid (HNS5.out.push9 hown1 htwo HP5.out HPN.out);have HB6:=hid (own_below HB5.out HSZ5.out HNS5.out.o9 htwo);have HQ6:=hid (show RNt w6 (.pointer qa) (netE L k) from by
       rcases htwo with ⟨e,hg⟩ | ⟨_,hg⟩
       · obtain ⟨_,c,hc⟩:=zAx HNS5.out.o9 e;exact HQ5.out.typ hc hg (by decide) (by decide)
       · exact HQ5.out.below' (zCz hg));clear hown1 hg1 htwo)
      clear HNS5 HB5 HP5 HQ5 HSZ5;have HSZ6:=hid HB6.out.size;go_wp2_with (refine zBj rfl rfl _ rfl _ _ _ rfl rfl w.heap.size 35 1 8 iR (.pointer none) Tryz.underlying25 hiR hR0 hR1 hR2 rfl (by decide) (by decide) _ k _ HNS6.out.o10 HSZ6.out (.pointer qa) rfl rfl (by intro u hu;simp [Value.cells] at hu;subst hu;rfl) rfl rfl (by simp [maxLen];omega) (by omega) ?_;intro g2 cap2 w7 hown1 hg1 htwo;have HNS7:=hid (HNS6.out.push10 hown1 htwo HQ6.out HQN.out);have HB7:=hid (own_below HB6.out HSZ6.out HNS6.out.o10 htwo);clear hown1 hg1 htwo);go_roundw
      case rel=> exact ⟨k+1,_,_,by omega,by omega,by go_num,HNS7.out,HB7.out⟩
      case measure=> simp [intOf];omega
    · have HOKK:=hid (show∀j,j < k→∀e∈L j,e.Ok from fun j hj=> HOK.out j (by omega));have HNA:=hid (HNS.out.nets HOKK.out);have HRA:=hid (HNS.out.rnets HOKK.out);have HL9:=hid HNS.out.l9;have HL10:=hid HNS.out.l10;have HSM:=hid HNS.out.same;obtain ⟨s1,f1,f2,hS⟩:∃s1 f1 f2,zDb (ps.map zAw) ((List.range k).map (netE L)) om t at_=(s1,(f1,f2)):=⟨_,_,_,rfl⟩;have HS:=hid hS;clear hS HNS;have H9E:(Value.slice a9 k c9)=.slice a9 ps.length c9:=by rw [HL9.out]
      go_upto_region 12 with fail;go_upto_region 13 with (go_at_call 9;refine (heard_any _ ps _ om t at_ _ HNA.out (by have:=HL9.out;omega) HT.out).mono ?_;rintro e w1 ⟨r1,rfl,hr1,hb1⟩;rw [HS.out] at hr1⊢;(try dsimp only);have HR1:=hid hr1;have HRA1:=hid (HRA.out.below hb1);have HB1:=hid (zBb HB.out hb1);clear hr1 hb1);clear HNA HRA HB
      have HZ1:=hid (heap_alloc_new w1 (.cells #[.int .i64 f1,.int .i64 f2] 32));have hb2:=(Below.refl w1.heap.size w1).alloc (Nat.le_refl _) (.cells #[.int .i64 f1,.int .i64 f2] 32);have HRA2:=hid (HRA1.out.below hb2);have HB2:=hid (zBb HB1.out hb2);clear hb2 HRA1 HB1;generalize w1.alloc (.cells #[.int .i64 f1,.int .i64 f2] 32)=w2 at *;generalize w1.heap.size=g1 at *;go_upto_region 14 with (go_at_call 10;refine (rheard_any _ qs _ om t at_ _ HRA2.out (by have:=HL10.out;omega)).mono ?_;rintro e w3 ⟨r2,rfl,hr2,hb3⟩;rw [HSM.out,HS.out] at hr2⊢;(try dsimp only);have HR2:=hid hr2;have HZ3:=hid (zAc hb3 HZ1.out);have HB3:=hid (zBb HB2.out hb3);clear hr2 hb3);clear HRA2 HB2 HZ1;have HZ4:=hid (heap_alloc_new w3 (.cells #[.int .i64 f1,.int .i64 f2] 32));have hb4:=(Below.refl w3.heap.size w3).alloc (Nat.le_refl _) (.cells #[.int .i64 f1,.int .i64 f2] 32);have HZ5:=hid (zAc hb4 HZ3.out);have HB4:=hid (zBb HB3.out hb4);clear hb4 HZ3 HB3;generalize w3.alloc (.cells #[.int .i64 f1,.int .i64 f2] 32)=w4 at *;generalize w3.heap.size=g2 at *;have hbk:=zAb HZ4.out;have u0:=hbk.1 0 _ rfl;have u1:=hbk.1 1 _ rfl;clear hbk;have hbk:=zAb HZ5.out;have v0:=hbk.1 0 _ rfl;have v1:=hbk.1 1 _ rfl;clear hbk;have hs1:(f1==f1)=true:=by simp
      have hs2:(f2==f2)=true:=by simp
      have HSR:=hid (show (fc r1==fc r2)=true by rw [HR1.out,HR2.out];simp);go_wp2_with (go_at_call 11;refine (samereal_any _ _ _).mono ?_;rintro e w5 ⟨rfl,rfl⟩;rw [HSR.out])
      (try simp only [Exit.inBlock,Exit.then])
      (try rw [Exit.noGoto_ret])
      go_ret;exact ⟨rfl,HB4.out⟩
  · have HOKK:=hid (show∀j,j < k→∀e∈L j,e.Ok from fun j hj=> HOK.out j (by omega));have HNA:=hid (HNS.out.nets HOKK.out);have HRA:=hid (HNS.out.rnets HOKK.out);have HL9:=hid HNS.out.l9;have HL10:=hid HNS.out.l10;have HSM:=hid HNS.out.same;obtain ⟨s1,f1,f2,hS⟩:∃s1 f1 f2,zDb (ps.map zAw) ((List.range k).map (netE L)) om t at_=(s1,(f1,f2)):=⟨_,_,_,rfl⟩;have HS:=hid hS;clear hS HNS;have H9E:(Value.slice a9 k c9)=.slice a9 ps.length c9:=by rw [HL9.out]
    go_upto_region 12 with fail;go_upto_region 13 with (go_at_call 9;refine (heard_any _ ps _ om t at_ _ HNA.out (by have:=HL9.out;omega) HT.out).mono ?_;rintro e w1 ⟨r1,rfl,hr1,hb1⟩;rw [HS.out] at hr1⊢;(try dsimp only);have HR1:=hid hr1;have HRA1:=hid (HRA.out.below hb1);have HB1:=hid (zBb HB.out hb1);clear hr1 hb1);clear HNA HRA HB
    have HZ1:=hid (heap_alloc_new w1 (.cells #[.int .i64 f1,.int .i64 f2] 32));have hb2:=(Below.refl w1.heap.size w1).alloc (Nat.le_refl _) (.cells #[.int .i64 f1,.int .i64 f2] 32);have HRA2:=hid (HRA1.out.below hb2);have HB2:=hid (zBb HB1.out hb2);clear hb2 HRA1 HB1;generalize w1.alloc (.cells #[.int .i64 f1,.int .i64 f2] 32)=w2 at *;generalize w1.heap.size=g1 at *;go_upto_region 14 with (go_at_call 10;refine (rheard_any _ qs _ om t at_ _ HRA2.out (by have:=HL10.out;omega)).mono ?_;rintro e w3 ⟨r2,rfl,hr2,hb3⟩;rw [HSM.out,HS.out] at hr2⊢;(try dsimp only);have HR2:=hid hr2;have HZ3:=hid (zAc hb3 HZ1.out);have HB3:=hid (zBb HB2.out hb3);clear hr2 hb3);clear HRA2 HB2 HZ1;have HZ4:=hid (heap_alloc_new w3 (.cells #[.int .i64 f1,.int .i64 f2] 32));have hb4:=(Below.refl w3.heap.size w3).alloc (Nat.le_refl _) (.cells #[.int .i64 f1,.int .i64 f2] 32);have HZ5:=hid (zAc hb4 HZ3.out);have HB4:=hid (zBb HB3.out hb4);clear hb4 HZ3 HB3;generalize w3.alloc (.cells #[.int .i64 f1,.int .i64 f2] 32)=w4 at *;generalize w3.heap.size=g2 at *;have hbk:=zAb HZ4.out;have u0:=hbk.1 0 _ rfl;have u1:=hbk.1 1 _ rfl;clear hbk;have hbk:=zAb HZ5.out;have v0:=hbk.1 0 _ rfl;have v1:=hbk.1 1 _ rfl;clear hbk;have hs1:(f1==f1)=true:=by simp
    have hs2:(f2==f2)=true:=by simp
    have HSR:=hid (show (fc r1==fc r2)=true by rw [HR1.out,HR2.out];simp);go_wp2_with (go_at_call 11;refine (samereal_any _ _ _).mono ?_;rintro e w5 ⟨rfl,rfl⟩;rw [HSR.out])
    (try simp only [Exit.inBlock,Exit.then])
    (try rw [Exit.noGoto_ret])
    go_ret;exact ⟨rfl,HB4.out⟩
end
section
open Go.ChangeShapes Go.WideShapes Go.ChangeAt Go.RowKit Go.Joins
theorem trodAll_below {H:Type} {enc:TypeId × Value→H} {P:Program} (hl:laidOutB P=true) {W W':World} (hb:Below W.heap.size W W'):
 ∀ (ts:List TypeId) (vs:List Value) (ds:List (DataW H)) (ps:List MemPlace),(ts.all fun t=> P.readableRec t && decide (t < P.types.size))=true→
  DataW.TrodAll enc P W 0 (fun _=> true) true ts vs ds ps→DataW.TrodAll enc P W' 0 (fun b=> decide (b < W.heap.size)) true ts vs ds ps:=by
 intro ts
 induction ts with
 | nil=>
  intro vs ds ps _ h;cases vs <;> cases ds <;> simp_all [DataW.TrodAll]
 | cons t ts ih=>
  intro vs ds ps ht h;obtain ⟨v,vs',d,ds',p,q,rfl,rfl,rfl,h0,h1⟩:=trodAll_cons h;simp only [List.all_cons,Bool.and_eq_true,decide_eq_true_eq] at ht;obtain ⟨m,hm⟩:=h0;exact trodAll_cons_mk (Below.trod hl ht.1.1 ht.1.2 ⟨m,hm⟩ hb (fun x hx=> DataW.trod_lt m _ _ _ hm x hx)) (ih _ _ _ (by simpa using ht.2) h1)
theorem post_true {H:Type} {enc:TypeId × Value→H} {P:Program} {f:Func} {s:ChangeSpec} {W W':World} {args:Array Value} {ds:List (DataW H)} {p:List MemPlace} {t:TypeId}
 (hl:laidOutB P=true) (hr:f.resultTypes=#[t]) (ht:P.underlying t=some .bool)
 (hts:(f.params.toList.all fun t=> P.readableRec t && decide (t < P.types.size))=true) (hvars:s.vars= [])
 (hs:s.fn H (ds++ [])={results:= [.lit (.bool true)],args:=ds})
 (hW:DataW.Whole enc P f.params.toList s.vars false W args.toList ds [] p) (hb:Below W.heap.size W W'):
 s.post enc P f false true false false W args (.bool true) W':=by
 have hW':=hW;obtain ⟨p',q,hA,hV,rfl,_,_⟩:=hW;rw [hvars] at hV;obtain ⟨_,rfl⟩:=trodVars_none hV;refine ⟨_,_,_, [],p', [],hW',?_,?_,?_,hb.frame _,fun h=> by cases h⟩
 · rw [hs,hr];exact trodAll_mk1 (shut_bool ht _)
 · rw [hs];exact trodAll_below hl hb _ _ _ _ hts hA
 · rw [hs,hvars];rfl
end
section
open Go.ChangeShapes Go.WideShapes Go.ChangeAt Go.RowKit Go.Joins Go.Deep
section
variable {H:Type} {enc:TypeId × Value→H} {P:Program} {W:World} {base:Nat} {spare:Nat→Bool} {held:Bool}
def Small (P:Program) (t:TypeId) (d:DataW H):Prop:=∀x∈d.weights P t,x≤reachBytes
theorem small_head {t:TypeId} {ts:List TypeId} {d:DataW H} {ds:List (DataW H)} (h:(DataW.weightsEach P (t::ts) (d::ds)).all (· ≤reachBytes)=true):Small P t d∧(DataW.weightsEach P ts ds).all (· ≤reachBytes)=true:=by
 simp only [DataW.weightsEach,List.all_append,Bool.and_eq_true] at h;exact ⟨fun x hx=> by simpa using List.all_eq_true.1 h.1 x hx,h.2⟩
theorem mem_weightsAll {e:TypeId}:∀ {l:List (DataW H)} {d:DataW H},d∈l→∀x∈d.weights P e,x∈DataW.weightsAll P e l
 | a::l,d,hd,x,hx=> by
  simp only [DataW.weightsAll,List.mem_append];rcases List.mem_cons.1 hd with rfl | hd
  · exact .inl hx
  · exact .inr (mem_weightsAll hd x hx)
theorem small_slice {t e:TypeId} (ht:P.underlying t=some (.slice e)) {l r:List (DataW H)} (h:Small P t (.slice l r)):l.length * P.bytesOf e≤reachBytes∧∀d∈l,Small P e d:=by
 unfold Small at h;simp only [DataW.weights,ht] at h;refine ⟨?_,fun d hd x hx=> h x (List.mem_cons_of_mem _ (List.mem_append_left _ (mem_weightsAll hd x hx)))⟩;have:=h _ List.mem_cons_self;exact Nat.le_trans (Nat.mul_le_mul_right _ (Nat.le_add_right _ _)) this
theorem zHi {a:Addr} {n:Nat} {cs:List Value} (h:W.cells? base a n=some cs):cs.length=n∧∀j,j < n→W.cell? (a.add j)=cs[j]?:=by
 obtain ⟨_,h1,h2⟩:=World.cells?_some h;exact ⟨h1,h2⟩
theorem open_sl {t e size fuel:Nat} {v:Value} {d:DataW H} {ps:List MemPlace} (ht:P.underlying t=some (.slice e)) (hc:P.cellsOf e=size) (hsz:0 < size)
 (hf:DataW.trod enc P W base spare held fuel t [v]=some (d,ps)):
 ∃ (n:Nat) (E:Nat→List Value) (D:Nat→DataW H) (r:List (DataW H)),InSl W size v n ((List.range n).flatMap E)∧(n=0∨d=.slice ((List.range n).map D) r)∧
  ∀i,i < n→(E i).length=size∧∃f q,DataW.trod enc P W base spare held f e (E i)=some (D i,q):=by
 subst hc;rcases open_slice ht hf with ⟨h1,h2⟩ | ⟨a,len,cap,m,f,D,Pl,h1,hb,hl,hm,hmm,h2,hel⟩
 · cases h1;exact ⟨0,fun _=> [],fun _=> .nil, [],by simpa using InSl.of (IsSl.nil W _),.inl rfl,fun i hi=> by omega⟩
 · cases h1;have hlm:len≤m:=by rw [hmm];split <;> omega
   obtain ⟨E,hE⟩:=choose_lt (α:=List Value) (p:=fun i cs=> W.cells? base (a.add (i * P.cellsOf e)) (P.cellsOf e)=some cs∧DataW.trod enc P W base spare held f e cs=some (D i,Pl i)) (fun i hi=> hel i hi);cases h2;refine ⟨len,E,D,_,?_,.inr rfl,fun i hi=> ⟨(zHi (hE i (by omega)).1).1,f,_,(hE i (by omega)).2⟩⟩;have hlenE:∀i,i < len→(E i).length=P.cellsOf e:=fun i hi=> (zHi (hE i (by omega)).1).1
   have hflat:∀k,k≤len→((List.range k).flatMap E).length=k * P.cellsOf e:=by
    intro k
    induction k with
    | zero=> intro _;simp
    | succ k ih=>
     intro hk;rw [List.range_succ,List.flatMap_append,List.length_append,ih (by omega),Nat.add_mul]
     simp [hlenE k (by omega)]
   have hget:∀k,k≤len→∀i j,i < k→j < P.cellsOf e→((List.range k).flatMap E)[i * P.cellsOf e+j]? =(E i)[j]?:=by
    intro k
    induction k with
    | zero=> intro _ i j hi;omega
    | succ k ih=>
     intro hk i j hi hj;rw [List.range_succ,List.flatMap_append]
     by_cases hik:i < k
     · have:i * P.cellsOf e+j < k * P.cellsOf e:=by
        have:=Nat.mul_le_mul_right (P.cellsOf e) (show i+1≤k by omega);rw [Nat.add_mul] at this;omega
       rw [List.getElem?_append_left (by rw [hflat k (by omega)];exact this),ih (by omega) i j hik hj]
     · obtain rfl:i=k:=by omega
       rw [List.getElem?_append_right (by rw [hflat i (by omega)];omega),hflat i (by omega),Nat.add_sub_cancel_left]
       simp
   obtain ⟨g,off,spot⟩:=a
   by_cases h0:len=0
   · subst h0;exact .inr ⟨_,_,rfl,rfl,by simp⟩
   · have hspot:spot=none:=by
      have h1:=(zHi (hE 0 (by omega)).1).2 0 hsz;have h2:=(zHi (hE 0 (by omega)).1).1;rw [List.getElem?_eq_getElem (by omega)] at h1
      simpa [Addr.add] using World.cell?_spot h1
     subst hspot;refine .inl ⟨hflat len (Nat.le_refl _),.inr ⟨g,off,cap,rfl,hl,?_,fun j hj=> ?_⟩⟩
     · have h1:=(zHi (hE 0 (by omega)).1).2 0 hsz;have h2:=(zHi (hE 0 (by omega)).1).1;rw [List.getElem?_eq_getElem (by omega)] at h1
       simpa [Addr.add] using World.block_lt_of_cell? W _ h1
     · have hi:j / P.cellsOf e < len:=(Nat.div_lt_iff_lt_mul hsz).2 hj;have hj2:j % P.cellsOf e < P.cellsOf e:=Nat.mod_lt _ hsz;have h1:=(zHi (hE (j / P.cellsOf e) (by omega)).1).2 (j % P.cellsOf e) hj2;have h3:=hget len (Nat.le_refl _) (j / P.cellsOf e) (j % P.cellsOf e) hi hj2;have hdm:j / P.cellsOf e * P.cellsOf e+j % P.cellsOf e=j:=by rw [Nat.mul_comm];exact Nat.div_add_mod j _
       rw [hdm] at h3;rw [h3,←h1,Go.Deep.add_add,hdm]
       congr 1
       unfold Addr.add;split <;> simp_all
theorem open_sl1 {t e fuel:Nat} {v:Value} {d:DataW H} {ps:List MemPlace} (ht:P.underlying t=some (.slice e)) (hc:P.cellsOf e=1)
 (hf:DataW.trod enc P W base spare held fuel t [v]=some (d,ps)):
 ∃ (n:Nat) (V:Nat→Value) (D:Nat→DataW H) (r:List (DataW H)),InSl W 1 v n ((List.range n).map V)∧(n=0∨d=.slice ((List.range n).map D) r)∧
  ∀i,i < n→∃f q,DataW.trod enc P W base spare held f e [V i]=some (D i,q):=by
 obtain ⟨n,E,D,r,h1,h2,h3⟩:=open_sl ht hc (by decide) hf;obtain ⟨V,hV⟩:=choose_lt (n:=n) (α:=Value) (p:=fun i v=> E i= [v]) (fun i hi=> List.length_eq_one_iff.1 (h3 i hi).1);refine ⟨n,V,D,r,?_,h2,fun i hi=> by rw [←hV i hi];exact (h3 i hi).2⟩;have:(List.range n).flatMap E=(List.range n).map V:=by
  rw [List.map_eq_flatMap,List.flatMap_def,List.flatMap_def]
  congr 1
  exact List.map_congr_left fun i hi=> hV i (by simpa using hi)
 rw [←this];exact h1
end
end
section
open Go.ChangeShapes Go.WideShapes Go.ChangeAt Go.RowKit Go.Joins Go.Deep
instance:Inhabited El:=⟨⟨0,⟨#[]⟩,⟨#[]⟩,⟨#[]⟩,⟨#[]⟩,⟨#[]⟩,0,0⟩⟩
theorem length_eight {α:Type} {l:List α} (h:l.length=8):∃a b c d e f g i,l= [a,b,c,d,e,f,g,i]:=by
 match l,h with
 | [a,b,c,d,e,f,g,i],_=> exact ⟨a,b,c,d,e,f,g,i,rfl⟩
theorem open_ez {H:Type} {enc:TypeId × Value→H} {W:World} {base fuel:Nat} {spare:Nat→Bool} {held:Bool} {cs:List Value} {d:DataW H} {ps:List MemPlace}
 (hf:DataW.trod enc Tryz.prog W base spare held fuel 57 cs=some (d,ps)):∃e:El,cs=ez e∧e.Ok:=by
 obtain ⟨xs,n,rfl,hx,hl,hxl,hel⟩:=DataW.trod_struct Tryz.underlying57 hf;have hl2:cs.length=8:=hl.trans (by kernel_rfl);obtain ⟨c0,c1,c2,c3,c4,c5,c6,c7,rfl⟩:=length_eight hl2;obtain ⟨x0,x1,x2,x3,x4,x5,x6,x7,rfl⟩:=length_eight (show xs.length=8 from hxl);have hu8:Tryz.prog.cellsOf 5 =1:=by kernel_rfl
 have hst:Tryz.prog.cellsOf 9 =1:=by kernel_rfl
 have hu64:Tryz.prog.cellsOf 23 =1:=by kernel_rfl
 have hin:Tryz.prog.cellsOf 3 =1:=by kernel_rfl
 have h0:DataW.trod enc Tryz.prog W base spare held n 5 [c0]=some x0:=by simpa [hu8] using hel 0 _ rfl
 have h1:DataW.trod enc Tryz.prog W base spare held n 9 [c1]=some x1:=by simpa [hst] using hel 1 _ rfl
 have h2:DataW.trod enc Tryz.prog W base spare held n 9 [c2]=some x2:=by simpa [hst] using hel 2 _ rfl
 have h3:DataW.trod enc Tryz.prog W base spare held n 9 [c3]=some x3:=by simpa [hst] using hel 3 _ rfl
 have h4:DataW.trod enc Tryz.prog W base spare held n 9 [c4]=some x4:=by simpa [hst] using hel 4 _ rfl
 have h5:DataW.trod enc Tryz.prog W base spare held n 9 [c5]=some x5:=by simpa [hst] using hel 5 _ rfl
 have h6:DataW.trod enc Tryz.prog W base spare held n 23 [c6]=some x6:=by simpa [hu64] using hel 6 _ rfl
 have h7:DataW.trod enc Tryz.prog W base spare held n 3 [c7]=some x7:=by simpa [hin] using hel 7 _ rfl
 obtain ⟨k,e0,_,_⟩:=DataW.trod_int Tryz.underlying5 h0;obtain ⟨s1,e1,_,g1⟩:=DataW.trod_string Tryz.underlying9 h1;obtain ⟨s2,e2,_,g2⟩:=DataW.trod_string Tryz.underlying9 h2;obtain ⟨s3,e3,_,g3⟩:=DataW.trod_string Tryz.underlying9 h3;obtain ⟨s4,e4,_,g4⟩:=DataW.trod_string Tryz.underlying9 h4;obtain ⟨s5,e5,_,g5⟩:=DataW.trod_string Tryz.underlying9 h5;obtain ⟨v,e6,_,wv⟩:=DataW.trod_int Tryz.underlying23 h6;obtain ⟨p,e7,_,_⟩:=DataW.trod_int Tryz.underlying3 h7
 simp at e0 e1 e2 e3 e4 e5 e6 e7
 have gv:0≤v∧v < 18446744073709551616:=by
  have h1:IntKind.u64.min=0:=by decide
  have h2:IntKind.u64.max=18446744073709551615:=by decide
  simp [Lit.wf] at wv;omega
 refine ⟨⟨k,s1,s2,s3,s4,s5,v.toNat,p⟩,by simp [ez,e0,e1,e2,e3,e4,e5,e6,e7,Int.toNat_of_nonneg gv.1],g1,g2,g3,g4,g5,?_⟩;show v.toNat < 18446744073709551616
 omega
theorem open_els {H:Type} {enc:TypeId × Value→H} {W:World} {base fuel:Nat} {spare:Nat→Bool} {held:Bool} {v:Value} {d:DataW H} {ps:List MemPlace}
 (hf:DataW.trod enc Tryz.prog W base spare held fuel 28 [v]=some (d,ps)) (hs:Small Tryz.prog 28 d):
 ∃l:List El,InSl W 8 v l.length (l.flatMap ez)∧l.length * 104≤reachBytes∧∀e∈l,e.Ok:=by
 obtain ⟨n,E,D,r,h1,h2,h3⟩:=open_sl (P:=Tryz.prog) (size:=8) Tryz.underlying28 (by kernel_rfl) (by decide) hf;obtain ⟨B,hB⟩:=choose_lt (n:=n) (α:=El) (p:=fun i z=> E i=ez z∧z.Ok) (fun i hi=> by
  obtain ⟨_,f,q,h4⟩:=h3 i hi;exact open_ez h4)
 refine ⟨(List.range n).map B,?_,?_,fun e he=> ?_⟩
 · have:((List.range n).map B).flatMap ez=(List.range n).flatMap E:=by
    rw [List.flatMap_def,List.flatMap_def,List.map_map]
    congr 1
    exact List.map_congr_left fun i hi=> (hB i (by simpa using hi)).1.symm
   rw [this];simpa using h1
 · simp only [List.length_map,List.length_range];rcases h2 with rfl | rfl
   · simp
   · have:=(small_slice Tryz.underlying28 hs).1;rw [show Tryz.prog.bytesOf 57 =104 from by kernel_rfl] at this;simpa using this
 · obtain ⟨i,hi,rfl⟩:=List.mem_map.1 he;exact (hB i (by simpa using hi)).2
end
end Go.Proofs.YtejooaeppcjhjaaGreat
