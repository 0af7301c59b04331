/- a part of the proof of the last text -/
import Derived.Test.YtejooaeppcjhjaaGreatZMGrR4
namespace Go.Proofs.YtejooaeppcjhjaaGreat
set_option linter.all false
set_option maxHeartbeats 4000000
set_option maxRecDepth 100000
section
open Go.RowKit Go.Maps
structure SetsAt (B:Nat) (w:World) (g mb:Nat) (vU:Value) (ns:List ByteArray) (up:List Nat):Prop where
 gB:B≤g
 mB:B≤mb
 blk:w.heap[g]? =some (.cells #[.map (some mb),vU] 208 (0,0))
 mp:zHn w mb ns
 ou:w.ownsRow B 3 1 vU up.length (nats up)
 ug:vU.ownBlock≠some g
theorem SetsAt.gm {B g mb:Nat} {w:World} {vU:Value} {ns:List ByteArray} {up:List Nat} (h:SetsAt B w g mb vU ns up):g≠mb:=h.mp.ne_blk h.blk
theorem SetsAt.um {B g mb:Nat} {w:World} {vU:Value} {ns:List ByteArray} {up:List Nat} (h:SetsAt B w g mb vU ns up):vU.ownBlock≠some mb:=h.mp.ne_row h.ou
theorem SetsAt.later {B g mb:Nat} {w w':World} {vU:Value} {ns:List ByteArray} {up:List Nat} (h:SetsAt B w g mb vU ns up) (hb:Below w.heap.size w w'):SetsAt B w' g mb vU ns up:=
 ⟨h.gB,h.mB,zAm hb h.blk,h.mp.kept (zAe hb none) (by simp),zBa h.ou (zAe hb none),h.ug⟩
theorem SetsAt.up {B g mb g1:Nat} {w w':World} {vU:Value} {ns:List ByteArray} {up up':List Nat} (h:SetsAt B w g mb vU ns up) (hv:vU.ownBlock=some g1) (hg:w.grownBy w' (some g1)) (ho:w'.ownsRow B 3 1 vU up'.length (nats up')):SetsAt B w' g mb vU ns up':=
 ⟨h.gB,h.mB,zAk hg (fun e=> h.ug (by rw [hv,e])) h.blk,h.mp.kept hg (fun e=> h.um (by rw [hv,←e])),ho,h.ug⟩
theorem groot_any (B g mb:Nat) (vU:Value) (ns:List ByteArray) (up:List Nat) (k:Nat) (w:World) (h:SetsAt B w g mb vU ns up) (hf:Fine up) (hk:k < up.length) (hl:up.length≤1000000):
 Calls Tryz.prog 118 #[.pointer (some ⟨g,0,none⟩),.int .i64 k] w fun e w'=> e=.returned (.int .i64 (zBo up k:Nat))∧w'=w:=by
 obtain ⟨i0,hi,hz0,hz1,hz2⟩:=info_parts zHf;obtain ⟨aU,cU,rfl⟩:=(IsSl.of_own h.ou).form;obtain ⟨n,hn⟩:∃n,up.length=n:=⟨_,rfl⟩;have HN:=hid hn;have hbk:w.heap[g]? =some (.cells #[.map (some mb),.slice aU n cU] 208 (0,0)):=by rw [←hn];exact h.blk
 have c1:=(zAa hbk).1 1 _ rfl;have hsl:IsSl w 1 (.slice aU n cU) n (nats up):=by rw [←hn];exact IsSl.of_own h.ou
 have HSL:=hid hsl;have HF:=hid hf;rw [hn] at hk hl;clear h hf hbk hsl hn;have HK:=hid hk;go_enter Tryz.func118,Tryz.ntmps118;go_wp2
 go_loopw [1] (fun i wr=> ∃j:Nat,j < n∧i=.int .i64 j∧zBo up j=zBo up k∧wr=w) (fun i _=> (intOf i).toNat)
 case atStart=> exact ⟨k,hk,rfl,rfl,rfl⟩
 case round=>
  obtain ⟨j,hj,rfl,hr,rfl⟩:=hrel;have HR:=hid hr;clear hr;obtain ⟨g1,o1,y,hidx,hg1,hc,hy⟩:=IsSl.at1 Tryz.underlying153 hi hz1 HSL.out hj;rw [nats_at (by rw [HN.out];exact hj)] at hy;obtain rfl:=Option.some.inj hy;clear hy hg1;obtain ⟨u,hu⟩:∃u,up.getD j 0=u:=⟨_,rfl⟩;have HU:=hid hu;have hle:u≤j:=by rw [←hu];exact HF.out j (by rw [HN.out];exact hj)
  rw [hu] at hc;clear hu;have hst:=zFv HF.out (show j < up.length by rw [HN.out];exact hj);rw [HU.out] at hst;have HST:=hid hst;clear hst
  by_cases he:u=j
  · have hne:((u:Int) !=(j:Int))=false:=by rw [he];simp
    have HE:=hid he;clear he;go_wp2_with fail;go_ret;refine ⟨?_,rfl⟩;rw [←HR.out,HST.out,if_pos HE.out];rfl
  · have hne:((u:Int) !=(j:Int))=true:=by rw [bne_iff_ne];omega
    have HE:=hid he;have hlt:u < j:=by omega
    clear he;go_wp2_with fail;go_roundw
    case rel=> exact ⟨u,by omega,rfl,by rw [←HR.out,HST.out,if_neg HE.out],by first | rfl | trivial⟩
    case measure=> simp [intOf];omega
def RetJoinP (B g mb:Nat) (vU:Value) (ns:List ByteArray) (up:List Nat) (w:World) (en:Ending) (w':World):Prop:=
 (∃b,en=.returned (.bool b))∧SetsAt B w' g mb vU ns up∧w.grownBy w' vU.ownBlock
theorem gjoin_any (B g mb:Nat) (vU:Value) (l:List El) (up:List Nat) (a b:ByteArray) (w:World) (h:SetsAt B w g mb vU (gnds l) up) (hB:B≤w.heap.size) (hf:Fine up) (hu:up.length=(gnds l).length) (hl:l.length≤100000) (ha:a.size≤maxLen) (hb:b.size≤maxLen):
 Calls Tryz.prog 152 #[.pointer (some ⟨g,0,none⟩),.string a,.string b] w (RetJoinP B g mb vU (gnds l) (joinU up (gIx l a) (gIx l b)) w):=by
 obtain ⟨i0,hi,hz0,hz1,hz2⟩:=info_parts zHf;have law:Keyed Tryz.prog 9 :=string_keyed Tryz.underlying9;have hnl:=zEc l;have hgl:(gnds l).length≤400001:=by rw [zBz];omega
 have hia:gIx l a < up.length:=by rw [hu,zBz];exact gIx_lt l a
 have hib:gIx l b < up.length:=by rw [hu,zBz];exact gIx_lt l b
 obtain ⟨aU,cU,rfl⟩:=(IsSl.of_own h.ou).form;have hul:up.length≤400001:=by omega
 have HIA:=hid (gIx_all l a);have HIB:=hid (gIx_all l b);have HA:=hid ha;have HBS:=hid hb;have HH:=hid h;have HF:=hid hf;have HLA:=hid hia;have HLB:=hid hib;obtain ⟨ia,hja⟩:∃ia,gIx l a=ia:=⟨_,rfl⟩;obtain ⟨ib,hjb⟩:∃ib,gIx l b=ib:=⟨_,rfl⟩;obtain ⟨n,hn⟩:∃n,up.length=n:=⟨_,rfl⟩;have HN:=hid hn;rw [hja] at HLA HIA;rw [hjb] at HLB HIB;rw [hn] at HLA HLB hul;have HJ:=hid (show joinU up (gIx l a) (gIx l b)=joinU up ia ib by rw [hja,hjb]);have hra:=root_le HF.out ia (by rw [hn];exact HLA.out);have hrb:=root_le HF.out ib (by rw [hn];exact HLB.out);obtain ⟨ra,hra2⟩:∃ra,zBo up ia=ra:=⟨_,rfl⟩;obtain ⟨rb,hrb2⟩:∃rb,zBo up ib=rb:=⟨_,rfl⟩;have HRA:=hid hra2;have HRB:=hid hrb2;have HRL:=hid (show ra < n∧rb < n by have h1:=HLA.out;have h2:=HLB.out;rw [hra2] at hra;rw [hrb2] at hrb;omega);have hbk:w.heap[g]? =some (.cells #[.map (some mb),.slice aU n cU] 208 (0,0)):=by rw [←hn];exact HH.out.blk
 have HBK:=hid hbk;rw [hn];clear ha hb h hf hia hib hja hjb hn hra hrb hra2 hrb2 hbk hgl hnl hu;go_enter Tryz.func152,Tryz.ntmps152;go_upto_region 1 with fail;refine wp_region_any (by kernel_rfl) ?_;change wpAny _ _ _ _ _ _ _ (World.drew _);refine zAy [⟨some 9,0, []⟩,⟨some 10,1, []⟩,⟨some 11,2, []⟩,⟨some 12,3, []⟩,⟨some 13,4, []⟩,⟨some 14,5, []⟩,⟨some 15,6, []⟩,⟨some 16,7, []⟩,⟨some 17,8, []⟩,⟨some 18,9, []⟩,⟨some 19,10, []⟩,⟨some 20,11, []⟩,⟨some 21,12, []⟩,⟨some 22,13, []⟩,⟨some 23,14, []⟩,⟨some 24,15, []⟩,⟨some 7,16, []⟩,⟨some 8,17, []⟩]
  (fun w'=> w'.heap[g]? =some (.cells #[.map (some mb),.slice aU n cU] 208 (0,0))∧zHn w' mb (gnds l))
  (fun oq v _ _ _ _=> match oq with | 0=> v=.pointer (some ⟨g,0,none⟩) | 1=> v=.pointer (some ⟨g,0,none⟩) | 2=> v=.pointer (some ⟨g,0,none⟩) | 3=> v=.pointer (some ⟨g,0,none⟩) | 4=> v=.map (some mb) | 5=> v=.string a | 6=> v=.int .i64 (ia:Nat) | 7=> v=Value.int .i64 (ra:Nat) | 8=> v=.pointer (some ⟨g,0,none⟩) | 9=> v=.pointer (some ⟨g,0,none⟩) | 10=> v=.pointer (some ⟨g,0,none⟩) | 11=> v=.pointer (some ⟨g,0,none⟩) | 12=> v=.map (some mb) | 13=> v=.string b | 14=> v=.int .i64 (ib:Nat) | 15=> v=Value.int .i64 (rb:Nat) | 16=> v=.int .i64 (ra:Nat) | 17=> v=.int .i64 (rb:Nat) | _=> True) (by kernel_rfl) ?hSj (fun _ _ hb h=> ⟨zAm hb h.1,h.2.kept (zAe hb none) (by simp)⟩) (fun _ _ _ _ _ _ _ _ _ h=> h) ?hopj ?hendj
 case hSj=> exact ⟨zAm (Below.refl _ _).drew HBK.out,HH.out.mp.kept (zAe (Below.refl _ _).drew none) (by simp)⟩
 case hopj=>
  delta Owed
  simp only [zBg,Act.put,List.setIfInBounds_toArray,lz,ls];refine Each.cons rfl ?_ (Each.cons rfl ?_ (Each.cons rfl ?_ (Each.cons rfl ?_ (Each.cons rfl ?_ (Each.cons rfl ?_ (Each.cons rfl ?_ (Each.cons rfl ?_ (Each.cons rfl ?_ (Each.cons rfl ?_ (Each.cons rfl ?_ (Each.cons rfl ?_ (Each.cons rfl ?_ (Each.cons rfl ?_ (Each.cons rfl ?_ (Each.cons rfl ?_ (Each.cons rfl ?_ (Each.cons rfl ?_ Each.nil)))))))))))))))))
  all_goals intro vs w2 hb2 hS2 hR2 K hK;try simp only [zBg,Act.put,List.setIfInBounds_toArray,lz,ls] at hK⊢
  · go_simp;exact shP hK
  · go_simp;exact shP hK
  · have h1:vs 1=_:=exR (hR2 1 (by kernel_rfl)) (fun _ _ h=> h);simp only [h1] at hK⊢;go_simp;exact shP hK
  · have h2:vs 2=_:=exR (hR2 2 (by kernel_rfl)) (fun _ _ h=> h);simp only [h2] at hK⊢;go_simp;exact shP hK
  · have h3:vs 3=_:=exR (hR2 3 (by kernel_rfl)) (fun _ _ h=> h);have k0:=(zAa hS2.1).1 0 _ rfl;simp only [h3] at hK⊢;go_simp;exact shP hK
  · go_simp;exact shP hK
  · have h4:vs 4=_:=exR (hR2 4 (by kernel_rfl)) (fun _ _ h=> h);have h5:vs 5=_:=exR (hR2 5 (by kernel_rfl)) (fun _ _ h=> h);simp only [h4,h5] at hK⊢;obtain ⟨D,hown,hD⟩:=hS2.2;obtain ⟨c,hrun,hat,_⟩:=hown.lookup_int law Tryz.underlying58 Tryz.underlying3 (zeroInt _) (WideMaps.keyOf_string_mk Tryz.underlying9 HA.out);have hcc:=(at_place hD hat).trans HIA.out;subst hcc;clear hat hown hD;go_simp;exact shP hK
  · have h0:vs 0=_:=exR (hR2 0 (by kernel_rfl)) (fun _ _ h=> h);obtain ⟨_,_,_,H6⟩:=hR2 6 (by kernel_rfl);have h6:vs 6=.int .i64 (ia:Nat):=H6;simp only [h0,h6] at hK⊢;rw [if_pos (by rfl)];go_wp2_with (go_at_call 118;refine (groot_any B g mb _ (gnds l) up ia _ (by have h:=HH.out.later (zAq hb2);rw [HN.out] at h;exact h) HF.out (by rw [HN.out];exact HLA.out) (by rw [HN.out];omega)).mono ?_;rintro e w3 ⟨rfl,rfl⟩);exact hK.out _ _ (Below.refl _ _) (by rw [HRA.out])
  · go_simp;exact shP hK
  · go_simp;exact shP hK
  · have h9:vs 9=_:=exR (hR2 9 (by kernel_rfl)) (fun _ _ h=> h);simp only [h9] at hK⊢;go_simp;exact shP hK
  · have h10:vs 10=_:=exR (hR2 10 (by kernel_rfl)) (fun _ _ h=> h);simp only [h10] at hK⊢;go_simp;exact shP hK
  · have h11:vs 11=_:=exR (hR2 11 (by kernel_rfl)) (fun _ _ h=> h);have k0:=(zAa hS2.1).1 0 _ rfl;simp only [h11] at hK⊢;go_simp;exact shP hK
  · go_simp;exact shP hK
  · have h12:vs 12=_:=exR (hR2 12 (by kernel_rfl)) (fun _ _ h=> h);have h13:vs 13=_:=exR (hR2 13 (by kernel_rfl)) (fun _ _ h=> h);simp only [h12,h13] at hK⊢;obtain ⟨D,hown,hD⟩:=hS2.2;obtain ⟨c,hrun,hat,_⟩:=hown.lookup_int law Tryz.underlying58 Tryz.underlying3 (zeroInt _) (WideMaps.keyOf_string_mk Tryz.underlying9 HBS.out);have hcc:=(at_place hD hat).trans HIB.out;subst hcc;clear hat hown hD;go_simp;exact shP hK
  · have h8:vs 8=_:=exR (hR2 8 (by kernel_rfl)) (fun _ _ h=> h);obtain ⟨_,_,_,H14⟩:=hR2 14 (by kernel_rfl);have h14:vs 14=.int .i64 (ib:Nat):=H14;simp only [h8,h14] at hK⊢;rw [if_pos (by rfl)];go_wp2_with (go_at_call 118;refine (groot_any B g mb _ (gnds l) up ib _ (by have h:=HH.out.later (zAq hb2);rw [HN.out] at h;exact h) HF.out (by rw [HN.out];exact HLB.out) (by rw [HN.out];omega)).mono ?_;rintro e w3 ⟨rfl,rfl⟩);exact hK.out _ _ (Below.refl _ _) (by rw [HRB.out])
  · obtain ⟨_,_,_,H7⟩:=hR2 7 (by kernel_rfl);have h7:vs 7=Value.int .i64 (ra:Nat):=H7;simp only [h7] at hK⊢;go_simp;exact shP hK
  · obtain ⟨_,_,_,H15⟩:=hR2 15 (by kernel_rfl);have h15:vs 15=Value.int .i64 (rb:Nat):=H15;simp only [h15] at hK⊢;go_simp;exact shP hK
 case hendj=>
  intro vs wx lo hiv hbx hSx hRx hdx;have h0:vs 0=_:=(hRx 0 (by kernel_rfl)).1;have h1:vs 1=_:=(hRx 1 (by kernel_rfl)).1;have h2:vs 2=_:=(hRx 2 (by kernel_rfl)).1;have h3:vs 3=_:=(hRx 3 (by kernel_rfl)).1;have h4:vs 4=_:=(hRx 4 (by kernel_rfl)).1;have h5:vs 5=_:=(hRx 5 (by kernel_rfl)).1;have H6:=(hRx 6 (by kernel_rfl)).1;have h6:vs 6=.int .i64 (ia:Nat):=H6;have H7:=(hRx 7 (by kernel_rfl)).1;have h7:vs 7=Value.int .i64 (ra:Nat):=H7;have h8:vs 8=_:=(hRx 8 (by kernel_rfl)).1;have h9:vs 9=_:=(hRx 9 (by kernel_rfl)).1;have h10:vs 10=_:=(hRx 10 (by kernel_rfl)).1;have h11:vs 11=_:=(hRx 11 (by kernel_rfl)).1;have h12:vs 12=_:=(hRx 12 (by kernel_rfl)).1;have h13:vs 13=_:=(hRx 13 (by kernel_rfl)).1;have H14:=(hRx 14 (by kernel_rfl)).1;have h14:vs 14=.int .i64 (ib:Nat):=H14;have H15:=(hRx 15 (by kernel_rfl)).1;have h15:vs 15=Value.int .i64 (rb:Nat):=H15;have h16:vs 16=_:=(hRx 16 (by kernel_rfl)).1;have h17:vs 17=_:=(hRx 17 (by kernel_rfl)).1;simp only [zBg,Act.put,List.setIfInBounds_toArray,lz,ls,h0,h1,h2,h3,h4,h5,h6,h7,h8,h9,h10,h11,h12,h13,h14,h15,h16,h17];have hb:=zAq hbx;have HX:=hid (HH.out.later hb);have HBX:=hid hb;clear hbx hSx hRx hdx hb h0 h1 h2 h3 h4 h5 h6 h7 h8 h9 h10 h11 h12 h13 h14 h15 h16 h17 HBK;refine wpAny_done (by kernel_rfl) ?_ _;have hou:=HX.out.ou;rw [HN.out] at hou;have hbkx:wx.heap[g]? =some (.cells #[.map (some mb),.slice aU n cU] 208 (0,0)):=by rw [←HN.out];exact HX.out.blk
  have k1:=(zAa hbkx).1 1 _ rfl;have HOU:=hid hou;clear hou hbkx;rcases Nat.lt_trichotomy ra rb with hc | hc | hc
  · have hmm:max ra rb=rb∧min ra rb=ra:=by omega
    have HMM:=hid hmm;clear hmm;obtain ⟨g1,x,hidx,hB1,hg1,hcell,hx,hfr,hob,hst⟩:=zCp Tryz.underlying153 hi hz1 HOU.out (show rb < n from HRL.out.2);have HST:=hid hst;have HOB:=hid hob;clear hst hob hx hB1 hg1;have hgg:¬g=g1:=fun e=> HX.out.ug (by rw [HN.out,HOB.out,e])
    go_wp2_with fail
    (try rw [Exit.noGoto_ret])
    go_ret;have h1:=HST.out wx HOU.out (Value.int .i64 ra);refine ⟨⟨_,rfl⟩,?_,zAf (zAe HBX.out _) (by rw [HOB.out];exact h1.2)⟩;have h2:=HX.out.up (up':=up.set rb ra) (by rw [HN.out];exact HOB.out) h1.2 (by rw [List.length_set,HN.out,show nats (up.set rb ra)=(nats up).set rb (.int .i64 ra) from List.map_set ..];exact h1.1);rw [HJ.out];unfold joinU;rw [HRA.out,HRB.out,HMM.out.1,HMM.out.2];rw [HN.out] at h2;exact h2
  · subst hc;have hmm:max ra ra=ra∧min ra ra=ra:=by omega
    have HMM:=hid hmm;clear hmm;obtain ⟨g1,x,hidx,hB1,hg1,hcell,hx,hfr,hob,hst⟩:=zCp Tryz.underlying153 hi hz1 HOU.out (show ra < n from HRL.out.1);have HST:=hid hst;have HOB:=hid hob;clear hst hob hx hB1 hg1;have hgg:¬g=g1:=fun e=> HX.out.ug (by rw [HN.out,HOB.out,e])
    go_wp2_with fail
    (try rw [Exit.noGoto_ret])
    go_ret;have h1:=HST.out wx HOU.out (Value.int .i64 ra);refine ⟨⟨_,rfl⟩,?_,zAf (zAe HBX.out _) (by rw [HOB.out];exact h1.2)⟩;have h2:=HX.out.up (up':=up.set ra ra) (by rw [HN.out];exact HOB.out) h1.2 (by rw [List.length_set,HN.out,show nats (up.set ra ra)=(nats up).set ra (.int .i64 ra) from List.map_set ..];exact h1.1);rw [HJ.out];unfold joinU;rw [HRA.out,HRB.out,HMM.out.1,HMM.out.2];rw [HN.out] at h2;exact h2
  · have hmm:max ra rb=ra∧min ra rb=rb:=by omega
    have HMM:=hid hmm;clear hmm;obtain ⟨g1,x,hidx,hB1,hg1,hcell,hx,hfr,hob,hst⟩:=zCp Tryz.underlying153 hi hz1 HOU.out (show ra < n from HRL.out.1);have HST:=hid hst;have HOB:=hid hob;clear hst hob hx hB1 hg1;have hgg:¬g=g1:=fun e=> HX.out.ug (by rw [HN.out,HOB.out,e])
    go_wp2_with fail
    (try rw [Exit.noGoto_ret])
    go_ret;have h1:=HST.out wx HOU.out (Value.int .i64 rb);refine ⟨⟨_,rfl⟩,?_,zAf (zAe HBX.out _) (by rw [HOB.out];exact h1.2)⟩;have h2:=HX.out.up (up':=up.set ra rb) (by rw [HN.out];exact HOB.out) h1.2 (by rw [List.length_set,HN.out,show nats (up.set ra rb)=(nats up).set ra (.int .i64 rb) from List.map_set ..];exact h1.1);rw [HJ.out];unfold joinU;rw [HRA.out,HRB.out,HMM.out.1,HMM.out.2];rw [HN.out] at h2;exact h2
end
section
open Go.RowKit
section
variable {P:Program} {ops:Array Oper} {Q:Exit→Act→World→Prop}
theorem wpAny_makersT (es:List Nat) (G:World→World→Prop) (St:Nat→World→World→Prop) (S:(Nat→Bool)→World→Prop) (R:Nat→Value→List Value→World→Nat→Nat→Prop) (dp:Nat→List Nat) {fuel:Nat} {l0:Array Bool} {a0:Act} {w0:World}
 (hchk:zDj ops l0 es=true) (hdp:∀k∈es,∀j∈dp k,ahd ops j k=true∧isIn j es=true) (hf:es.length≤fuel) (hS0:S (fun k=> lst l0 k) w0) (hG0:∀w,G w w) (hGt:∀w w1 w2,G w w1→G w1 w2→G w w2) (hGs:∀w w',G w w'→w.heap.size≤w'.heap.size) (hStG:∀k∈es,∀w w',St k w w'→G w w') (hSs:∀k∈es,∀d w w',d k=false→G w0 w→St k w w'→S d w→S (upd d k true) w')
 (hRs:∀k∈es,∀i∈es,k≠i→∀v xs w w' lo hi,w0.heap.size≤lo→St i w w'→hi≤w.heap.size→R k v xs w lo hi→R k v xs w' lo hi)
 (hop:∀k∈es,∀o,ops[k]? =some o→∀vs d w,G w0 w→d k=false→S d w→(∀j,ahd ops j k=true→isIn j es=true→∃lo hi,hi≤w.heap.size∧R j (vs j) ((dp j).map vs) w lo hi)→∀K:Act→World→Prop,
  Shut (∀v w',St k w w'→R k v ((dp k).map vs) w' w.heap.size w'.heap.size→K ((fill a0 ops vs es).put o.dst v) w')→
  if Region.wanted o (yielded ops (fill a0 ops vs es).tmps)=true then Oper.wp P o (fill a0 ops vs es) w K Q else K ((fill a0 ops vs es).put o.dst undef) w)
 (hend:∀vs w (lo hi:Nat→Nat),G w0 w→S (fun k=> lst (zCr l0 es) k) w→(∀k∈es,R k (vs k) ((dp k).map vs) w (lo k) (hi k)∧w0.heap.size≤lo k∧hi k≤w.heap.size)→(∀j∈es,∀k∈es,j≠k→hi j≤lo k∨hi k≤lo j)→
  wpAny P .any ops Q (fuel - es.length) (zCr l0 es) (fill a0 ops vs es) w):wpAny P .any ops Q fuel l0 a0 w0:=by
 unfold zDj at hchk;simp only [Bool.and_eq_true,List.all_eq_true,List.mem_range,Bool.or_eq_true,Bool.not_eq_true'] at hchk;obtain ⟨c1,c2,c3,c4,c5,c6⟩:=hchk;have c5:l0.size=ops.size:=Nat.eq_of_beq_eq_true c5;have hlt:∀k∈es,k < ops.size:=fun k hk=> by have:=(c2 k hk).1;exact Nat.lt_of_lt_of_le (Nat.lt_succ_self k) (Nat.le_of_ble_eq_true this)
 have hds:∀k∈es,∀j∈es,j≠k→∀d,dsOf ops j=some d→dsOf ops k≠some d:=fun k hk j hj hne d h1 h2=> by
  rcases c4 k hk j hj with h | h
  · exact hne (Nat.eq_of_beq_eq_true h)
  · rw [h1,h2] at h
    simp at h
 have hcl0:∀k,lst l0 k=true→∀j∈zCb ops k,lst l0 j=true:=fun k hk j hj=> by
  have hks:k < ops.size:=by
   rw [←c5];rcases Nat.lt_or_ge k l0.size with h | h
   · exact h
   · unfold lst at hk;simp [Array.getElem?_eq_none h] at hk
  rcases c1 k hks with h | h
  · rw [h] at hk;cases hk
  · exact h j hj
 have key:∀ (m:Nat) (l:Array Bool) (vs:Nat→Value) (lo hi:Nat→Nat) (w:World),(es.filter fun k=> !lst l k).length=m→l.size=ops.size→(∀k,¬k∈es→lst l k=lst l0 k)→
  (∀k,lst l k=true→∀j∈zCb ops k,lst l j=true)→(∀k∈es,lst l k=true→R k (vs k) ((dp k).map vs) w (lo k) (hi k)∧w0.heap.size≤lo k∧hi k≤w.heap.size)→
  (∀j∈es,∀k∈es,lst l j=true→lst l k=true→j≠k→hi j≤lo k∨hi k≤lo j)→S (fun k=> lst l k) w→G w0 w→
  wpAny P .any ops Q (m+(fuel - es.length)) l (fill a0 ops vs es) w:=by
  intro m
  induction m with
  | zero=>
   intro l vs lo hi w hm hsz hsame hcl hR hdis hS hB;have hall:∀k∈es,lst l k=true:=fun k hk=> by
    cases h:lst l k with
    | true=> rfl
    | false=>
     have:k∈es.filter fun k=> !lst l k:=List.mem_filter.2 ⟨hk,by simp [h]⟩
     rw [List.eq_nil_of_length_eq_zero hm] at this;cases this
   have hLL:=eq_listAll (l:=l) (l0:=l0) (by omega) (fun j hj=> by rw [c5];exact hlt j hj) hsame hall;rw [Nat.zero_add];rw [hLL] at hS⊢;exact hend vs w lo hi hB hS (fun k hk=> hR k hk (hall k hk)) (fun j hj k hk hne=> hdis j hj k hk (hall j hj) (hall k hk) hne)
  | succ m ih=>
   intro l vs lo hi w hm hsz hsame hcl hR hdis hS hB;obtain ⟨k0,hk0,hu0⟩:∃k∈es,lst l k=false:=by
    cases hx:es.filter fun k=> !lst l k with
    | nil=> rw [hx] at hm;cases hm
    | cons k t=>
     have:k∈es.filter fun k=> !lst l k:=by rw [hx];simp
     obtain ⟨h1,h2⟩:=List.mem_filter.1 this;exact ⟨k,h1,by simpa using h2⟩
   have hf1:m+1+(fuel - es.length)=(m+(fuel - es.length))+1:=by omega
   rw [hf1];refine ⟨fun hr=> ?_,fun i hi0=> ?_⟩
   · obtain ⟨k,hk,hu,hmin⟩:=zFf (l:=l) ops.size ⟨k0,hk0,hlt k0 hk0,hu0⟩;have:k∈Region.ready .any ops l:=by
      rw [zDg hsz];refine ⟨hlt k hk,hu,fun j hj=> ?_⟩;rcases (c2 k hk).2.2 j hj with h | h
      · by_cases e:j∈es
        · have:=(c2 j e).2.1;rw [this] at h;cases h
        · rw [hsame j e];exact h
      · exact hmin j (zAs.1 h.1) (Nat.lt_of_lt_of_le (Nat.lt_succ_self j) (Nat.le_of_ble_eq_true h.2))
     rw [hr] at this;cases this
   · have hi1:=hi0;rw [zDg hsz] at hi1;obtain ⟨hilt,hiu,hia⟩:=hi1;have hie:i∈es:=by
      by_cases e:i∈es
      · exact e
      · exfalso
        rcases c3 i hilt with h | h | h
        · rw [hsame i e,h] at hiu;cases hiu
        · exact e (zAs.1 h)
        · have:=h k0 hk0;unfold ahd at this;have:=zBr hcl ops.size i hia k0 (by simpa using this);rw [hu0] at this;cases this
     have ho:ops[i]? =some ops[i]:=by simp [hilt]
     have hd:dsOf ops i=(ops[i]).dst:=by unfold dsOf;rw [ho];rfl
     have hil:i < l.size:=by omega
     refine wpOp_step ho fun K hK=> hop i hie ops[i] ho vs (fun k=> lst l k) w hB hiu hS (fun j hj hje=> ?_) K fun v w' hb hr=> hK _ _ ?_
     · have hjl:=zBr hcl ops.size i hia j (by unfold ahd at hj;simpa using hj);obtain ⟨h1,h2,h3⟩:=hR j (zAs.1 hje) hjl;exact ⟨lo j,hi j,h3,h1⟩
     · rw [←hd,fill_put hie c6 (fun k hk hne d h1=> hds i hie k hk hne d h1)];have hG':=hStG i hie _ _ hb;have hB':G w0 w':=hGt _ _ _ hB hG';have hSn:S (fun k=> lst (l.setIfInBounds i true) k) w':=by
        have hS2:=hSs i hie (fun k=> lst l k) _ _ hiu hB hb hS;have he:upd (fun k=> lst l k) i true=fun k=> lst (l.setIfInBounds i true) k:=funext fun k=> by rw [zCf hil];rfl
        rw [he] at hS2;exact hS2
       refine ih (l.setIfInBounds i true) (upd vs i v) (upd lo i w.heap.size) (upd hi i w'.heap.size) w' ?_ (by simp [hsz]) (fun k hk=> ?_) (fun k hk j hj=> ?_) (fun k hk hkl=> ?_) (fun j hj k hk hjl hkl hne=> ?_) hSn hB'
       · have:=unl_step hil hiu hie c6;omega
       · rw [zCf hil,if_neg (fun e=> hk (by rw [e];exact hie))];exact hsame k hk
       · rw [zCf hil] at hk⊢
         by_cases e:j=i
         · rw [if_pos e]
         · rw [if_neg e]
           by_cases e2:k=i
           · subst e2;exact hia j hj
           · rw [if_neg e2] at hk;exact hcl k hk j hj
       · by_cases e:k=i
         · subst e;have hmp:(dp k).map (upd vs k v)=(dp k).map vs:=List.map_congr_left fun j hj=> zAu vs v (show j≠k from fun e2=> by
            have:=zBr hcl ops.size k hia j (by have:=(hdp k hk j hj).1;unfold ahd at this;simpa using this);rw [e2,hiu] at this;cases this)
           rw [hmp,zAr,zAr,zAr];exact ⟨hr,hGs _ _ hB,Nat.le_refl _⟩
         · rw [zCf hil,if_neg e] at hkl;obtain ⟨h1,h2,h3⟩:=hR k hk hkl;have hmp:(dp k).map (upd vs i v)=(dp k).map vs:=List.map_congr_left fun j hj=> zAu vs v (show j≠i from fun e2=> by
            have:=zBr hcl ops.size k (fun x hx=> hcl k hkl x hx) j (by have:=(hdp k hk j hj).1;unfold ahd at this;simpa using this);rw [e2,hiu] at this;cases this)
           rw [hmp,zAu _ _ e,zAu _ _ e,zAu _ _ e];exact ⟨hRs k hk i hie e _ _ _ _ _ _ h2 hb h3 h1,h2,Nat.le_trans h3 (hGs _ _ hG')⟩
       · rw [zCf hil] at hjl hkl
         by_cases e:j=i
         · subst e;rw [zAr,zAr];have e2:k≠j:=Ne.symm hne;rw [if_neg e2] at hkl;rw [zAu _ _ e2,zAu _ _ e2];exact .inr (hR k hk hkl).2.2
         · rw [zAu _ _ e,zAu _ _ e]
           by_cases e2:k=i
           · subst e2;rw [if_neg e] at hjl;rw [zAr,zAr];exact .inl (hR j hj hjl).2.2
           · rw [if_neg e] at hjl;rw [if_neg e2] at hkl;rw [zAu _ _ e2,zAu _ _ e2];exact hdis j hj k hk hjl hkl hne
 have hun:∀k∈es,lst l0 k=false:=fun k hk=> (c2 k hk).2.1
 have h0:(es.filter fun k=> !lst l0 k).length=es.length:=by rw [List.filter_eq_self.2 (fun k hk=> by simp [hun k hk])]
 have:=key es.length l0 (fun k=> match dsOf ops k with | some d=> a0.tmps.getD d undef | none=> undef) (fun _=> 0) (fun _=> 0) w0 h0 c5 (fun _ _=> rfl) hcl0 (fun k hk hl=> by rw [hun k hk] at hl;cases hl) (fun j hj k _ hl=> by rw [hun j hj] at hl;cases hl) hS0 (hG0 _);rw [show fill a0 ops (fun k=> match dsOf ops k with | some d=> a0.tmps.getD d undef | none=> undef) es=a0 from fill_own,show es.length+(fuel - es.length)=fuel by omega] at this;exact this
def OwedT (P:Program) (ops:Array Oper) (Q:Exit→Act→World→Prop) (G:World→World→Prop) (St:Nat→World→World→Prop) (S:(Nat→Bool)→World→Prop) (R:RelD) (ds:List OpD) (a0:Act) (w0:World) (k:Nat) (o:Oper):Prop:=
 ∀ (vs:Nat→Value) (d:Nat→Bool) (w:World),G w0 w→d k=false→S d w→(∀j,(ahd ops j k && isIn j (nosD ds))=true→∃lo hi,hi≤w.heap.size∧R j (vs j) ((dpD ds j).map vs) w lo hi)→∀K:Act→World→Prop,
  Shut (∀v w',St k w w'→R k v ((dpD ds k).map vs) w' w.heap.size w'.heap.size→K ((zBg a0 vs ds).put o.dst v) w')→
  if Region.wanted o (yielded ops (zBg a0 vs ds).tmps)=true then Oper.wp P o (zBg a0 vs ds) w K Q else K ((zBg a0 vs ds).put o.dst undef) w
theorem zCn (ds:List OpD) (G:World→World→Prop) (St:Nat→World→World→Prop) (S:(Nat→Bool)→World→Prop) (R:RelD) {fuel:Nat} {l0:Array Bool} {a0:Act} {w0:World}
 (hchk:(zDj ops l0 (nosD ds) && (depsOk ops ds && (slotsOk ops ds && Nat.ble (nosD ds).length fuel)))=true) (hS0:S (fun k=> lst l0 k) w0)
 (hG0:∀w,G w w) (hGt:∀w w1 w2,G w w1→G w1 w2→G w w2) (hGs:∀w w',G w w'→w.heap.size≤w'.heap.size) (hStG:∀k w w',St k w w'→G w w')
 (hSs:∀k d w w',d k=false→G w0 w→St k w w'→S d w→S (upd d k true) w')
 (hRs:∀k i,k≠i→∀v xs w w' lo hi,w0.heap.size≤lo→St i w w'→hi≤w.heap.size→R k v xs w lo hi→R k v xs w' lo hi)
 (hop:Each ops (OwedT P ops Q G St S R ds a0 w0) ds)
 (hend:∀vs w (lo hi:Nat→Nat),G w0 w→S (fun k=> lst (zCr l0 (nosD ds)) k) w→(∀k,isIn k (nosD ds)=true→R k (vs k) ((dpD ds k).map vs) w (lo k) (hi k)∧w0.heap.size≤lo k∧hi k≤w.heap.size)→
  (∀j k,(isIn j (nosD ds) && (isIn k (nosD ds) && !Nat.beq j k))=true→hi j≤lo k∨hi k≤lo j)→
  wpAny P .any ops Q (fuel - (nosD ds).length) (zCr l0 (nosD ds)) (zBg a0 vs ds) w):wpAny P .any ops Q fuel l0 a0 w0:=by
 simp only [Bool.and_eq_true] at hchk;obtain ⟨h1,h2,h3,h4⟩:=hchk;unfold depsOk at h2;simp only [List.all_eq_true,Bool.and_eq_true] at h2;refine wpAny_makersT (nosD ds) G St S R (dpD ds) h1 h2 (Nat.le_of_ble_eq_true h4) hS0 hG0 hGt hGs (fun k _=> hStG k) (fun k _=> hSs k) (fun k _ i _=> hRs k i) (fun k hk o ho vs d w hb hdk hS hR K hK=> ?_) (fun vs w lo hi hb hS hR hdis=> ?_)
 · have:=Each.mem hop k hk o ho vs d w hb hdk hS (fun j hj=> by rw [Bool.and_eq_true] at hj;exact hR j hj.1 hj.2) K (by rw [←zDq h3];exact hK);rw [zDq h3];exact this
 · rw [zDq h3];exact hend vs w lo hi hb hS (fun k hk=> hR k (zAs.1 hk)) (fun j k hjk=> by
    simp only [Bool.and_eq_true,Bool.not_eq_true'] at hjk;exact hdis j (zAs.1 hjk.1) k (zAs.1 hjk.2.1) (fun e=> by subst e;simp at hjk))
end
theorem append_own_op {P:Program} {o:Oper} {a:Act} {w:World} {K:Act→World→Prop} {Q:Exit→Act→World→Prop}
 (hg:o.guard=none) (s x:Operand) (t:TypeId) (hop:o.op=Op.call {callee:=Callee.builtin Builtin.append,args:=#[s,x],argTypes:=#[t,t]})
 (base e size bytes:Nat) (i:TypeInfo) (z:Value) (ht:P.underlying t=some (.slice e)) (hi:P.info? e=some i) (hz:i.zero=some z)
 (hsize:i.size=size) (hby:i.bytes=bytes) (hzs:z.cells.size=size)
 (v:Value) (n:Nat) (xs:List Value) (hown:w.ownsRow base e size v n xs) (ad:Addr) (m c:Nat) (news:List Value) (hs:a.eval s=v) (hx:a.eval x=.slice (some ad) m c)
 (hl:news.length=m * size) (hnews:∀j u,news[j]? =some u→w.cell? (ad.add j)=some u) (h1:∀u∈news,u.oneCell'=true) (hm0:0 < m)
 (h63:n+m≤maxLen) (hbytes:(n+m) * bytes≤140737488355328) (hbase:base≤w.heap.size)
 (hK:∀g cap w',w'.ownsRow base e size (.slice (some ⟨g,0,none⟩) (n+m) cap) (n+m) (xs++news)→g < w'.heap.size→((v.ownBlock=some g∧w.grownBy w' (some g))∨(g=w.heap.size∧w.grownBy w' none))→
  K (a.put o.dst (.slice (some ⟨g,0,none⟩) (n+m) cap)) w'):Oper.wp P o a w K Q:=by
 have h:=zDe (ops:=#[]) (Q:=Q) (E:=False) hg s x t hop base e size bytes i z ht hi hz hsize hby hzs v n xs hown ad m c news hs hx hl hnews h1 hm0 h63 hbytes hbase hK;have hw:Region.wanted o (yielded #[] a.tmps)=true:=by simp [Region.wanted,hg]
 rwa [if_pos hw] at h
def OneD (x:Value) (t:Nat) (v:Value) (w:World) (lo hi:Nat):Prop:=∃b,v=.slice (some ⟨b,0,none⟩) 1 1∧lo≤b∧b < hi∧w.heap[b]? =some (.cells #[x] t (0,0))
theorem OneD.later {x:Value} {t lo hi:Nat} {v:Value} {w w':World} (h:OneD x t v w lo hi) (hb:Below w.heap.size w w'):OneD x t v w' lo hi:=by
 obtain ⟨b,h1,h2,h3,h4⟩:=h;exact ⟨b,h1,h2,h3,zAm hb h4⟩
theorem OneD.grown {x:Value} {t lo hi g:Nat} {v:Value} {w w':World} (h:OneD x t v w lo hi) (hg:w.grownBy w' (some g)) (hl:g < lo):OneD x t v w' lo hi:=by
 obtain ⟨b,h1,h2,h3,h4⟩:=h;exact ⟨b,h1,h2,h3,zAk hg (by omega) h4⟩
end
section
open Go.RowKit
theorem zAx {w:World} {B e size n r:Nat} {v:Value} {xs:List Value} (h:w.ownsRow B e size v n xs) (hr:v.ownBlock=some r):B≤r∧∃cs,w.heap[r]? =some (.cells cs e (0,0)):=by
 rcases h.2 with ⟨rfl,_⟩ | ⟨b,c,cs,rfl,hb,hblk,_⟩
 · cases hr
 · cases hr;exact ⟨hb,_,hblk⟩
theorem zAv {w:World} {g h t t':Nat} {cs cs':Array Value} (hg:w.heap[g]? =some (.cells cs t (0,0))) (hh:w.heap[h]? =some (.cells cs' t' (0,0))) (hne:t≠t'):g≠h:=fun e=> by
 subst e;rw [hg] at hh;cases hh;exact hne rfl
theorem grown_any {w w':World} {r:Option Nat} (h:w.grownBy w' none):w.grownBy w' r:=⟨h.os,h.tape,h.output,h.size,fun k hk _=> h.block k hk (by simp)⟩
theorem NN.fault {w w':World} {p:Value} {l:List El} {b:Nat} {cs:Array Value} (h:NN w p l) (hx:w.heap[b]? =some (.cells cs 32 (0,0))) (hg:w.grownBy w' (some b)):NN w' p l:=by
 rcases h with h | ⟨B,g,vl,vn,vb,bn,bp,bb,hp,h⟩
 · exact .inl h
 · have row:∀ {e size n:Nat} {v:Value} {xs:List Value},w.ownsRow B e size v n xs→e≠32 →w'.ownsRow B e size v n xs:=fun ho hne=>
    zAz ho hg fun k hk e=> by
     cases e;obtain ⟨_,c,hc⟩:=zAx ho hk;exact zAv hc hx hne rfl
   refine .inr ⟨B,g,vl,vn,vb,bn,bp,bb,hp,{h with
    blk:=zAk hg (zAv h.blk hx (by decide)) h.blk
    ol:=row h.ol (by decide)
    on:=row h.on (by decide)
    ob:=row h.ob (by decide)
    mn:=h.mn.kept hg (by have:=h.mn.ne_blk hx;intro e;cases e;exact this rfl)
    mp:=h.mp.kept hg (by have:=h.mp.ne_blk hx;intro e;cases e;exact this rfl)
    mb:=h.mb.kept hg (by have:=h.mb.ne_blk hx;intro e;cases e;exact this rfl)}⟩
theorem NN.set {w:World} {p:Value} {l:List El} {b:Nat} {cs:Array Value} (h:NN w p l) (hx:w.heap[b]? =some (.cells cs 32 (0,0))) (o:Nat) (v:Value):
 NN (w.setCell ⟨b,o,none⟩ v) p l∧(w.setCell ⟨b,o,none⟩ v).heap[b]? =some (.cells (cs.setIfInBounds o v) 32 (0,0)):=
 ⟨h.fault hx (grown_set w b o v),blk_set hx v⟩
def EightD (x:El) (v:Value) (w:World) (lo hi:Nat):Prop:=∃b,v=.slice (some ⟨b,0,none⟩) 1 1∧lo≤b∧b < hi∧w.heap[b]? =some (.cells #[.int .u8 x.kind,.string x.name,.string x.a,.string x.b,.string x.c,.string x.d,.float .f64 x.val,.int .i64 x.ph] 48 (0,0))
theorem EightD.later {x:El} {v:Value} {w w':World} {lo hi:Nat} (h:EightD x v w lo hi) (hb:Below w.heap.size w w'):EightD x v w' lo hi:=by
 obtain ⟨b,h1,h2,h3,h4⟩:=h;exact ⟨b,h1,h2,h3,zAm hb h4⟩
theorem news_cells {w:World} {b t:Nat} {cs:Array Value} (h:w.heap[b]? =some (.cells cs t (0,0))):∀j u,cs.toList[j]? =some u→w.cell? ((⟨b,0,none⟩:Addr).add j)=some u:=fun j u hj=> by
 have:(⟨b,0,none⟩:Addr).add j=⟨b,j,none⟩:=by
  simp only [Addr.add]
  simp
  try (intro h;exact h.symm)
 rw [this];exact (zAb h).1 j u (by simpa using hj)
theorem nwith_net (pa:Addr) (l:List El) (x:El) (w:World) (hp:NN w (.pointer (some pa)) l) (hl:l.length≤100000) (hok:∀y∈l,y.Ok) (hx:x.Ok):
 Calls Tryz.prog 149 #[.pointer (some pa),.agg #[.int .u8 x.kind,.string x.name,.string x.a,.string x.b,.string x.c,.string x.d,.float .f64 x.val,.int .i64 x.ph]] w (RetOf NN (l++ [x]) w):=by
 obtain ⟨ie,hie,hi0,hi1,hi2⟩:=info_parts zFh;have hb2:=((Below.refl w.heap.size w).alloc (Nat.le_refl _) (.cells #[.int .u8 x.kind,.string x.name,.string x.a,.string x.b,.string x.c,.string x.d,.float .f64 x.val,.int .i64 x.ph] 48)).alloc (by simp) (.cells #[.int .i64 0,.int .i64 0] 32);have HP:=hid (hp.below hb2 (Nat.le_refl _));have HB:=hid hb2;have HEL:Hid (((w.alloc (.cells #[.int .u8 x.kind,.string x.name,.string x.a,.string x.b,.string x.c,.string x.d,.float .f64 x.val,.int .i64 x.ph] 48)).alloc (.cells #[.int .i64 0,.int .i64 0] 32)).heap[w.heap.size]? =some (.cells #[.int .u8 x.kind,.string x.name,.string x.a,.string x.b,.string x.c,.string x.d,.float .f64 x.val,.int .i64 x.ph] 48 (0,0))):=hid ((heap_alloc_old _ _ (by simp)).trans (heap_alloc_new w (.cells #[.int .u8 x.kind,.string x.name,.string x.a,.string x.b,.string x.c,.string x.d,.float .f64 x.val,.int .i64 x.ph] 48)));have HFZ:Hid (((w.alloc (.cells #[.int .u8 x.kind,.string x.name,.string x.a,.string x.b,.string x.c,.string x.d,.float .f64 x.val,.int .i64 x.ph] 48)).alloc (.cells #[.int .i64 0,.int .i64 0] 32)).heap[w.heap.size+1]? =some (.cells #[.int .i64 0,.int .i64 0] 32 (0,0))):=hid (by have h:=heap_alloc_new (w.alloc (.cells #[.int .u8 x.kind,.string x.name,.string x.a,.string x.b,.string x.c,.string x.d,.float .f64 x.val,.int .i64 x.ph] 48)) (.cells #[.int .i64 0,.int .i64 0] 32);simpa using h);have HS1:=hid (show ((w.alloc (.cells #[.int .u8 x.kind,.string x.name,.string x.a,.string x.b,.string x.c,.string x.d,.float .f64 x.val,.int .i64 x.ph] 48)).alloc (.cells #[.int .i64 0,.int .i64 0] 32)).heap.size=w.heap.size+2 by simp)
 have HOK:=hid (show∀y∈l++ [x],y.Ok from fun y hy=> by rcases List.mem_append.1 hy with h | h;exact hok y h;have e:y=x:=(by simpa using h);rw [e];exact hx);have HLE:=hid hl;obtain ⟨g0,B0,hgb⟩:∃ (g0:Nat) (B0:Bool),pa=⟨g0,0,none⟩:=by
  rcases hp with ⟨h,_⟩ | ⟨_,g,_,_,_,_,_,_,h,_⟩
  · cases h
  · cases h;exact ⟨g,true,rfl⟩
 subst hgb;have hmd:((w.alloc (.cells #[.int .u8 x.kind,.string x.name,.string x.a,.string x.b,.string x.c,.string x.d,.float .f64 x.val,.int .i64 x.ph] 48)).alloc (.cells #[.int .i64 0,.int .i64 0] 32)).cell? ⟨g0,0,none⟩=some (.bool true):=by
  rcases HP.out with ⟨h,_⟩ | ⟨_,g,_,_,_,_,_,_,h,hh⟩
  · cases h
  · cases h;exact (zAb hh.blk).1 0 _ rfl
 have HMD:=hid hmd;clear hp hb2 hok hx hmd;go_enter Tryz.func149,Tryz.ntmps149;go_upto_region 1 with fail;generalize (w.alloc (.cells #[.int .u8 x.kind,.string x.name,.string x.a,.string x.b,.string x.c,.string x.d,.float .f64 x.val,.int .i64 x.ph] 48)).alloc (.cells #[.int .i64 0,.int .i64 0] 32)=w1 at *;go_upto_region 3 with (go_at_call 61;refine (zGh _ _ HMD.out).mono ?_;rintro e wn ⟨rfl,rfl⟩);clear HMD;generalize hgz:w.heap.size=gz at *;refine wp_region_any (by kernel_rfl) ?_;change wpAny _ _ _ _ _ _ _ (World.drew _);refine zAy [⟨some 10,0, []⟩,⟨some 11,1, []⟩,⟨some 12,2, []⟩,⟨some 13,3, []⟩]
  (fun w'=> w'.heap[gz]? =some (.cells #[.int .u8 x.kind,.string x.name,.string x.a,.string x.b,.string x.c,.string x.d,.float .f64 x.val,.int .i64 x.ph] 48 (0,0))∧w'.heap[gz+1]? =some (.cells #[.int .i64 0,.int .i64 0] 32 (0,0)))
  (fun oq v _ ww lo hi=> (match oq with | 0=> v=.pointer (some ⟨g0,0,none⟩) | 1=> True | 2=> v=.agg #[.int .u8 x.kind,.string x.name,.string x.a,.string x.b,.string x.c,.string x.d,.float .f64 x.val,.int .i64 x.ph] | 3=> True | _=> True)∧(oq=1→RowD 48 8 l.length (l.flatMap ea) v ww lo hi)∧(oq=3→EightD x v ww lo hi)) (by kernel_rfl) ?hSt (fun _ _ hb h=> ⟨zAm hb h.1,zAm hb h.2⟩) (fun _ _ _ _ _ _ _ hb _ h=> ⟨h.1,fun e=> (h.2.1 e).later hb,fun e=> (h.2.2 e).later hb⟩) ?hopt ?hendt
 case hSt=> exact ⟨zAm (Below.refl _ _).drew HEL.out,zAm (Below.refl _ _).drew HFZ.out⟩
 case hopt=>
  delta Owed
  simp only [zBg,Act.put,List.setIfInBounds_toArray,lz,ls];refine Each.cons rfl ?_ (Each.cons rfl ?_ (Each.cons rfl ?_ (Each.cons rfl ?_ Each.nil)))
  all_goals intro vs w2 hb2 hS2 hR2 K hK;try simp only [lz,ls] at hK⊢
  · go_simp;exact hK.out _ _ (Below.refl _ _) ⟨rfl,(fun e=> (by cases e)),(fun e=> (by cases e))⟩
  · have h0:vs 0=_:=exR (hR2 0 (by kernel_rfl)) (fun _ _ h=> h.1);simp only [h0] at hK⊢;rw [if_pos (by rfl)];go_wp2_with (go_at_call 121;refine (zFo _ l _ (HP.out.below (zAq hb2) (Nat.le_refl _)) HLE.out).mono ?_;rintro e w4 ⟨v0,xs,rfl,hown,rfl,hb⟩);exact hK.out _ _ hb ⟨trivial,fun _=> RowD.of hown,(fun e=> (by cases e))⟩
  · have k0:=(zAb hS2.1).1 0 _ rfl;have k1:=(zAb hS2.1).1 1 _ rfl;have k2:=(zAb hS2.1).1 2 _ rfl;have k3:=(zAb hS2.1).1 3 _ rfl;have k4:=(zAb hS2.1).1 4 _ rfl;have k5:=(zAb hS2.1).1 5 _ rfl;have k6:=(zAb hS2.1).1 6 _ rfl;have k7:=(zAb hS2.1).1 7 _ rfl;go_simp;exact hK.out _ _ (Below.refl _ _) ⟨rfl,(fun e=> (by cases e)),(fun e=> (by cases e))⟩
  · have h2:vs 2=_:=exR (hR2 2 (by kernel_rfl)) (fun _ _ h=> h.1);simp only [h2] at hK⊢;go_simp;exact hK.out _ _ ((Below.refl _ _).alloc (Nat.le_refl _) _) ⟨trivial,(fun e=> (by cases e)),fun _=> ⟨w2.heap.size,rfl,Nat.le_refl _,by simp,heap_alloc_new _ _⟩⟩
 case hendt=>
  intro vs wx lo hiv hbx hSx hRx hdx;have h0:vs 0=_:=(hRx 0 (by kernel_rfl)).1.1;have Y1:=(hRx 1 (by kernel_rfl)).1.2.1 rfl;have Z1:=(hRx 1 (by kernel_rfl)).2;have h2:vs 2=_:=(hRx 2 (by kernel_rfl)).1.1;have Y3:=(hRx 3 (by kernel_rfl)).1.2.2 rfl;have Z3:=(hRx 3 (by kernel_rfl)).2;simp only [zBg,Act.put,List.setIfInBounds_toArray,lz,ls,h0,h2];have hb:=zAq hbx;obtain ⟨⟨a0,c0,h1⟩,hown,hlt1⟩:=Y1;obtain ⟨b3,h3,hlo3,hhi3,hrow3⟩:=Y3;have HB2:=hid (HB.out.trans (hb.mono (by have:=HS1.out;omega)));have HFZ2:=hid hSx.2;have HOW:=hid hown;have HROW:=hid hrow3;have HLO:=hid (show gz+2≤lo 1 by have h:=Z1.1;have h2:w1.heap.size≤lo 1:=h;have:=HS1.out;omega);have HSX:=hid (show gz+2≤wx.heap.size by have:=hb.size;have:=HS1.out;omega);clear hbx hSx hRx hdx hb hown hlt1 hlo3 hhi3 hrow3 Z1 Z3 h0 h2 HEL HFZ HP;rw [h1] at HOW;simp only [h1,h3];clear h1 h3;have HOV:=hid (zBs HOW.out HLO.out);clear HOW HLO;refine zAt (i:=4) (by kernel_rfl) rfl (fun K hK=> ?_);rw [if_pos (by rfl)];refine append_own_op rfl _ _ _ rfl (gz+2) 48 8 104 ie (.agg #[.int .u8 0,.string ⟨#[]⟩,.string ⟨#[]⟩,.string ⟨#[]⟩,.string ⟨#[]⟩,.string ⟨#[]⟩,.float .f64 0,.int .i64 0]) Tryz.underlying26 hie hi0 hi1 hi2 rfl _ l.length _ HOV.out ⟨b3,0,none⟩ 1 1 (ea x) (by rfl) (by rfl) rfl (news_cells HROW.out) (ea_one x) (by decide) (by have:=HLE.out;unfold maxLen;omega) (by have:=HLE.out;omega) HSX.out ?_;intro g6 cap6 w6 hown6 hlt6 htwo;refine hK.out _ _ ?_;clear hK;have hgr:wx.grownBy w6 (Value.slice a0 l.length c0).ownBlock:=by
   rcases htwo with ⟨e,h⟩ | ⟨_,h⟩
   · rw [e];exact h
   · exact grown_any h
  have HGE:=hid (show∀r,(Value.slice a0 l.length c0).ownBlock=some r→gz+2≤r from fun r e=> (World.ownsRow.lt HOV.out r e).1);have HB6:=hid (HB2.out.grown hgr (by have:=HSX.out;omega) (fun r e=> by have:=HGE.out r e;omega));have HFZ6:=hid ((hgr.block _ (Array.getElem?_eq_some_iff.1 HFZ2.out).1 (fun e=> by have:=HGE.out _ e.symm;omega)).trans HFZ2.out);have HS6:=hid (show gz+2≤w6.heap.size from Nat.le_trans HSX.out hgr.size);obtain ⟨n1,hn1⟩:∃n1,l.length+1=n1:=⟨_,rfl⟩;obtain ⟨L,hL⟩:∃L,l++ [x]=L:=⟨_,rfl⟩;have HLL:=hid hL;have HSL:=hid (show IsSl w6 8 (.slice (some ⟨g6,0,none⟩) n1 cap6) L.length (L.flatMap ea) by have h:=IsSl.of_own hown6;rw [←hn1,←hL];simpa using h);have HLN:=hid (show L.length≤100001 by rw [←hL];have:=HLE.out;simp;omega);rw [hL] at HOK;rw [hn1];clear hgr hown6 hlt6 htwo HB2 HFZ2 HOV HROW HSX HGE hn1 hL;refine zAt (i:=5) (by kernel_rfl) rfl (fun K hK=> ?_);rw [if_pos (by rfl)];go_wp2_with (go_at_call 6;refine (nof_any _ L _ HSL.out HOK.out (by have:=HLN.out;omega)).mono ?_;rintro e w7 ⟨p',rfl,hpp,hb⟩;have HPP:=hid hpp;clear hpp;have HB7:=hid (HB6.out.trans (hb.mono (by have:=HS6.out;omega)));have HFZ7:=hid (zAm hb HFZ6.out);clear hb HB6 HFZ6);refine hK.out _ _ ?_;clear hK;have z0:=(zAb HFZ7.out).1 0 _ rfl;have z1:=(zAb HFZ7.out).1 1 _ rfl;have f0:=(zAb HFZ7.out).2 0;have f1:=(zAb HFZ7.out).2 1;refine wpAny_two (i:=6) (j:=7) (by kernel_rfl) rfl rfl (fun K hK=> ?_) (fun K hK=> ?_)
  all_goals go_simp
  all_goals refine hK.out _ _ ?_
  all_goals clear hK
  rotate_left
  refine zAt (i:=6) (by kernel_rfl) rfl (fun K hK=> ?_)
  rotate_left
  refine zAt (i:=7) (by kernel_rfl) rfl (fun K hK=> ?_)
  all_goals go_simp
  all_goals refine hK.out _ _ ?_
  all_goals clear hK
  all_goals
   refine zAt (i:=8) (by kernel_rfl) rfl (fun K hK=> ?_);go_simp;refine hK.out _ _ ?_;clear hK;refine zAt (i:=9) (by kernel_rfl) rfl (fun K hK=> ?_);go_simp;refine hK.out _ _ ?_;clear hK;refine wpAny_done (by kernel_rfl) ?_ _;go_wp2
   (try simp only [Exit.inBlock,Exit.then])
   refine bodyPost_ret (v:=.tuple #[p',.agg #[.int .i64 (ofL L).2.1,.int .i64 (ofL L).2.2]]) ?_ rfl ⟨p',by rw [HLL.out],?_,?_⟩
   · rw [zAi rfl];go_simp
   · rw [HLL.out];rcases HPP.out with h | ⟨h1,h2,h3⟩
     · exact .inl h
     · exact .inr ⟨h1,h2,(NN.set (NN.set h3 HFZ7.out _ _).1 (NN.set h3 HFZ7.out _ _).2 _ _).1⟩
   · subst hgz
     repeat (first | with_reducible exact HB7.out | with_reducible refine Below.setCell ?_ (by dsimp only;omega) _)
theorem nwith_any (pa:Addr) (l:List El) (x:El) (w:World) (hp:NN w (.pointer (some pa)) l) (hl:l.length≤100000) (hok:∀y∈l,y.Ok) (hx:x.Ok):
 Calls Tryz.prog 149 #[.pointer (some pa),.agg #[.int .u8 x.kind,.string x.name,.string x.a,.string x.b,.string x.c,.string x.d,.float .f64 x.val,.int .i64 x.ph]] w fun e w'=> (∃p':Value,e=.returned (.tuple #[p',.agg #[.int .i64 (ofL (l++ [x])).2.1,.int .i64 (ofL (l++ [x])).2.2]]))∧Below w.heap.size w w':=
 (nwith_net pa l x w hp hl hok hx).mono fun _ _ ⟨p',h,_,hb⟩=> ⟨⟨p',h⟩,hb⟩
end
end Go.Proofs.YtejooaeppcjhjaaGreat
