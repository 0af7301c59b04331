/- a part of the proof of the last text -/
import Derived.Test.YtaegmlhfecfgkaaGreatDoorZStpW2
namespace Go.Proofs.YtaegmlhfecfgkaaGreatDoor
set_option linter.all false
set_option maxHeartbeats 4000000
set_option maxRecDepth 100000
section
open Go.RowKit FV
theorem sgn_lo {x:Nat} (h:x < 2 ^ 63):sgn x=false:=by unfold sgn;rw [Nat.div_eq_of_lt h];rfl
theorem fsz_lt (x:Nat):fsize x < 2 ^ 63:=Nat.mod_lt _ (by decide)
theorem fsz_mod (x:Nat):fsize x % 2 ^ 63=fsize x:=Nat.mod_eq_of_lt (fsz_lt x)
theorem ffin_fin {x:Nat} (h:ffin x=true):FV.fin x=true:=by
 cases hf:FV.fin x with
 | true=> rfl
 | false=>
  exfalso
  have h3:¬x % 2 ^ 63 < 2047 * 2 ^ 52:=by simpa [FV.fin] using hf
  have hr:(∃s,dbl.read x=.infinity s)∨∃s t,dbl.read x=.nan s t:=by
   unfold Ieee.Format.read;simp only [sw_eq,inf_eq,bin_eq];have h4:2047 * 2 ^ 52≤x % 2 ^ 63:=by omega
   rw [if_neg (by omega),if_neg (by omega)]
   split
   · exact .inl ⟨_,rfl⟩
   · exact .inr ⟨_,_,rfl⟩
  have hn:fsub x x=qnan:=by
   unfold fsub fop;show (dbl.sub x x).getD qnan=qnan;unfold Ieee.Format.sub;rcases hr with ⟨s,hr⟩ | ⟨s,t,hr⟩ <;> rw [hr] <;> cases s <;> simp [Ieee.Datum.sum,Ieee.Datum.opposite]
  unfold ffin at h;rw [hn] at h
  revert h
  decide+kernel
end
section
open Go.RowKit FV
abbrev bigF:Nat:=9218868437227405311
theorem mag_big {r:Nat} (h:r < 2047 * 2 ^ 52):mag r≤mag bigF:=by
 obtain ⟨K,hK⟩:∃K,K=2045:=⟨_,rfl⟩;have h1:mag bigF=(2 ^ 53 - 1) * 2 ^ K:=by
  have:=mag_rung K (2 ^ 53 - 1) (by omega) (.inl (by omega));have he:K * 2 ^ 52+(2 ^ 53 - 1)=bigF:=by show _=9218868437227405311;omega
  rw [he] at this;exact this
 rw [h1];unfold mag
 split
 · have:=Nat.two_pow_pos K;have h3:(2 ^ 53 - 1) * 1≤ (2 ^ 53 - 1) * 2 ^ K:=Nat.mul_le_mul_left _ this
   omega
 · exact Nat.mul_le_mul (by have:=Nat.mod_lt r (show 0 < 2 ^ 52 by decide);omega) (Nat.pow_le_pow_right (by decide) (by subst hK;omega))
theorem fin_ffin {x:Nat} (h:FV.fin x=true):ffin x=true:=by
 have hs:dbl.sub x x=some (dbl.nearest false 0 (plc x)):=by
  unfold Ieee.Format.sub;rw [read_fin h];cases hs:sgn x <;> simp [Ieee.Datum.sum,Ieee.Datum.opposite,signed_eq,sg,Ieee.Format.write,Int.add_right_neg,Int.add_left_neg]
 have hz:∀b,dbl.nearest b 0 (plc x)=dbl.word b 0:=fun b=> by unfold Ieee.Format.nearest;rw [if_pos rfl]
 unfold ffin fsub fop;show (ford ((dbl.sub x x).getD qnan) 0==some .eq)=true;rw [hs,hz]
 decide+kernel
theorem notfin {x:Nat} (h:FV.fin x=false):ffin x=false:=by
 cases hh:ffin x with
 | false=> rfl
 | true=> rw [ffin_fin hh] at h;cases h
theorem ord_self {x:Nat} (h:FV.fin x=true):ford x x=some .eq:=by
 show dbl.order x x=_;exact order_eq h h rfl
theorem isInf_fin {x:Nat} (h:FV.fin x=true):(ford (fsize x) bigF==some .gt)=false:=by
 have fx:FV.fin (fsize x)=true:=by unfold FV.fin at *;rw [fsz_mod];exact h
 have fb:FV.fin bigF=true:=by decide
 have hlt:fsize x < 2047 * 2 ^ 52:=by unfold FV.fin at h;have:=of_decide_eq_true h;exact this
 have:dbl.order (fsize x) bigF=some (compare (val (fsize x)) (val bigF)):=order_fin fx fb;show (dbl.order (fsize x) bigF==some .gt)=false;rw [this];have hv:val (fsize x)≤val bigF:=by
  unfold val;rw [sgn_lo (fsz_lt x),sgn_lo (show bigF < 2 ^ 63 by decide),fsz_mod,Nat.mod_eq_of_lt (show bigF < 2 ^ 63 by decide)];have:=mag_big hlt;show ((mag (fsize x):Nat):Int)≤ ((mag bigF:Nat):Int)
  exact_mod_cast this
 rw [beq_eq_false_iff_ne];intro hc;have h1:=Option.some.inj hc;rw [Int.compare_eq_gt] at h1
 omega
theorem isInf_not {x:Nat} (h:FV.fin x=false):(ford (fsize x) bigF==some .gt)=true∨((ford (fsize x) bigF==some .gt)=false∧(ford x x !=some .eq)=true):=by
 have h3:¬x % 2 ^ 63 < 2047 * 2 ^ 52:=by simpa [FV.fin] using h
 have fb:FV.fin bigF=true:=by decide
 have hsz:fsize x=x % 2 ^ 63:=rfl
 by_cases he:x % 2 ^ 63=2047 * 2 ^ 52
 · left
   rw [hsz,he]
   decide+kernel
 · right
   have hr:∃s t,dbl.read x=.nan s t:=by
    unfold Ieee.Format.read;simp only [sw_eq,inf_eq,bin_eq];rw [if_neg (by omega),if_neg (by omega),if_neg (by omega)];exact ⟨_,_,rfl⟩
   have hr2:∃s t,dbl.read (fsize x)=.nan s t:=by
    unfold Ieee.Format.read;simp only [sw_eq,inf_eq,bin_eq,fsz_mod];rw [hsz,if_neg (by omega),if_neg (by omega),if_neg (by omega)];exact ⟨_,_,rfl⟩
   obtain ⟨s,t,hr⟩:=hr;obtain ⟨s2,t2,hr2⟩:=hr2
   constructor
   · show (dbl.order _ _==some .gt)=false;unfold Ieee.Format.order;rw [hr2,read_fin fb]
     simp [Ieee.Datum.order]
   · show (dbl.order _ _ !=some .eq)=true;unfold Ieee.Format.order;rw [hr]
     simp [Ieee.Datum.order]
theorem fin_iff (x:Nat):FV.fin x=ffin (fc x):=by
 rw [ffin_fc];cases h:FV.fin x with
 | true=> rw [fin_ffin h]
 | false=> rw [notfin h]
theorem ord_le {x y:Nat} (hx:FV.fin x=true) (hy:FV.fin y=true):(ford x y==some .lt || ford x y==some .eq)=!(ford x y==some .gt):=by
 have:ford x y=some (compare (val x) (val y)):=order_fin hx hy;rw [this];cases compare (val x) (val y) <;> rfl
end
section
open Go.RowKit
def zrs:List Cx:=List.replicate 4096 (0,0)
theorem board_new (p:Value) (nd n:Nat):
 ((Tryz.zeroCells90.setIfInBounds 0 p).setIfInBounds 1 (.int .i64 nd)).setIfInBounds 2 (.int .i64 n)=boardCells p nd n false zrs:=by
 kernel_rfl
theorem results_cell1M {fn:Func} {p:Tmp} {ty:TypeId} (h:fn.results=#[.cell p ty]) (tmps:Array Value) (P:Program) (w:World):
 (results fn tmps).run P w=((asAddr (tmps.getD p undef)).run P w).andThen fun a w₁=> (loadVar ty a).run P w₁:=by
 simp only [results,h]
 simp [Sem.run_bind,Result.andThen]
theorem abs_any (x:Nat) (w:World):
 Calls Tryz.prog 72 #[.float .f64 x] w fun e w'=> e=.returned (.float .f64 (fsize x))∧w=w':=by
 have b1:=bits_law;have b2:=frombits_law;go_enter Tryz.func72,Tryz.ntmps72;go_wp2;go_ret;exact ⟨congrArg (fun y=> Ending.returned (.float .f64 y)) (fsize_walk x),rfl⟩
theorem isinf_any (x:Nat) (w:World):
 Calls Tryz.prog 40 #[.float .f64 x,.int .i64 0] w fun e w'=> e=.returned (.bool (ford (fsize x) bigF==some .gt))∧w=w':=by
 go_enter Tryz.func40,Tryz.ntmps40;go_wp2_with (go_at_call 72;refine (abs_any _ _).mono ?_;rintro e w' ⟨rfl,rfl⟩);go_ret;exact ⟨rfl,rfl⟩
theorem made_any (p:Value) (l:List El) (w:World) (hp:NN w p l) (hn:has (l.map El.name) ⟨#[]⟩=false):
 Calls Tryz.prog 39 #[p] w fun e w'=> e=.returned (.bool (!noNet p))∧w=w':=by
 have HP:=hid hp;have HN:=hid hn;clear hp hn;cases hq:noNet p
 · have HQ:=hid hq;go_enter Tryz.func39,Tryz.ntmps39;go_wp2_with (go_at_call 67;refine (nwithout_none _ l _ HP.out HN.out).mono ?_;rintro e w' ⟨rfl,rfl⟩;rw [HQ.out]);go_ret;exact ⟨rfl,rfl⟩
 · have HQ:=hid hq;go_enter Tryz.func39,Tryz.ntmps39;go_wp2_with (go_at_call 67;refine (nwithout_none _ l _ HP.out HN.out).mono ?_;rintro e w' ⟨rfl,rfl⟩;rw [HQ.out]);go_ret;exact ⟨rfl,rfl⟩
end
section
open Go.RowKit
theorem find_yes {p:Nat→Bool} {n k:Nat} (hk:k < n) (h:∀j,j < k→p j=false) (hp:p k=true):(List.range n).find? p=some k:=by
 rw [List.find?_range_eq_some];exact ⟨hp,List.mem_range.2 hk,fun j hj=> by rw [h j hj];rfl⟩
theorem find_not {p:Nat→Bool} {n:Nat} (h:∀j,j < n→p j=false):(List.range n).find? p=none:=by
 rw [List.find?_eq_none];intro j hj;rw [h j (List.mem_range.1 hj)];simp
def RetF (S:Int × Int) (w:World) (en:Ending) (w':World):Prop:=en=.returned (.agg #[.int .i64 S.1,.int .i64 S.2])∧Below w.heap.size w w'
theorem nats_at {l:List Nat} {k:Nat} (h:k < l.length):(nats l)[k]? =some (.int .i64 (l.getD k 0:Nat)):=by
 unfold nats;rw [List.getElem?_map,List.getElem?_eq_getElem h,List.getD_eq_getElem?_getD,List.getElem?_eq_getElem h];rfl
end
section
open Go.RowKit Go.Maps
structure SetsAt (B:Nat) (w:World) (g mb:Nat) (vU:Value) (ns:List ByteArray) (up:List Nat):Prop where
 gB:B≤g
 mB:B≤mb
 blk:w.heap[g]? =some (.cells #[.map (some mb),vU] 134 (0,0))
 mp:MapAt w mb ns
 ou:w.ownsRow B 3 1 vU up.length (nats up)
 ug:vU.ownBlock≠some g
theorem SetsAt.gm {B g mb:Nat} {w:World} {vU:Value} {ns:List ByteArray} {up:List Nat} (h:SetsAt B w g mb vU ns up):g≠mb:=h.mp.ne_blk h.blk
theorem SetsAt.um {B g mb:Nat} {w:World} {vU:Value} {ns:List ByteArray} {up:List Nat} (h:SetsAt B w g mb vU ns up):vU.ownBlock≠some mb:=h.mp.ne_row h.ou
theorem SetsAt.later {B g mb:Nat} {w w':World} {vU:Value} {ns:List ByteArray} {up:List Nat} (h:SetsAt B w g mb vU ns up) (hb:Below w.heap.size w w'):SetsAt B w' g mb vU ns up:=
 ⟨h.gB,h.mB,heap_next hb h.blk,h.mp.kept (grown_of_below hb none) (by simp),own_none h.ou (grown_of_below hb none),h.ug⟩
theorem SetsAt.up {B g mb g1:Nat} {w w':World} {vU:Value} {ns:List ByteArray} {up up':List Nat} (h:SetsAt B w g mb vU ns up) (hv:vU.ownBlock=some g1) (hg:w.grownBy w' (some g1)) (ho:w'.ownsRow B 3 1 vU up'.length (nats up')):SetsAt B w' g mb vU ns up':=
 ⟨h.gB,h.mB,heap_nextG hg (fun e=> h.ug (by rw [hv,e])) h.blk,h.mp.kept hg (fun e=> h.um (by rw [hv,←e])),ho,h.ug⟩
theorem groot_any (B g mb:Nat) (vU:Value) (ns:List ByteArray) (up:List Nat) (k:Nat) (w:World) (h:SetsAt B w g mb vU ns up) (hf:Fine up) (hk:k < up.length) (hl:up.length≤1000000):
 Calls Tryz.prog 38 #[.pointer (some ⟨g,0,none⟩),.int .i64 k] w fun e w'=> e=.returned (.int .i64 (rootOf up k:Nat))∧w'=w:=by
 obtain ⟨i0,hi,hz0,hz1,hz2⟩:=info_parts infoI;obtain ⟨aU,cU,rfl⟩:=(IsSl.of_own h.ou).form;obtain ⟨n,hn⟩:∃n,up.length=n:=⟨_,rfl⟩;have HN:=hid hn;have hbk:w.heap[g]? =some (.cells #[.map (some mb),.slice aU n cU] 134 (0,0)):=by rw [←hn];exact h.blk
 have c1:=(cells_ofS hbk).1 1 _ rfl;have hsl:IsSl w 1 (.slice aU n cU) n (nats up):=by rw [←hn];exact IsSl.of_own h.ou
 have HSL:=hid hsl;have HF:=hid hf;rw [hn] at hk hl;clear h hf hbk hsl hn;have HK:=hid hk;go_enter Tryz.func38,Tryz.ntmps38;go_wp2
 go_loopw [1] (fun i wr=> ∃j:Nat,j < n∧i=.int .i64 j∧rootOf up j=rootOf up k∧wr=w) (fun i _=> (intOf i).toNat)
 case atStart=> exact ⟨k,hk,rfl,rfl,rfl⟩
 case round=>
  obtain ⟨j,hj,rfl,hr,rfl⟩:=hrel;have HR:=hid hr;clear hr;obtain ⟨g1,o1,y,hidx,hg1,hc,hy⟩:=IsSl.at1 Tryz.underlying132 hi hz1 HSL.out hj;rw [nats_at (by rw [HN.out];exact hj)] at hy;obtain rfl:=Option.some.inj hy;clear hy hg1;obtain ⟨u,hu⟩:∃u,up.getD j 0=u:=⟨_,rfl⟩;have HU:=hid hu;have hle:u≤j:=by rw [←hu];exact HF.out j (by rw [HN.out];exact hj)
  rw [hu] at hc;clear hu;have hst:=root_step HF.out (show j < up.length by rw [HN.out];exact hj);rw [HU.out] at hst;have HST:=hid hst;clear hst
  by_cases he:u=j
  · have hne:((u:Int) !=(j:Int))=false:=by rw [he];simp
    have HE:=hid he;clear he;go_wp2_with fail;go_ret;refine ⟨?_,rfl⟩;rw [←HR.out,HST.out,if_pos HE.out];rfl
  · have hne:((u:Int) !=(j:Int))=true:=by rw [bne_iff_ne];omega
    have HE:=hid he;have hlt:u < j:=by omega
    clear he;go_wp2_with fail;go_roundw
    case rel=> exact ⟨u,by omega,rfl,by rw [←HR.out,HST.out,if_neg HE.out],by first | rfl | trivial⟩
    case measure=> simp [intOf];omega
def RetJoinP (B g mb:Nat) (vU:Value) (ns:List ByteArray) (up:List Nat) (w:World) (en:Ending) (w':World):Prop:=
 (∃b,en=.returned (.bool b))∧SetsAt B w' g mb vU ns up∧w.grownBy w' vU.ownBlock
theorem gjoin_any (B g mb:Nat) (vU:Value) (l:List El) (up:List Nat) (a b:ByteArray) (w:World) (h:SetsAt B w g mb vU (gnds l) up) (hB:B≤w.heap.size) (hf:Fine up) (hu:up.length=(gnds l).length) (hl:l.length≤100000) (ha:a.size≤maxLen) (hb:b.size≤maxLen):
 Calls Tryz.prog 71 #[.pointer (some ⟨g,0,none⟩),.string a,.string b] w (RetJoinP B g mb vU (gnds l) (joinU up (gIx l a) (gIx l b)) w):=by
 obtain ⟨i0,hi,hz0,hz1,hz2⟩:=info_parts infoI;have law:Keyed Tryz.prog 9 :=string_keyed Tryz.underlying9;have hnl:=nds_len l;have hgl:(gnds l).length≤400001:=by rw [gnds_len];omega
 have hia:gIx l a < up.length:=by rw [hu,gnds_len];exact gIx_lt l a
 have hib:gIx l b < up.length:=by rw [hu,gnds_len];exact gIx_lt l b
 obtain ⟨aU,cU,rfl⟩:=(IsSl.of_own h.ou).form;have hul:up.length≤400001:=by omega
 have HIA:=hid (gIx_all l a);have HIB:=hid (gIx_all l b);have HA:=hid ha;have HBS:=hid hb;have HH:=hid h;have HF:=hid hf;have HLA:=hid hia;have HLB:=hid hib;obtain ⟨ia,hja⟩:∃ia,gIx l a=ia:=⟨_,rfl⟩;obtain ⟨ib,hjb⟩:∃ib,gIx l b=ib:=⟨_,rfl⟩;obtain ⟨n,hn⟩:∃n,up.length=n:=⟨_,rfl⟩;have HN:=hid hn;rw [hja] at HLA HIA;rw [hjb] at HLB HIB;rw [hn] at HLA HLB hul;have HJ:=hid (show joinU up (gIx l a) (gIx l b)=joinU up ia ib by rw [hja,hjb]);have hra:=root_le HF.out ia (by rw [hn];exact HLA.out);have hrb:=root_le HF.out ib (by rw [hn];exact HLB.out);obtain ⟨ra,hra2⟩:∃ra,rootOf up ia=ra:=⟨_,rfl⟩;obtain ⟨rb,hrb2⟩:∃rb,rootOf up ib=rb:=⟨_,rfl⟩;have HRA:=hid hra2;have HRB:=hid hrb2;have HRL:=hid (show ra < n∧rb < n by have h1:=HLA.out;have h2:=HLB.out;rw [hra2] at hra;rw [hrb2] at hrb;omega);have hbk:w.heap[g]? =some (.cells #[.map (some mb),.slice aU n cU] 134 (0,0)):=by rw [←hn];exact HH.out.blk
 have HBK:=hid hbk;rw [hn];clear ha hb h hf hia hib hja hjb hn hra hrb hra2 hrb2 hbk hgl hnl hu;go_enter Tryz.func71,Tryz.ntmps71;go_upto_region 1 with fail;refine wp_region_any (by kernel_rfl) ?_;change wpAny _ _ _ _ _ _ _ (World.drew _);refine wpAny_makersD [⟨some 9,0, []⟩,⟨some 10,1, []⟩,⟨some 11,2, []⟩,⟨some 12,3, []⟩,⟨some 13,4, []⟩,⟨some 14,5, []⟩,⟨some 15,6, []⟩,⟨some 16,7, []⟩,⟨some 17,8, []⟩,⟨some 18,9, []⟩,⟨some 19,10, []⟩,⟨some 20,11, []⟩,⟨some 21,12, []⟩,⟨some 22,13, []⟩,⟨some 23,14, []⟩,⟨some 24,15, []⟩,⟨some 7,16, []⟩,⟨some 8,17, []⟩]
  (fun w'=> w'.heap[g]? =some (.cells #[.map (some mb),.slice aU n cU] 134 (0,0))∧MapAt w' mb (gnds l))
  (fun oq v _ _ _ _=> match oq with | 0=> v=.pointer (some ⟨g,0,none⟩) | 1=> v=.pointer (some ⟨g,0,none⟩) | 2=> v=.pointer (some ⟨g,0,none⟩) | 3=> v=.pointer (some ⟨g,0,none⟩) | 4=> v=.map (some mb) | 5=> v=.string a | 6=> v=.int .i64 (ia:Nat) | 7=> v=Value.int .i64 (ra:Nat) | 8=> v=.pointer (some ⟨g,0,none⟩) | 9=> v=.pointer (some ⟨g,0,none⟩) | 10=> v=.pointer (some ⟨g,0,none⟩) | 11=> v=.pointer (some ⟨g,0,none⟩) | 12=> v=.map (some mb) | 13=> v=.string b | 14=> v=.int .i64 (ib:Nat) | 15=> v=Value.int .i64 (rb:Nat) | 16=> v=.int .i64 (ra:Nat) | 17=> v=.int .i64 (rb:Nat) | _=> True) (by kernel_rfl) ?hSj (fun _ _ hb h=> ⟨heap_next hb h.1,h.2.kept (grown_of_below hb none) (by simp)⟩) (fun _ _ _ _ _ _ _ _ _ h=> h) ?hopj ?hendj
 case hSj=> exact ⟨heap_next (Below.refl _ _).drew HBK.out,HH.out.mp.kept (grown_of_below (Below.refl _ _).drew none) (by simp)⟩
 case hopj=>
  delta Owed
  simp only [fillD,Act.put,List.setIfInBounds_toArray,lz,ls];refine Each.cons rfl ?_ (Each.cons rfl ?_ (Each.cons rfl ?_ (Each.cons rfl ?_ (Each.cons rfl ?_ (Each.cons rfl ?_ (Each.cons rfl ?_ (Each.cons rfl ?_ (Each.cons rfl ?_ (Each.cons rfl ?_ (Each.cons rfl ?_ (Each.cons rfl ?_ (Each.cons rfl ?_ (Each.cons rfl ?_ (Each.cons rfl ?_ (Each.cons rfl ?_ (Each.cons rfl ?_ (Each.cons rfl ?_ Each.nil)))))))))))))))))
  all_goals intro vs w2 hb2 hS2 hR2 K hK;try simp only [fillD,Act.put,List.setIfInBounds_toArray,lz,ls] at hK⊢
  · go_simp;exact shP hK
  · go_simp;exact shP hK
  · have h1:vs 1=_:=exR (hR2 1 (by kernel_rfl)) (fun _ _ h=> h);simp only [h1] at hK⊢;go_simp;exact shP hK
  · have h2:vs 2=_:=exR (hR2 2 (by kernel_rfl)) (fun _ _ h=> h);simp only [h2] at hK⊢;go_simp;exact shP hK
  · have h3:vs 3=_:=exR (hR2 3 (by kernel_rfl)) (fun _ _ h=> h);have k0:=(cells_ofS hS2.1).1 0 _ rfl;simp only [h3] at hK⊢;go_simp;exact shP hK
  · go_simp;exact shP hK
  · have h4:vs 4=_:=exR (hR2 4 (by kernel_rfl)) (fun _ _ h=> h);have h5:vs 5=_:=exR (hR2 5 (by kernel_rfl)) (fun _ _ h=> h);simp only [h4,h5] at hK⊢;obtain ⟨D,hown,hD⟩:=hS2.2;obtain ⟨c,hrun,hat,_⟩:=hown.lookup_int law Tryz.underlying70 Tryz.underlying3 (zeroInt _) (WideMaps.keyOf_string_mk Tryz.underlying9 HA.out);have hcc:=(at_place hD hat).trans HIA.out;subst hcc;clear hat hown hD;go_simp;exact shP hK
  · have h0:vs 0=_:=exR (hR2 0 (by kernel_rfl)) (fun _ _ h=> h);obtain ⟨_,_,_,H6⟩:=hR2 6 (by kernel_rfl);have h6:vs 6=.int .i64 (ia:Nat):=H6;simp only [h0,h6] at hK⊢;rw [if_pos (by rfl)];go_wp2_with (go_at_call 38;refine (groot_any B g mb _ (gnds l) up ia _ (by have h:=HH.out.later (below_drew_left hb2);rw [HN.out] at h;exact h) HF.out (by rw [HN.out];exact HLA.out) (by rw [HN.out];omega)).mono ?_;rintro e w3 ⟨rfl,rfl⟩);exact hK.out _ _ (Below.refl _ _) (by rw [HRA.out])
  · go_simp;exact shP hK
  · go_simp;exact shP hK
  · have h9:vs 9=_:=exR (hR2 9 (by kernel_rfl)) (fun _ _ h=> h);simp only [h9] at hK⊢;go_simp;exact shP hK
  · have h10:vs 10=_:=exR (hR2 10 (by kernel_rfl)) (fun _ _ h=> h);simp only [h10] at hK⊢;go_simp;exact shP hK
  · have h11:vs 11=_:=exR (hR2 11 (by kernel_rfl)) (fun _ _ h=> h);have k0:=(cells_ofS hS2.1).1 0 _ rfl;simp only [h11] at hK⊢;go_simp;exact shP hK
  · go_simp;exact shP hK
  · have h12:vs 12=_:=exR (hR2 12 (by kernel_rfl)) (fun _ _ h=> h);have h13:vs 13=_:=exR (hR2 13 (by kernel_rfl)) (fun _ _ h=> h);simp only [h12,h13] at hK⊢;obtain ⟨D,hown,hD⟩:=hS2.2;obtain ⟨c,hrun,hat,_⟩:=hown.lookup_int law Tryz.underlying70 Tryz.underlying3 (zeroInt _) (WideMaps.keyOf_string_mk Tryz.underlying9 HBS.out);have hcc:=(at_place hD hat).trans HIB.out;subst hcc;clear hat hown hD;go_simp;exact shP hK
  · have h8:vs 8=_:=exR (hR2 8 (by kernel_rfl)) (fun _ _ h=> h);obtain ⟨_,_,_,H14⟩:=hR2 14 (by kernel_rfl);have h14:vs 14=.int .i64 (ib:Nat):=H14;simp only [h8,h14] at hK⊢;rw [if_pos (by rfl)];go_wp2_with (go_at_call 38;refine (groot_any B g mb _ (gnds l) up ib _ (by have h:=HH.out.later (below_drew_left hb2);rw [HN.out] at h;exact h) HF.out (by rw [HN.out];exact HLB.out) (by rw [HN.out];omega)).mono ?_;rintro e w3 ⟨rfl,rfl⟩);exact hK.out _ _ (Below.refl _ _) (by rw [HRB.out])
  · obtain ⟨_,_,_,H7⟩:=hR2 7 (by kernel_rfl);have h7:vs 7=Value.int .i64 (ra:Nat):=H7;simp only [h7] at hK⊢;go_simp;exact shP hK
  · obtain ⟨_,_,_,H15⟩:=hR2 15 (by kernel_rfl);have h15:vs 15=Value.int .i64 (rb:Nat):=H15;simp only [h15] at hK⊢;go_simp;exact shP hK
 case hendj=>
  intro vs wx lo hiv hbx hSx hRx hdx;have h0:vs 0=_:=(hRx 0 (by kernel_rfl)).1;have h1:vs 1=_:=(hRx 1 (by kernel_rfl)).1;have h2:vs 2=_:=(hRx 2 (by kernel_rfl)).1;have h3:vs 3=_:=(hRx 3 (by kernel_rfl)).1;have h4:vs 4=_:=(hRx 4 (by kernel_rfl)).1;have h5:vs 5=_:=(hRx 5 (by kernel_rfl)).1;have H6:=(hRx 6 (by kernel_rfl)).1;have h6:vs 6=.int .i64 (ia:Nat):=H6;have H7:=(hRx 7 (by kernel_rfl)).1;have h7:vs 7=Value.int .i64 (ra:Nat):=H7;have h8:vs 8=_:=(hRx 8 (by kernel_rfl)).1;have h9:vs 9=_:=(hRx 9 (by kernel_rfl)).1;have h10:vs 10=_:=(hRx 10 (by kernel_rfl)).1;have h11:vs 11=_:=(hRx 11 (by kernel_rfl)).1;have h12:vs 12=_:=(hRx 12 (by kernel_rfl)).1;have h13:vs 13=_:=(hRx 13 (by kernel_rfl)).1;have H14:=(hRx 14 (by kernel_rfl)).1;have h14:vs 14=.int .i64 (ib:Nat):=H14;have H15:=(hRx 15 (by kernel_rfl)).1;have h15:vs 15=Value.int .i64 (rb:Nat):=H15;have h16:vs 16=_:=(hRx 16 (by kernel_rfl)).1;have h17:vs 17=_:=(hRx 17 (by kernel_rfl)).1;simp only [fillD,Act.put,List.setIfInBounds_toArray,lz,ls,h0,h1,h2,h3,h4,h5,h6,h7,h8,h9,h10,h11,h12,h13,h14,h15,h16,h17];have hb:=below_drew_left hbx;have HX:=hid (HH.out.later hb);have HBX:=hid hb;clear hbx hSx hRx hdx hb h0 h1 h2 h3 h4 h5 h6 h7 h8 h9 h10 h11 h12 h13 h14 h15 h16 h17 HBK;refine wpAny_done (by kernel_rfl) ?_ _;have hou:=HX.out.ou;rw [HN.out] at hou;have hbkx:wx.heap[g]? =some (.cells #[.map (some mb),.slice aU n cU] 134 (0,0)):=by rw [←HN.out];exact HX.out.blk
  have k1:=(cells_ofS hbkx).1 1 _ rfl;have HOU:=hid hou;clear hou hbkx;rcases Nat.lt_trichotomy ra rb with hc | hc | hc
  · have hmm:max ra rb=rb∧min ra rb=ra:=by omega
    have HMM:=hid hmm;clear hmm;obtain ⟨g1,x,hidx,hB1,hg1,hcell,hx,hfr,hob,hst⟩:=own_at1 Tryz.underlying132 hi hz1 HOU.out (show rb < n from HRL.out.2);have HST:=hid hst;have HOB:=hid hob;clear hst hob hx hB1 hg1;have hgg:¬g=g1:=fun e=> HX.out.ug (by rw [HN.out,HOB.out,e])
    go_wp2_with fail
    (try rw [Exit.noGoto_ret])
    go_ret;have h1:=HST.out wx HOU.out (Value.int .i64 ra);refine ⟨⟨_,rfl⟩,?_,grown_trans (grown_of_below HBX.out _) (by rw [HOB.out];exact h1.2)⟩;have h2:=HX.out.up (up':=up.set rb ra) (by rw [HN.out];exact HOB.out) h1.2 (by rw [List.length_set,HN.out,show nats (up.set rb ra)=(nats up).set rb (.int .i64 ra) from List.map_set ..];exact h1.1);rw [HJ.out];unfold joinU;rw [HRA.out,HRB.out,HMM.out.1,HMM.out.2];rw [HN.out] at h2;exact h2
  · subst hc;have hmm:max ra ra=ra∧min ra ra=ra:=by omega
    have HMM:=hid hmm;clear hmm;obtain ⟨g1,x,hidx,hB1,hg1,hcell,hx,hfr,hob,hst⟩:=own_at1 Tryz.underlying132 hi hz1 HOU.out (show ra < n from HRL.out.1);have HST:=hid hst;have HOB:=hid hob;clear hst hob hx hB1 hg1;have hgg:¬g=g1:=fun e=> HX.out.ug (by rw [HN.out,HOB.out,e])
    go_wp2_with fail
    (try rw [Exit.noGoto_ret])
    go_ret;have h1:=HST.out wx HOU.out (Value.int .i64 ra);refine ⟨⟨_,rfl⟩,?_,grown_trans (grown_of_below HBX.out _) (by rw [HOB.out];exact h1.2)⟩;have h2:=HX.out.up (up':=up.set ra ra) (by rw [HN.out];exact HOB.out) h1.2 (by rw [List.length_set,HN.out,show nats (up.set ra ra)=(nats up).set ra (.int .i64 ra) from List.map_set ..];exact h1.1);rw [HJ.out];unfold joinU;rw [HRA.out,HRB.out,HMM.out.1,HMM.out.2];rw [HN.out] at h2;exact h2
  · have hmm:max ra rb=ra∧min ra rb=rb:=by omega
    have HMM:=hid hmm;clear hmm;obtain ⟨g1,x,hidx,hB1,hg1,hcell,hx,hfr,hob,hst⟩:=own_at1 Tryz.underlying132 hi hz1 HOU.out (show ra < n from HRL.out.1);have HST:=hid hst;have HOB:=hid hob;clear hst hob hx hB1 hg1;have hgg:¬g=g1:=fun e=> HX.out.ug (by rw [HN.out,HOB.out,e])
    go_wp2_with fail
    (try rw [Exit.noGoto_ret])
    go_ret;have h1:=HST.out wx HOU.out (Value.int .i64 rb);refine ⟨⟨_,rfl⟩,?_,grown_trans (grown_of_below HBX.out _) (by rw [HOB.out];exact h1.2)⟩;have h2:=HX.out.up (up':=up.set ra rb) (by rw [HN.out];exact HOB.out) h1.2 (by rw [List.length_set,HN.out,show nats (up.set ra rb)=(nats up).set ra (.int .i64 rb) from List.map_set ..];exact h1.1);rw [HJ.out];unfold joinU;rw [HRA.out,HRB.out,HMM.out.1,HMM.out.2];rw [HN.out] at h2;exact h2
end
end Go.Proofs.YtaegmlhfecfgkaaGreatDoor
