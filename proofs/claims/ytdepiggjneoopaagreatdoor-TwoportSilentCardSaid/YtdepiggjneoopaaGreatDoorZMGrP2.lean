/- a part of the proof of the last text -/
import Derived.Test.YtdepiggjneoopaaGreatDoorZStpW2
namespace Go.Proofs.YtdepiggjneoopaaGreatDoor
set_option linter.all false
set_option maxHeartbeats 4000000
set_option maxRecDepth 100000
section
open Go.RowKit FV
theorem sgn_lo {x:Nat} (h:x < 2 ^ 63):sgn x=false:=by unfold sgn;rw [Nat.div_eq_of_lt h];rfl
theorem fsz_lt (x:Nat):zBc x < 2 ^ 63:=Nat.mod_lt _ (by decide)
theorem fsz_mod (x:Nat):zBc x % 2 ^ 63=zBc x:=Nat.mod_eq_of_lt (fsz_lt x)
theorem ffin_fin {x:Nat} (h:ffin x=true):FV.fin x=true:=by
 cases hf:FV.fin x with
 | true=> rfl
 | false=>
  exfalso
  have h3:¬x % 2 ^ 63 < 2047 * 2 ^ 52:=by simpa [FV.fin] using hf
  have hr:(∃s,dbl.read x=.infinity s)∨∃s t,dbl.read x=.nan s t:=by
   unfold Ieee.Format.read;simp only [sw_eq,inf_eq,bin_eq];have h4:2047 * 2 ^ 52≤x % 2 ^ 63:=by omega
   rw [if_neg (by omega),if_neg (by omega)]
   split
   · exact .inl ⟨_,rfl⟩
   · exact .inr ⟨_,_,rfl⟩
  have hn:fsub x x=qnan:=by
   unfold fsub fop;show (dbl.sub x x).getD qnan=qnan;unfold Ieee.Format.sub;rcases hr with ⟨s,hr⟩ | ⟨s,t,hr⟩ <;> rw [hr] <;> cases s <;> simp [Ieee.Datum.sum,Ieee.Datum.opposite]
  unfold ffin at h;rw [hn] at h
  revert h
  decide+kernel
end
section
open Go.RowKit FV
abbrev bigF:Nat:=9218868437227405311
theorem mag_big {r:Nat} (h:r < 2047 * 2 ^ 52):mag r≤mag bigF:=by
 obtain ⟨K,hK⟩:∃K,K=2045:=⟨_,rfl⟩;have h1:mag bigF=(2 ^ 53 - 1) * 2 ^ K:=by
  have:=mag_rung K (2 ^ 53 - 1) (by omega) (.inl (by omega));have he:K * 2 ^ 52+(2 ^ 53 - 1)=bigF:=by show _=9218868437227405311;omega
  rw [he] at this;exact this
 rw [h1];unfold mag
 split
 · have:=Nat.two_pow_pos K;have h3:(2 ^ 53 - 1) * 1≤ (2 ^ 53 - 1) * 2 ^ K:=Nat.mul_le_mul_left _ this
   omega
 · exact Nat.mul_le_mul (by have:=Nat.mod_lt r (show 0 < 2 ^ 52 by decide);omega) (Nat.pow_le_pow_right (by decide) (by subst hK;omega))
theorem fin_ffin {x:Nat} (h:FV.fin x=true):ffin x=true:=by
 have hs:dbl.sub x x=some (dbl.nearest false 0 (plc x)):=by
  unfold Ieee.Format.sub;rw [read_fin h];cases hs:sgn x <;> simp [Ieee.Datum.sum,Ieee.Datum.opposite,signed_eq,sg,Ieee.Format.write,Int.add_right_neg,Int.add_left_neg]
 have hz:∀b,dbl.nearest b 0 (plc x)=dbl.word b 0:=fun b=> by unfold Ieee.Format.nearest;rw [if_pos rfl]
 unfold ffin fsub fop;show (ford ((dbl.sub x x).getD qnan) 0==some .eq)=true;rw [hs,hz]
 decide+kernel
theorem notfin {x:Nat} (h:FV.fin x=false):ffin x=false:=by
 cases hh:ffin x with
 | false=> rfl
 | true=> rw [ffin_fin hh] at h;cases h
theorem ord_self {x:Nat} (h:FV.fin x=true):ford x x=some .eq:=by
 show dbl.order x x=_;exact order_eq h h rfl
theorem isInf_fin {x:Nat} (h:FV.fin x=true):(ford (zBc x) bigF==some .gt)=false:=by
 have fx:FV.fin (zBc x)=true:=by unfold FV.fin at *;rw [fsz_mod];exact h
 have fb:FV.fin bigF=true:=by decide
 have aM:zBc x < 2047 * 2 ^ 52:=by unfold FV.fin at h;have:=of_decide_eq_true h;exact this
 have:dbl.order (zBc x) bigF=some (compare (val (zBc x)) (val bigF)):=order_fin fx fb;show (dbl.order (zBc x) bigF==some .gt)=false;rw [this];have hv:val (zBc x)≤val bigF:=by
  unfold val;rw [sgn_lo (fsz_lt x),sgn_lo (show bigF < 2 ^ 63 by decide),fsz_mod,Nat.mod_eq_of_lt (show bigF < 2 ^ 63 by decide)];have:=mag_big aM;show ((mag (zBc x):Nat):Int)≤ ((mag bigF:Nat):Int)
  exact_mod_cast this
 rw [beq_eq_false_iff_ne];intro hc;have h1:=Option.some.inj hc;rw [Int.compare_eq_gt] at h1
 omega
theorem isInf_not {x:Nat} (h:FV.fin x=false):(ford (zBc x) bigF==some .gt)=true∨((ford (zBc x) bigF==some .gt)=false∧(ford x x !=some .eq)=true):=by
 have h3:¬x % 2 ^ 63 < 2047 * 2 ^ 52:=by simpa [FV.fin] using h
 have fb:FV.fin bigF=true:=by decide
 have hsz:zBc x=x % 2 ^ 63:=rfl
 by_cases he:x % 2 ^ 63=2047 * 2 ^ 52
 · left
   rw [hsz,he]
   decide+kernel
 · right
   have hr:∃s t,dbl.read x=.nan s t:=by
    unfold Ieee.Format.read;simp only [sw_eq,inf_eq,bin_eq];rw [if_neg (by omega),if_neg (by omega),if_neg (by omega)];exact ⟨_,_,rfl⟩
   have fO:∃s t,dbl.read (zBc x)=.nan s t:=by
    unfold Ieee.Format.read;simp only [sw_eq,inf_eq,bin_eq,fsz_mod];rw [hsz,if_neg (by omega),if_neg (by omega),if_neg (by omega)];exact ⟨_,_,rfl⟩
   obtain ⟨s,t,hr⟩:=hr;obtain ⟨s2,t2,fO⟩:=fO
   constructor
   · show (dbl.order _ _==some .gt)=false;unfold Ieee.Format.order;rw [fO,read_fin fb]
     simp [Ieee.Datum.order]
   · show (dbl.order _ _ !=some .eq)=true;unfold Ieee.Format.order;rw [hr]
     simp [Ieee.Datum.order]
theorem fin_iff (x:Nat):FV.fin x=ffin (fc x):=by
 rw [ffin_fc];cases h:FV.fin x with
 | true=> rw [fin_ffin h]
 | false=> rw [notfin h]
theorem ord_le {x y:Nat} (hx:FV.fin x=true) (hy:FV.fin y=true):(ford x y==some .lt || ford x y==some .eq)=!(ford x y==some .gt):=by
 have:ford x y=some (compare (val x) (val y)):=order_fin hx hy;rw [this];cases compare (val x) (val y) <;> rfl
end
section
open Go.RowKit
def zrs:List Cx:=List.replicate 4096 (0,0)
theorem board_new (p:Value) (nd n:Nat):
 ((Tryz.zeroCells198.setIfInBounds 0 p).setIfInBounds 1 (.int .i64 nd)).setIfInBounds 2 (.int .i64 n)=zAz p nd n false zrs:=by
 kernel_rfl
theorem zDo {fn:Func} {p:Tmp} {ty:TypeId} (h:fn.results=#[.cell p ty]) (tmps:Array Value) (P:Program) (w:World):
 (results fn tmps).run P w=((asAddr (tmps.getD p undef)).run P w).andThen fun a w₁=> (loadVar ty a).run P w₁:=by
 simp only [results,h]
 simp [Sem.run_bind,Result.andThen]
theorem abs_any (x:Nat) (w:World):
 Calls Tryz.prog 148 #[.float .f64 x] w fun e w'=> e=.returned (.float .f64 (zBc x))∧w=w':=by
 have b1:=bits_law;have b2:=zDt;go_enter Tryz.func148,Tryz.ntmps148;go_wp2;go_ret;exact ⟨congrArg (fun y=> Ending.returned (.float .f64 y)) (fsize_walk x),rfl⟩
theorem isinf_any (x:Nat) (w:World):
 Calls Tryz.prog 129 #[.float .f64 x,.int .i64 0] w fun e w'=> e=.returned (.bool (ford (zBc x) bigF==some .gt))∧w=w':=by
 go_enter Tryz.func129,Tryz.ntmps129;go_wp2_with (go_at_call 148;refine (abs_any _ _).mono ?_;rintro e w' ⟨rfl,rfl⟩);go_ret;exact ⟨rfl,rfl⟩
theorem made_any (p:Value) (l:List El) (w:World) (hp:NN w p l) (hn:has (l.map El.name) ⟨#[]⟩=false):
 Calls Tryz.prog 128 #[p] w fun e w'=> e=.returned (.bool (!zBp p))∧w=w':=by
 have HP:=hid hp;have HN:=hid hn;clear hp hn;cases hq:zBp p
 · have HQ:=hid hq;go_enter Tryz.func128,Tryz.ntmps128;go_wp2_with (go_at_call 97;refine (zFn _ l _ HP.out HN.out).mono ?_;rintro e w' ⟨rfl,rfl⟩;rw [HQ.out]);go_ret;exact ⟨rfl,rfl⟩
 · have HQ:=hid hq;go_enter Tryz.func128,Tryz.ntmps128;go_wp2_with (go_at_call 97;refine (zFn _ l _ HP.out HN.out).mono ?_;rintro e w' ⟨rfl,rfl⟩;rw [HQ.out]);go_ret;exact ⟨rfl,rfl⟩
end
section
open Go.RowKit
theorem find_yes {p:Nat→Bool} {n k:Nat} (hk:k < n) (h:∀j,j < k→p j=false) (hp:p k=true):(List.range n).find? p=some k:=by
 rw [List.find?_range_eq_some];exact ⟨hp,List.mem_range.2 hk,fun j hj=> by rw [h j hj];rfl⟩
theorem find_not {p:Nat→Bool} {n:Nat} (h:∀j,j < n→p j=false):(List.range n).find? p=none:=by
 rw [List.find?_eq_none];intro j hj;rw [h j (List.mem_range.1 hj)];simp
def RetF (S:Int × Int) (w:World) (en:Ending) (w':World):Prop:=en=.returned (.agg #[.int .i64 S.1,.int .i64 S.2])∧Below w.heap.size w w'
theorem nats_at {l:List Nat} {k:Nat} (h:k < l.length):(nats l)[k]? =some (.int .i64 (l.getD k 0:Nat)):=by
 unfold nats;rw [List.getElem?_map,List.getElem?_eq_getElem h,List.getD_eq_getElem?_getD,List.getElem?_eq_getElem h];rfl
end
section
open Go.RowKit Go.Maps
structure SetsAt (B:Nat) (w:World) (g mb:Nat) (vU:Value) (ns:List ByteArray) (up:List Nat):Prop where
 gB:B≤g
 mB:B≤mb
 blk:w.heap[g]? =some (.cells #[.map (some mb),vU] 221 (0,0))
 mp:zFd w mb ns
 ou:w.ownsRow B 3 1 vU up.length (nats up)
 ug:vU.ownBlock≠some g
theorem SetsAt.gm {B g mb:Nat} {w:World} {vU:Value} {ns:List ByteArray} {up:List Nat} (h:SetsAt B w g mb vU ns up):g≠mb:=h.mp.ne_blk h.blk
theorem SetsAt.um {B g mb:Nat} {w:World} {vU:Value} {ns:List ByteArray} {up:List Nat} (h:SetsAt B w g mb vU ns up):vU.ownBlock≠some mb:=h.mp.ne_row h.ou
theorem SetsAt.later {B g mb:Nat} {w w':World} {vU:Value} {ns:List ByteArray} {up:List Nat} (h:SetsAt B w g mb vU ns up) (hb:Below w.heap.size w w'):SetsAt B w' g mb vU ns up:=
 ⟨h.gB,h.mB,zAi hb h.blk,h.mp.kept (zAe hb none) (by simp),zBf h.ou (zAe hb none),h.ug⟩
theorem SetsAt.up {B g mb g1:Nat} {w w':World} {vU:Value} {ns:List ByteArray} {up up':List Nat} (h:SetsAt B w g mb vU ns up) (hv:vU.ownBlock=some g1) (hg:w.grownBy w' (some g1)) (ho:w'.ownsRow B 3 1 vU up'.length (nats up')):SetsAt B w' g mb vU ns up':=
 ⟨h.gB,h.mB,zAj hg (fun e=> h.ug (by rw [hv,e])) h.blk,h.mp.kept hg (fun e=> h.um (by rw [hv,←e])),ho,h.ug⟩
theorem groot_any (B g mb:Nat) (vU:Value) (ns:List ByteArray) (up:List Nat) (k:Nat) (w:World) (h:SetsAt B w g mb vU ns up) (hf:Fine up) (hk:k < up.length) (hl:up.length≤1000000):
 Calls Tryz.prog 127 #[.pointer (some ⟨g,0,none⟩),.int .i64 k] w fun e w'=> e=.returned (.int .i64 (zBa up k:Nat))∧w'=w:=by
 obtain ⟨i0,hi,cG,bD,cB⟩:=info_parts infoI;obtain ⟨aU,cU,rfl⟩:=(IsSl.of_own h.ou).form;obtain ⟨n,hn⟩:∃n,up.length=n:=⟨_,rfl⟩;have HN:=hid hn;have aB:w.heap[g]? =some (.cells #[.map (some mb),.slice aU n cU] 221 (0,0)):=by rw [←hn];exact h.blk
 have c1:=(zAb aB).1 1 _ rfl;have iG:IsSl w 1 (.slice aU n cU) n (nats up):=by rw [←hn];exact IsSl.of_own h.ou
 have lD:=hid iG;have HF:=hid hf;rw [hn] at hk hl;clear h hf aB iG hn;have HK:=hid hk;go_enter Tryz.func127,Tryz.ntmps127;go_wp2
 go_loopw [1] (fun i wr=> ∃j:Nat,j < n∧i=.int .i64 j∧zBa up j=zBa up k∧wr=w) (fun i _=> (intOf i).toNat)
 case atStart=> exact ⟨k,hk,rfl,rfl,rfl⟩
 case round=>
  obtain ⟨j,hj,rfl,hr,rfl⟩:=hrel;have HR:=hid hr;clear hr;obtain ⟨g1,o1,y,aZ,fM,hc,hy⟩:=IsSl.at1 Tryz.underlying151 hi bD lD.out hj;rw [nats_at (by rw [HN.out];exact hj)] at hy;obtain rfl:=Option.some.inj hy;clear hy fM;obtain ⟨u,hu⟩:∃u,up.getD j 0=u:=⟨_,rfl⟩;have HU:=hid hu;have zD:u≤j:=by rw [←hu];exact HF.out j (by rw [HN.out];exact hj)
  rw [hu] at hc;clear hu;have bT:=zEj HF.out (show j < up.length by rw [HN.out];exact hj);rw [HU.out] at bT;have aQ:=hid bT;clear bT
  by_cases he:u=j
  · have aK:((u:Int) !=(j:Int))=false:=by rw [he];simp
    have HE:=hid he;clear he;go_wp2_with fail;go_ret;refine ⟨?_,rfl⟩;rw [←HR.out,aQ.out,if_pos HE.out];rfl
  · have aK:((u:Int) !=(j:Int))=true:=by rw [bne_iff_ne];omega
    have HE:=hid he;have aM:u < j:=by omega
    clear he;go_wp2_with fail;go_roundw
    case rel=> exact ⟨u,by omega,rfl,by rw [←HR.out,aQ.out,if_neg HE.out],by first | rfl | trivial⟩
    case measure=> simp [intOf];omega
def RetJoinP (B g mb:Nat) (vU:Value) (ns:List ByteArray) (up:List Nat) (w:World) (en:Ending) (w':World):Prop:=
 (∃b,en=.returned (.bool b))∧SetsAt B w' g mb vU ns up∧w.grownBy w' vU.ownBlock
theorem gjoin_any (B g mb:Nat) (vU:Value) (l:List El) (up:List Nat) (a b:ByteArray) (w:World) (h:SetsAt B w g mb vU (gnds l) up) (hB:B≤w.heap.size) (hf:Fine up) (hu:up.length=(gnds l).length) (hl:l.length≤100000) (ha:a.size≤maxLen) (hb:b.size≤maxLen):
 Calls Tryz.prog 147 #[.pointer (some ⟨g,0,none⟩),.string a,.string b] w (RetJoinP B g mb vU (gnds l) (joinU up (gIx l a) (gIx l b)) w):=by
 obtain ⟨i0,hi,cG,bD,cB⟩:=info_parts infoI;have law:Keyed Tryz.prog 9 :=string_keyed Tryz.underlying9;have wH:=nds_len l;have tH:(gnds l).length≤400001:=by rw [zDe];omega
 have iD:gIx l a < up.length:=by rw [hu,zDe];exact gIx_lt l a
 have hib:gIx l b < up.length:=by rw [hu,zDe];exact gIx_lt l b
 obtain ⟨aU,cU,rfl⟩:=(IsSl.of_own h.ou).form;have hul:up.length≤400001:=by omega
 have HIA:=hid (gIx_all l a);have HIB:=hid (gIx_all l b);have HA:=hid ha;have HBS:=hid hb;have HH:=hid h;have HF:=hid hf;have tZ:=hid iD;have HLB:=hid hib;obtain ⟨ia,hja⟩:∃ia,gIx l a=ia:=⟨_,rfl⟩;obtain ⟨ib,hjb⟩:∃ib,gIx l b=ib:=⟨_,rfl⟩;obtain ⟨n,hn⟩:∃n,up.length=n:=⟨_,rfl⟩;have HN:=hid hn;rw [hja] at tZ HIA;rw [hjb] at HLB HIB;rw [hn] at tZ HLB hul;have HJ:=hid (show joinU up (gIx l a) (gIx l b)=joinU up ia ib by rw [hja,hjb]);have hra:=root_le HF.out ia (by rw [hn];exact tZ.out);have hrb:=root_le HF.out ib (by rw [hn];exact HLB.out);obtain ⟨ra,yR⟩:∃ra,zBa up ia=ra:=⟨_,rfl⟩;obtain ⟨rb,yQ⟩:∃rb,zBa up ib=rb:=⟨_,rfl⟩;have HRA:=hid yR;have HRB:=hid yQ;have HRL:=hid (show ra < n∧rb < n by have h1:=tZ.out;have h2:=HLB.out;rw [yR] at hra;rw [yQ] at hrb;omega);have aB:w.heap[g]? =some (.cells #[.map (some mb),.slice aU n cU] 221 (0,0)):=by rw [←hn];exact HH.out.blk
 have nC:=hid aB;rw [hn];clear ha hb h hf iD hib hja hjb hn hra hrb yR yQ aB tH wH hu;go_enter Tryz.func147,Tryz.ntmps147;go_upto_region 1 with fail;refine wp_region_any (by kernel_rfl) ?_;change wpAny _ _ _ _ _ _ _ (World.drew _);refine zAx [⟨some 9,0, []⟩,⟨some 10,1, []⟩,⟨some 11,2, []⟩,⟨some 12,3, []⟩,⟨some 13,4, []⟩,⟨some 14,5, []⟩,⟨some 15,6, []⟩,⟨some 16,7, []⟩,⟨some 17,8, []⟩,⟨some 18,9, []⟩,⟨some 19,10, []⟩,⟨some 20,11, []⟩,⟨some 21,12, []⟩,⟨some 22,13, []⟩,⟨some 23,14, []⟩,⟨some 24,15, []⟩,⟨some 7,16, []⟩,⟨some 8,17, []⟩]
  (fun w'=> w'.heap[g]? =some (.cells #[.map (some mb),.slice aU n cU] 221 (0,0))∧zFd w' mb (gnds l))
  (fun oq v _ _ _ _=> match oq with | 0=> v=.pointer (some ⟨g,0,none⟩) | 1=> v=.pointer (some ⟨g,0,none⟩) | 2=> v=.pointer (some ⟨g,0,none⟩) | 3=> v=.pointer (some ⟨g,0,none⟩) | 4=> v=.map (some mb) | 5=> v=.string a | 6=> v=.int .i64 (ia:Nat) | 7=> v=Value.int .i64 (ra:Nat) | 8=> v=.pointer (some ⟨g,0,none⟩) | 9=> v=.pointer (some ⟨g,0,none⟩) | 10=> v=.pointer (some ⟨g,0,none⟩) | 11=> v=.pointer (some ⟨g,0,none⟩) | 12=> v=.map (some mb) | 13=> v=.string b | 14=> v=.int .i64 (ib:Nat) | 15=> v=Value.int .i64 (rb:Nat) | 16=> v=.int .i64 (ra:Nat) | 17=> v=.int .i64 (rb:Nat) | _=> True) (by kernel_rfl) ?hSj (fun _ _ hb h=> ⟨zAi hb h.1,h.2.kept (zAe hb none) (by simp)⟩) (fun _ _ _ _ _ _ _ _ _ h=> h) ?hopj ?hendj
 case hSj=> exact ⟨zAi (Below.refl _ _).drew nC.out,HH.out.mp.kept (zAe (Below.refl _ _).drew none) (by simp)⟩
 case hopj=>
  delta Owed
  simp only [zBb,Act.put,List.setIfInBounds_toArray,lz,ls];refine Each.cons rfl ?_ (Each.cons rfl ?_ (Each.cons rfl ?_ (Each.cons rfl ?_ (Each.cons rfl ?_ (Each.cons rfl ?_ (Each.cons rfl ?_ (Each.cons rfl ?_ (Each.cons rfl ?_ (Each.cons rfl ?_ (Each.cons rfl ?_ (Each.cons rfl ?_ (Each.cons rfl ?_ (Each.cons rfl ?_ (Each.cons rfl ?_ (Each.cons rfl ?_ (Each.cons rfl ?_ (Each.cons rfl ?_ Each.nil)))))))))))))))))
  all_goals intro vs w2 aV hS2 hR2 K hK;try simp only [zBb,Act.put,List.setIfInBounds_toArray,lz,ls] at hK⊢
  · go_simp;exact shP hK
  · go_simp;exact shP hK
  · have h1:vs 1=_:=exR (hR2 1 (by kernel_rfl)) (fun _ _ h=> h);simp only [h1] at hK⊢;go_simp;exact shP hK
  · have h2:vs 2=_:=exR (hR2 2 (by kernel_rfl)) (fun _ _ h=> h);simp only [h2] at hK⊢;go_simp;exact shP hK
  · have h3:vs 3=_:=exR (hR2 3 (by kernel_rfl)) (fun _ _ h=> h);have k0:=(zAb hS2.1).1 0 _ rfl;simp only [h3] at hK⊢;go_simp;exact shP hK
  · go_simp;exact shP hK
  · have h4:vs 4=_:=exR (hR2 4 (by kernel_rfl)) (fun _ _ h=> h);have h5:vs 5=_:=exR (hR2 5 (by kernel_rfl)) (fun _ _ h=> h);simp only [h4,h5] at hK⊢;obtain ⟨D,aC,hD⟩:=hS2.2;obtain ⟨c,nF,eD,_⟩:=aC.lookup_int law Tryz.underlying69 Tryz.underlying3 (zFj _) (WideMaps.keyOf_string_mk Tryz.underlying9 HA.out);have uR:=(at_place hD eD).trans HIA.out;subst uR;clear eD aC hD;go_simp;exact shP hK
  · have h0:vs 0=_:=exR (hR2 0 (by kernel_rfl)) (fun _ _ h=> h);obtain ⟨_,_,_,H6⟩:=hR2 6 (by kernel_rfl);have h6:vs 6=.int .i64 (ia:Nat):=H6;simp only [h0,h6] at hK⊢;rw [if_pos (by rfl)];go_wp2_with (go_at_call 127;refine (groot_any B g mb _ (gnds l) up ia _ (by have h:=HH.out.later (zAt aV);rw [HN.out] at h;exact h) HF.out (by rw [HN.out];exact tZ.out) (by rw [HN.out];omega)).mono ?_;rintro e w3 ⟨rfl,rfl⟩);exact hK.out _ _ (Below.refl _ _) (by rw [HRA.out])
  · go_simp;exact shP hK
  · go_simp;exact shP hK
  · have h9:vs 9=_:=exR (hR2 9 (by kernel_rfl)) (fun _ _ h=> h);simp only [h9] at hK⊢;go_simp;exact shP hK
  · have bX:vs 10=_:=exR (hR2 10 (by kernel_rfl)) (fun _ _ h=> h);simp only [bX] at hK⊢;go_simp;exact shP hK
  · have bQ:vs 11=_:=exR (hR2 11 (by kernel_rfl)) (fun _ _ h=> h);have k0:=(zAb hS2.1).1 0 _ rfl;simp only [bQ] at hK⊢;go_simp;exact shP hK
  · go_simp;exact shP hK
  · have bW:vs 12=_:=exR (hR2 12 (by kernel_rfl)) (fun _ _ h=> h);have bV:vs 13=_:=exR (hR2 13 (by kernel_rfl)) (fun _ _ h=> h);simp only [bW,bV] at hK⊢;obtain ⟨D,aC,hD⟩:=hS2.2;obtain ⟨c,nF,eD,_⟩:=aC.lookup_int law Tryz.underlying69 Tryz.underlying3 (zFj _) (WideMaps.keyOf_string_mk Tryz.underlying9 HBS.out);have uR:=(at_place hD eD).trans HIB.out;subst uR;clear eD aC hD;go_simp;exact shP hK
  · have h8:vs 8=_:=exR (hR2 8 (by kernel_rfl)) (fun _ _ h=> h);obtain ⟨_,_,_,H14⟩:=hR2 14 (by kernel_rfl);have bZ:vs 14=.int .i64 (ib:Nat):=H14;simp only [h8,bZ] at hK⊢;rw [if_pos (by rfl)];go_wp2_with (go_at_call 127;refine (groot_any B g mb _ (gnds l) up ib _ (by have h:=HH.out.later (zAt aV);rw [HN.out] at h;exact h) HF.out (by rw [HN.out];exact HLB.out) (by rw [HN.out];omega)).mono ?_;rintro e w3 ⟨rfl,rfl⟩);exact hK.out _ _ (Below.refl _ _) (by rw [HRB.out])
  · obtain ⟨_,_,_,H7⟩:=hR2 7 (by kernel_rfl);have h7:vs 7=Value.int .i64 (ra:Nat):=H7;simp only [h7] at hK⊢;go_simp;exact shP hK
  · obtain ⟨_,_,_,H15⟩:=hR2 15 (by kernel_rfl);have cM:vs 15=Value.int .i64 (rb:Nat):=H15;simp only [cM] at hK⊢;go_simp;exact shP hK
 case hendj=>
  intro vs wx lo iB bK hSx hRx dN;have h0:vs 0=_:=(hRx 0 (by kernel_rfl)).1;have h1:vs 1=_:=(hRx 1 (by kernel_rfl)).1;have h2:vs 2=_:=(hRx 2 (by kernel_rfl)).1;have h3:vs 3=_:=(hRx 3 (by kernel_rfl)).1;have h4:vs 4=_:=(hRx 4 (by kernel_rfl)).1;have h5:vs 5=_:=(hRx 5 (by kernel_rfl)).1;have H6:=(hRx 6 (by kernel_rfl)).1;have h6:vs 6=.int .i64 (ia:Nat):=H6;have H7:=(hRx 7 (by kernel_rfl)).1;have h7:vs 7=Value.int .i64 (ra:Nat):=H7;have h8:vs 8=_:=(hRx 8 (by kernel_rfl)).1;have h9:vs 9=_:=(hRx 9 (by kernel_rfl)).1;have bX:vs 10=_:=(hRx 10 (by kernel_rfl)).1;have bQ:vs 11=_:=(hRx 11 (by kernel_rfl)).1;have bW:vs 12=_:=(hRx 12 (by kernel_rfl)).1;have bV:vs 13=_:=(hRx 13 (by kernel_rfl)).1;have H14:=(hRx 14 (by kernel_rfl)).1;have bZ:vs 14=.int .i64 (ib:Nat):=H14;have H15:=(hRx 15 (by kernel_rfl)).1;have cM:vs 15=Value.int .i64 (rb:Nat):=H15;have dR:vs 16=_:=(hRx 16 (by kernel_rfl)).1;have dQ:vs 17=_:=(hRx 17 (by kernel_rfl)).1;simp only [zBb,Act.put,List.setIfInBounds_toArray,lz,ls,h0,h1,h2,h3,h4,h5,h6,h7,h8,h9,bX,bQ,bW,bV,bZ,cM,dR,dQ];have hb:=zAt bK;have HX:=hid (HH.out.later hb);have bS:=hid hb;clear bK hSx hRx dN hb h0 h1 h2 h3 h4 h5 h6 h7 h8 h9 bX bQ bW bV bZ cM dR dQ nC;refine wpAny_done (by kernel_rfl) ?_ _;have wF:=HX.out.ou;rw [HN.out] at wF;have hbkx:wx.heap[g]? =some (.cells #[.map (some mb),.slice aU n cU] 221 (0,0)):=by rw [←HN.out];exact HX.out.blk
  have k1:=(zAb hbkx).1 1 _ rfl;have vF:=hid wF;clear wF hbkx;rcases Nat.lt_trichotomy ra rb with hc | hc | hc
  · have oF:max ra rb=rb∧min ra rb=ra:=by omega
    have tX:=hid oF;clear oF;obtain ⟨g1,x,aZ,hB1,fM,aA,hx,uQ,eB,bT⟩:=zEk Tryz.underlying151 hi bD vF.out (show rb < n from HRL.out.2);have aQ:=hid bT;have fN:=hid eB;clear bT eB hx hB1 fM;have oI:¬g=g1:=fun e=> HX.out.ug (by rw [HN.out,fN.out,e])
    go_wp2_with fail
    (try rw [Exit.noGoto_ret])
    go_ret;have h1:=aQ.out wx vF.out (Value.int .i64 ra);refine ⟨⟨_,rfl⟩,?_,zAf (zAe bS.out _) (by rw [fN.out];exact h1.2)⟩;have h2:=HX.out.up (up':=up.set rb ra) (by rw [HN.out];exact fN.out) h1.2 (by rw [List.length_set,HN.out,show nats (up.set rb ra)=(nats up).set rb (.int .i64 ra) from List.map_set ..];exact h1.1);rw [HJ.out];unfold joinU;rw [HRA.out,HRB.out,tX.out.1,tX.out.2];rw [HN.out] at h2;exact h2
  · subst hc;have oF:max ra ra=ra∧min ra ra=ra:=by omega
    have tX:=hid oF;clear oF;obtain ⟨g1,x,aZ,hB1,fM,aA,hx,uQ,eB,bT⟩:=zEk Tryz.underlying151 hi bD vF.out (show ra < n from HRL.out.1);have aQ:=hid bT;have fN:=hid eB;clear bT eB hx hB1 fM;have oI:¬g=g1:=fun e=> HX.out.ug (by rw [HN.out,fN.out,e])
    go_wp2_with fail
    (try rw [Exit.noGoto_ret])
    go_ret;have h1:=aQ.out wx vF.out (Value.int .i64 ra);refine ⟨⟨_,rfl⟩,?_,zAf (zAe bS.out _) (by rw [fN.out];exact h1.2)⟩;have h2:=HX.out.up (up':=up.set ra ra) (by rw [HN.out];exact fN.out) h1.2 (by rw [List.length_set,HN.out,show nats (up.set ra ra)=(nats up).set ra (.int .i64 ra) from List.map_set ..];exact h1.1);rw [HJ.out];unfold joinU;rw [HRA.out,HRB.out,tX.out.1,tX.out.2];rw [HN.out] at h2;exact h2
  · have oF:max ra rb=ra∧min ra rb=rb:=by omega
    have tX:=hid oF;clear oF;obtain ⟨g1,x,aZ,hB1,fM,aA,hx,uQ,eB,bT⟩:=zEk Tryz.underlying151 hi bD vF.out (show ra < n from HRL.out.1);have aQ:=hid bT;have fN:=hid eB;clear bT eB hx hB1 fM;have oI:¬g=g1:=fun e=> HX.out.ug (by rw [HN.out,fN.out,e])
    go_wp2_with fail
    (try rw [Exit.noGoto_ret])
    go_ret;have h1:=aQ.out wx vF.out (Value.int .i64 rb);refine ⟨⟨_,rfl⟩,?_,zAf (zAe bS.out _) (by rw [fN.out];exact h1.2)⟩;have h2:=HX.out.up (up':=up.set ra rb) (by rw [HN.out];exact fN.out) h1.2 (by rw [List.length_set,HN.out,show nats (up.set ra rb)=(nats up).set ra (.int .i64 rb) from List.map_set ..];exact h1.1);rw [HJ.out];unfold joinU;rw [HRA.out,HRB.out,tX.out.1,tX.out.2];rw [HN.out] at h2;exact h2
end
section
open Go.RowKit Go.Maps
def AppD (B gu sz n1:Nat) (v:Value) (w:World):Prop:=∃g1 cap1,v=.slice (some ⟨g1,0,none⟩) (n1+1) cap1∧w.ownsRow B 3 1 v (n1+1) (nats (List.range n1)++ [.int .i64 n1])∧(g1=gu∨sz≤g1)
theorem AppD.later {B gu sz n1:Nat} {v:Value} {w w':World} (h:AppD B gu sz n1 v w) (hb:Below w.heap.size w w'):AppD B gu sz n1 v w':=by
 obtain ⟨g1,c1,h1,h2,h3⟩:=h;exact ⟨g1,c1,h1,zBf h2 (zAe hb none),h3⟩
theorem news_at {w:World} {b t:Nat} {x:Value} (h:w.heap[b]? =some (.cells #[x] t (0,0))):∀j u,([x]:List Value)[j]? =some u→w.cell? ((⟨b,0,none⟩:Addr).add j)=some u:=fun j u hj=> by
 obtain rfl:j=0:=by
  have:=(List.getElem?_eq_some_iff.1 hj).1
  simpa using this
 obtain rfl:x=u:=by simpa using hj
 exact (zAb h).1 0 _ rfl
def Once (acc:List ByteArray):Prop:=∀k t,acc[k]? =some t→has (acc.take k) t=false∧gnd t=false
theorem once_nd1 {acc:List ByteArray} (t:ByteArray) (h:Once acc):Once (nd1 acc t):=by
 unfold nd1
 split
 · exact h
 · rename_i hn;have oE:gnd t=false∧has acc t=false:=by simpa using hn
   intro k s hk
   by_cases aM:k < acc.length
   · rw [List.getElem?_append_left aM] at hk;rw [List.take_append_of_le_length (by omega)];exact h k s hk
   · rw [List.getElem?_append_right (by omega)] at hk;have lZ:=(List.getElem?_eq_some_iff.1 hk).1;obtain rfl:k=acc.length:=by simp at lZ;omega
     rw [Nat.sub_self] at hk;obtain rfl:t=s:=by simpa using hk
     rw [List.take_left' rfl];exact ⟨oE.2,oE.1⟩
theorem once_fold:∀ (r acc:List ByteArray),Once acc→Once (r.foldl nd1 acc)
 | [],_,h=> h
 | t::r,_,h=> once_fold r _ (once_nd1 t h)
theorem once_nds:∀ (l:List El) (acc:List ByteArray),Once acc→Once (l.foldl nd4 acc)
 | [],_,h=> h
 | x::l,_,h=> once_nds l _ (once_fold (fr x) _ h)
theorem gnds_new {l:List El} {k:Nat} {t:ByteArray} (h:(nds l)[k]? =some t):has ((gnds l).take (k+1)) t=false:=by
 obtain ⟨h1,h2⟩:=once_nds l [] (fun k t h=> by simp at h) k t h;have zS:has ((nds l).take k) t=false:=h1;unfold gnds;rw [List.take_succ_cons];unfold has at zS⊢;rw [List.any_cons,zS,Bool.or_false];cases e:((⟨#[48]⟩:ByteArray).toList==t.toList)
 · rfl
 · exfalso
   rw [←(zEw _ _).1 e] at h2;have:gnd ⟨#[48]⟩=true:=by unfold gnd;rw [zEi];rfl
   rw [this] at h2;cases h2
theorem zFq {l:List El} {k:Nat} (h:k≤ (nds l).length):((gnds l).take (k+1)).length=k+1:=by rw [List.length_take,zDe];omega
theorem mem_nd1 {acc:List ByteArray} {s t:ByteArray} (h:t∈nd1 acc s):t∈acc∨t=s:=by
 unfold nd1 at h
 split at h
 · exact .inl h
 · rcases List.mem_append.1 h with h | h
   · exact .inl h
   · exact .inr (by simpa using h)
theorem mem_fold {t:ByteArray}:∀ (r acc:List ByteArray),t∈r.foldl nd1 acc→t∈acc∨t∈r
 | [],_,h=> .inl h
 | s::r,acc,h=> by
  rcases mem_fold r _ h with h | h
  · rcases mem_nd1 h with h | h
    · exact .inl h
    · exact .inr (by rw [h];simp)
  · exact .inr (List.mem_cons_of_mem _ h)
theorem mem_nds {t:ByteArray}:∀ (l:List El) (acc:List ByteArray),t∈l.foldl nd4 acc→t∈acc∨∃x∈l,t∈fr x
 | [],_,h=> .inl h
 | x::l,acc,h=> by
  rcases mem_nds l _ h with h | ⟨y,hy,h⟩
  · rcases mem_fold (fr x) _ h with h | h
    · exact .inl h
    · exact .inr ⟨x,by simp,h⟩
  · exact .inr ⟨y,List.mem_cons_of_mem _ hy,h⟩
theorem nds_size {l:List El} (aY:∀x∈l,x.Ok) (t:ByteArray) (h:t∈nds l):t.size≤maxLen:=by
 rcases mem_nds l [] h with h | ⟨x,hx,h⟩
 · simp at h
 · have:=aY x hx;simp only [fr,List.mem_cons,List.not_mem_nil,or_false] at h;rcases h with rfl | rfl | rfl | rfl
   · exact this.a
   · exact this.b
   · exact this.c
   · exact this.d
def RetSets (l:List El) (up:List Nat) (w:World) (en:Ending) (w':World):Prop:=
 ∃g mb vU,en=.returned (.pointer (some ⟨g,0,none⟩))∧SetsAt w.heap.size w' g mb vU (gnds l) up∧Below w.heap.size w w'
theorem gof_any (p:Value) (l:List El) (w:World) (hp:NN w p l) (hl:l.length≤100000) (aY:∀x∈l,x.Ok):
 Calls Tryz.prog 145 #[p] w (RetSets l (List.range (gnds l).length) w):=by
 obtain ⟨i0,hi,cG,bD,cB⟩:=info_parts infoI;obtain ⟨is,his,hs0,hs1,oC⟩:=info_parts infoSt;have law:Keyed Tryz.prog 9 :=string_keyed Tryz.underlying9;have oF:=@run_makeMap Tryz.prog;have wH:=nds_len l;have HNL:=hid (show (nds l).length≤400000 by omega);have kP:Below w.heap.size w (w.alloc (.map #[] 0)):=(Below.refl _ _).alloc (Nat.le_refl _) _;obtain ⟨w1,hins,hm1,fM⟩:=(World.ownsMap_made w _ _ _:(w.alloc (.map #[] 0)).ownsMap Tryz.prog 9 (plainElem Tryz.prog 3) w.heap.size 0 (.map [])).update law Tryz.underlying69 (by unfold maxLen;omega) (WideMaps.keyOf_string_mk Tryz.underlying9 (show (⟨#[48]⟩:ByteArray).size≤maxLen by decide)) (plainElem_int Tryz.underlying3 (WalkArith.wf_i64 (n:=0) ⟨by omega,by omega⟩));have HMP:=hid (show zFd w1 w.heap.size [⟨#[48]⟩] from ⟨_,hm1,zFg (s:=⟨#[48]⟩) mapIs_empty rfl⟩);have aL:=hid (kP.grown fM (by simp) (fun k e=> by cases e;exact Nat.le_refl _));have HP:=hid (hp.below aL.out (Nat.le_refl _));clear hm1 fM hp kP wH;go_enter Tryz.func145,Tryz.ntmps145;go_upto_region 2 with fail;have hs1:∀o,(w1.alloc o).heap.size=w1.heap.size+1:=fun o=> by simp
 have rS:Hid (SetsAt w.heap.size ((w1.alloc (.cells #[.int .i64 0] 3)).alloc (.cells #[.map (some w.heap.size),.slice (some ⟨w1.heap.size,0,none⟩) 1 1] 221)) (w1.heap.size+1) w.heap.size (.slice (some ⟨w1.heap.size,0,none⟩) 1 1) [⟨#[48]⟩] [0]):=hid
  ⟨(by have:=aL.out.size;omega),Nat.le_refl _,(by have h:=heap_alloc_new (w1.alloc (.cells #[.int .i64 0] 3)) (.cells #[.map (some w.heap.size),.slice (some ⟨w1.heap.size,0,none⟩) 1 1] 221);rwa [hs1] at h),
   HMP.out.kept (zAe (((Below.refl w1.heap.size w1).alloc (Nat.le_refl _) _).alloc (by simp) _) none) (by simp),
   zBf (zEx (World.ownsRow_lit (base:=w1.heap.size) (e:=3) (size:=1) w1 #[.int .i64 0] 1 (Nat.le_refl _) (by decide) rfl) aL.out.size) (World.grownBy_alloc _ _ _),
   fun e=> (by have:=zCx e;omega)⟩
 have aG:=hid (zAd aL.out (((Below.refl w1.heap.size w1).alloc (Nat.le_refl _) (.cells #[.int .i64 0] 3)).alloc (by simp) (.cells #[.map (some w.heap.size),.slice (some ⟨w1.heap.size,0,none⟩) 1 1] 221)));have lO:=hid (HP.out.below (((Below.refl w1.heap.size w1).alloc (Nat.le_refl _) (.cells #[.int .i64 0] 3)).alloc (by simp) (.cells #[.map (some w.heap.size),.slice (some ⟨w1.heap.size,0,none⟩) 1 1] 221)) (Nat.le_refl _));have lN:=hid (show w1.heap.size+1 < ((w1.alloc (.cells #[.int .i64 0] 3)).alloc (.cells #[.map (some w.heap.size),.slice (some ⟨w1.heap.size,0,none⟩) 1 1] 221)).heap.size by simp);clear hs1 hins oF aL HP HMP;generalize (w1.alloc (.cells #[.int .i64 0] 3)).alloc (.cells #[.map (some w.heap.size),.slice (some ⟨w1.heap.size,0,none⟩) 1 1] 221)=w2 at *;generalize w1.heap.size+1=g at *;generalize hBq:w.heap.size=B at *;have kB:=hid hBq;clear hBq;go_wp2_with (go_at_call 106;refine (zDi _ l _ lO.out hl).mono ?_;rintro e w3 ⟨v3,xs,rfl,bA,rfl,fP⟩;obtain ⟨a3,c3,rfl⟩:=(IsSl.of_own bA).form;have HV:=hid bA;have aQ:=hid (rS.out.later fP);have aT:=hid (aG.out.trans (fP.mono (by have:=rS.out.gB;have:=lN.out;omega)));have vY:=hid (show B≤w3.heap.size by have:=rS.out.gB;have:=lN.out;have:=fP.size;omega);clear bA fP);clear aG lO;have HD:=hid (show∀r,(Value.slice a3 (nds l).length c3).ownBlock=some r→w2.heap.size≤r from fun r e=> (World.ownsRow.lt HV.out r e).1);have wV:=hid (show∀r,(Value.slice (some ⟨w1.heap.size,0,none⟩) 1 1).ownBlock=some r→(Value.slice a3 (nds l).length c3).ownBlock≠some r from fun r e e2=> by have h1:=(World.ownsRow.lt rS.out.ou r e).2;have h2:=HD.out r e2;omega);have HVG:=hid (show (Value.slice a3 (nds l).length c3).ownBlock≠some g from fun e=> by have h1:=lN.out;have h2:=HD.out g e;omega)
 clear rS HD lN;obtain ⟨N,hN⟩:∃N,(nds l).length=N:=⟨_,rfl⟩;have HN:=hid hN;have zA:=HNL.out;rw [hN] at HV wV HVG zA;rw [hN];clear hN
 go_loopw [14] (fun i wr=> ∃ (k:Nat) (vU:Value),k≤N∧i=.int .i64 k∧SetsAt B wr g B vU ((gnds l).take (k+1)) (List.range (k+1))∧wr.ownsRow w2.heap.size 9 1 (.slice a3 N c3) N (sts (nds l))∧(∀r,vU.ownBlock=some r→(Value.slice a3 N c3).ownBlock≠some r)∧Below B w wr∧B≤wr.heap.size) (fun i _=> N - (intOf i).toNat)
 case atStart=> exact ⟨0,_,Nat.zero_le _,rfl,aQ.out,HV.out,wV.out,aT.out,vY.out⟩
 case round=>
  obtain ⟨k,vU,hk,rfl,bT,hv,hd,hb,hbz⟩:=hrel;have HS:=hid bT;have HO:=hid hv;have HDD:=hid hd;have HB:=hid hb;have HZ:=hid hbz;clear bT hv hd hb hbz aQ HV wV aT vY
  by_cases aM:k < N
  · obtain ⟨g1,o1,y,aZ,fM,kN,hy⟩:=IsSl.at1 Tryz.underlying70 his hs1 (IsSl.of_own HO.out) aM;obtain ⟨t,ht,rfl⟩:=sts_get hy;have HT:=hid ht;have htx:t.size≤maxLen:=nds_size aY t (List.mem_of_getElem? ht);have HTX:=hid htx;obtain ⟨n1,tF⟩:∃n1,k+1=n1:=⟨_,rfl⟩;have qE:=hid tF;have wF:=HS.out.ou;rw [List.length_range,tF] at wF;obtain ⟨gu,cU,hvu,_⟩:=wF.form (by omega);subst hvu;have aB:wr.heap[g]? =some (.cells #[.map (some B),.slice (some ⟨gu,0,none⟩) n1 cU] 221 (0,0)):=HS.out.blk;have nC:=hid aB;have vF:=hid wF;have n0:=(zAb aB).1 0 _ rfl;have n2:=(zAb aB).1 1 _ rfl;obtain ⟨D,aC,hD⟩:=HS.out.mp;rw [zFq (by rw [HN.out];omega),tF] at aC;have rZ:=hid aC;have HMD:=hid hD;clear hy fM ht htx aB wF aC hD tF;go_upto_region 5 with fail
    go_still_tail 10,(by kernel_rfl)
    change wpList _ _ _ _ _ wr.drew;go_upto_region 6 with (at_mapUpdate;go_loud (refine wpList_mapUpdate_own _ rfl _ _ _ 69 rfl 9 3 law Tryz.underlying69 _ B n1 D rfl rZ.out.drew (by have:=qE.out;unfold maxLen;omega) _ _ _ rfl rfl (WideMaps.keyOf_string_mk Tryz.underlying9 HTX.out) _ [] (plainElem_int Tryz.underlying3 (WalkArith.wf_i64 ⟨by omega,by have:=qE.out;omega⟩)) ?_;intro w4 lV mA;have HM4:=hid lV;have mP:=hid mA;clear lV mA));have aF:=zEp mP.out;have hgB:g≠B:=HS.out.gm;have huB:=HS.out.um;have kS:=hid (show SetsAt B w4 g B (.slice (some ⟨gu,0,none⟩) n1 cU) ((gnds l).take (k+2)) (List.range n1) from ⟨HS.out.gB,HS.out.mB,zAj aF hgB nC.out,⟨_,by rw [zFq (k:=k+1) (by rw [HN.out];omega),qE.out];exact HM4.out,by have h:=zFg HMD.out (gnds_new HT.out);rw [zFq (by rw [HN.out];omega),←gnds_take HT.out,qE.out] at h;exact h⟩,by rw [List.length_range];exact own_ne vF.out aF huB,HS.out.ug⟩);have HVB:=hid (show (Value.slice a3 N c3).ownBlock≠some B from HS.out.mp.ne_row HO.out);have nS:=hid (own_ne HO.out aF HVB.out);have bI:=hid (HB.out.grown aF HZ.out (fun r e=> by cases e;exact Nat.le_refl _));have iL:=hid (Nat.le_trans HZ.out aF.size);clear aF hgB huB HM4 mP rZ HMD nC vF HS HO HB HZ n0 n2;have HGU:=hid (show g≠gu from fun e=> kS.out.ug (by rw [e];rfl));have HBU:=hid (show (Value.slice a3 N c3).ownBlock≠some gu from HDD.out gu rfl);have HMU:=hid (show B≠gu from fun e=> kS.out.um (by rw [e];rfl));have HGL:=hid (show gu < w4.heap.size from (World.ownsRow.lt kS.out.ou gu rfl).2);refine wp_region_any (by kernel_rfl) ?_;change wpAny _ _ _ _ _ _ _ (World.drew _);refine zDm [⟨some 28,0, []⟩,⟨some 29,1, []⟩,⟨some 30,2, []⟩,⟨some 31,3, []⟩,⟨some 32,4, []⟩,⟨some 33,5, []⟩,⟨some 34,6, []⟩,⟨some 35,7, []⟩,⟨some 36,8, []⟩,⟨some 37,9, []⟩,⟨some 38,10, []⟩,⟨some 39,11, []⟩] (fun u u'=> u.grownBy u' (some (gu))) (fun k u u'=> (k=11∧u.grownBy u' (some (gu)))∨(k≠11∧Below u.heap.size u u'))
     (fun d w'=> w'.heap[g]? =some (.cells #[.map (some B),.slice (some ⟨gu,0,none⟩) n1 cU] 221 (0,0))∧(d 11=false→w'.ownsRow B 3 1 (.slice (some ⟨gu,0,none⟩) n1 cU) n1 (nats (List.range n1))))
     (fun oq v _ ww lo hi=> (match oq with | 0=> v=.pointer (some ⟨g,0,none⟩) | 1=> v=.pointer (some ⟨g,0,none⟩) | 2=> v=.pointer (some ⟨g,0,none⟩) | 3=> v=.pointer (some ⟨g,1,none⟩) | 4=> v=.slice (some ⟨gu,0,none⟩) n1 cU | 5=> v=.pointer (some ⟨g,0,none⟩) | 6=> v=.pointer (some ⟨g,0,none⟩) | 7=> v=.pointer (some ⟨g,1,none⟩) | 8=> v=.slice (some ⟨gu,0,none⟩) n1 cU | 9=> v=.int .i64 n1 | 10=> True | 11=> True | _=> True)∧(oq=10→OneD (.int .i64 n1) 3 v ww lo hi)∧(oq=11→AppD B gu w4.heap.size n1 v ww)) (by kernel_rfl) ?hSe (fun _=> World.grownBy.refl _ _) (fun _ _ _ h1 h2=> zAf h1 h2) (fun _ _ h=> h.size) (fun _ _ _ h=> by rcases h with ⟨_,h⟩ | ⟨_,h⟩;exact h;exact zAe h _) (fun o d u u' _ _ h hS=> by rcases h with ⟨rfl,h⟩ | ⟨aK,h⟩;exact ⟨zAj h HGU.out hS.1,fun e=> (by rw [zAm] at e;cases e)⟩;exact ⟨zAi h hS.1,fun e=> zBf (hS.2 (by rw [zAp _ _ (Ne.symm aK)] at e;exact e)) (zAe h none)⟩) (fun o i yX v xs u u' lo hi wI bT zD h=> by rcases bT with ⟨rfl,hg⟩ | ⟨_,hb⟩;exact ⟨h.1,(fun e=> (h.2.1 e).grown hg (Nat.lt_of_lt_of_le HGL.out wI)),(fun e=> absurd e yX)⟩;exact ⟨h.1,fun e=> (h.2.1 e).later hb,fun e=> (h.2.2 e).later hb⟩) ?yV ?rE
    case hSe=> exact ⟨zAi (Below.refl _ _).drew kS.out.blk,fun _=> by have h:=zBf kS.out.ou (zAe (Below.refl _ _).drew none);rw [List.length_range] at h;exact h⟩
    case yV=>
     delta OwedT
     simp only [zBb,Act.put,List.setIfInBounds_toArray,lz,ls];refine Each.cons rfl ?_ (Each.cons rfl ?_ (Each.cons rfl ?_ (Each.cons rfl ?_ (Each.cons rfl ?_ (Each.cons rfl ?_ (Each.cons rfl ?_ (Each.cons rfl ?_ (Each.cons rfl ?_ (Each.cons rfl ?_ (Each.cons rfl ?_ (Each.cons rfl ?_ Each.nil)))))))))))
     all_goals intro vs d w2 aV gL hS2 hR2 K hK;try simp only [zBb,Act.put,List.setIfInBounds_toArray,lz,ls] at hK⊢
     · go_simp;exact hK.out _ _ (.inr ⟨by decide,Below.refl _ _⟩) ⟨rfl,(fun e=> (by cases e)),(fun e=> (by cases e))⟩
     · go_simp;exact hK.out _ _ (.inr ⟨by decide,Below.refl _ _⟩) ⟨rfl,(fun e=> (by cases e)),(fun e=> (by cases e))⟩
     · have h1:vs 1=_:=exR (hR2 1 (by kernel_rfl)) (fun _ _ h=> h.1);simp only [h1] at hK⊢;go_simp;exact hK.out _ _ (.inr ⟨by decide,Below.refl _ _⟩) ⟨rfl,(fun e=> (by cases e)),(fun e=> (by cases e))⟩
     · have h2:vs 2=_:=exR (hR2 2 (by kernel_rfl)) (fun _ _ h=> h.1);simp only [h2] at hK⊢;go_simp;exact hK.out _ _ (.inr ⟨by decide,Below.refl _ _⟩) ⟨rfl,(fun e=> (by cases e)),(fun e=> (by cases e))⟩
     · have h3:vs 3=_:=exR (hR2 3 (by kernel_rfl)) (fun _ _ h=> h.1);have k0:=(zAb hS2.1).1 1 _ rfl;simp only [h3] at hK⊢;go_simp;exact hK.out _ _ (.inr ⟨by decide,Below.refl _ _⟩) ⟨rfl,(fun e=> (by cases e)),(fun e=> (by cases e))⟩
     · go_simp;exact hK.out _ _ (.inr ⟨by decide,Below.refl _ _⟩) ⟨rfl,(fun e=> (by cases e)),(fun e=> (by cases e))⟩
     · have h5:vs 5=_:=exR (hR2 5 (by kernel_rfl)) (fun _ _ h=> h.1);simp only [h5] at hK⊢;go_simp;exact hK.out _ _ (.inr ⟨by decide,Below.refl _ _⟩) ⟨rfl,(fun e=> (by cases e)),(fun e=> (by cases e))⟩
     · have h6:vs 6=_:=exR (hR2 6 (by kernel_rfl)) (fun _ _ h=> h.1);simp only [h6] at hK⊢;go_simp;exact hK.out _ _ (.inr ⟨by decide,Below.refl _ _⟩) ⟨rfl,(fun e=> (by cases e)),(fun e=> (by cases e))⟩
     · have h7:vs 7=_:=exR (hR2 7 (by kernel_rfl)) (fun _ _ h=> h.1);have k0:=(zAb hS2.1).1 1 _ rfl;simp only [h7] at hK⊢;go_simp;exact hK.out _ _ (.inr ⟨by decide,Below.refl _ _⟩) ⟨rfl,(fun e=> (by cases e)),(fun e=> (by cases e))⟩
     · have h8:vs 8=_:=exR (hR2 8 (by kernel_rfl)) (fun _ _ h=> h.1);simp only [h8] at hK⊢;go_simp;exact hK.out _ _ (.inr ⟨by decide,Below.refl _ _⟩) ⟨rfl,(fun e=> (by cases e)),(fun e=> (by cases e))⟩
     · have h9:vs 9=_:=exR (hR2 9 (by kernel_rfl)) (fun _ _ h=> h.1);simp only [h9] at hK⊢;go_simp;exact hK.out _ _ (.inr ⟨by decide,(Below.refl _ _).alloc (Nat.le_refl _) _⟩) ⟨trivial,fun _=> ⟨w2.heap.size,rfl,Nat.le_refl _,by simp,heap_alloc_new _ _⟩,(fun e=> (by cases e))⟩
     · have h4:vs 4=_:=exR (hR2 4 (by kernel_rfl)) (fun _ _ h=> h.1);obtain ⟨_,_,_,H10⟩:=hR2 10 (by kernel_rfl);have Y10:=H10.2.1 rfl;simp only [h4] at hK⊢;obtain ⟨_,_,_,H10⟩:=hR2 10 (by kernel_rfl);obtain ⟨b,bX,wI,hhi,qT⟩:=H10.2.1 rfl;simp only [bX] at hK⊢;rw [if_pos (by rfl)];refine append_own_op rfl _ _ _ rfl B 3 1 8 i0 (.int .i64 0) Tryz.underlying151 hi cG bD cB rfl _ n1 _ (hS2.2 gL) ⟨b,0,none⟩ 1 1 [.int .i64 n1] (by rfl) (by rfl) rfl (news_at qT) (by intro u hu;rw [List.mem_singleton.1 hu];rfl) (by decide) (by have:=qE.out;unfold maxLen;omega) (by have:=qE.out;omega) (Nat.le_trans iL.out aV.size) ?_;intro g1 cap1 w6 eG hlt6 bU;refine hK.out _ _ (.inl ⟨by first | rfl | trivial,?_⟩) ⟨trivial,(fun e=> (by cases e)),fun _=> ⟨g1,cap1,rfl,eG,?_⟩⟩
       · rcases bU with ⟨e,h⟩ | ⟨_,h⟩
         · obtain rfl:=zCx e;exact h
         · exact grown_any h
       · rcases bU with ⟨e,_⟩ | ⟨e,_⟩
         · exact .inl (zCx e)
         · exact .inr (by rw [e];exact aV.size)
    case rE=>
     intro vs wx lo iB bK hSx hRx dN;have h0:vs 0=_:=(hRx 0 (by kernel_rfl)).1.1;have h1:vs 1=_:=(hRx 1 (by kernel_rfl)).1.1;have h2:vs 2=_:=(hRx 2 (by kernel_rfl)).1.1;have h3:vs 3=_:=(hRx 3 (by kernel_rfl)).1.1;have h4:vs 4=_:=(hRx 4 (by kernel_rfl)).1.1;have h5:vs 5=_:=(hRx 5 (by kernel_rfl)).1.1;have h6:vs 6=_:=(hRx 6 (by kernel_rfl)).1.1;have h7:vs 7=_:=(hRx 7 (by kernel_rfl)).1.1;have h8:vs 8=_:=(hRx 8 (by kernel_rfl)).1.1;have h9:vs 9=_:=(hRx 9 (by kernel_rfl)).1.1;have Y10:=(hRx 10 (by kernel_rfl)).1.2.1 rfl;have Z10:=(hRx 10 (by kernel_rfl)).2;have Y11:=(hRx 11 (by kernel_rfl)).1.2.2 rfl;have Z11:=(hRx 11 (by kernel_rfl)).2;simp only [zBb,Act.put,List.setIfInBounds_toArray,lz,ls,h0,h1,h2,h3,h4,h5,h6,h7,h8,h9];have hgx:=zEp bK;obtain ⟨g1,cap1,bQ,eG,hor⟩:=Y11;have HGX:=hid hgx;have lA:=hid hSx.1;have mK:=hid eG;have HOR:=hid hor;clear bK hSx hRx dN hgx eG hor Y10 Z10 Z11 h0 h1 h2 h3 h4 h5 h6 h7 h8 h9;rw [bQ] at mK;simp only [bQ];clear bQ;have m0:=(zAb lA.out).1 1 _ rfl;have f1:=(zAb lA.out).2 1;refine zAr (i:=12) (by kernel_rfl) rfl (fun K hK=> ?_);go_simp;refine hK.out _ _ ?_;clear hK;refine zAr (i:=13) (by kernel_rfl) rfl (fun K hK=> ?_);go_simp;refine hK.out _ _ ?_;clear hK;refine zAr (i:=14) (by kernel_rfl) rfl (fun K hK=> ?_);go_simp;refine hK.out _ _ ?_;clear hK m0 f1;refine wpAny_done (by kernel_rfl) ?_ _;go_wp2;go_roundw
     case rel=>
      have iR:=zAn wx g 1 (.slice (some ⟨g1,0,none⟩) (n1+1) cap1);have oI:g≠g1:=by
       rcases HOR.out with h | h
       · rw [h];exact HGU.out
       · have:=(Array.getElem?_eq_some_iff.1 kS.out.blk).1;omega
      have hBg:some B≠some g:=fun e=> kS.out.gm (Option.some.inj e).symm
      have hv4:(Value.slice a3 N c3).ownBlock≠some g:=HVG.out;have lX:=(kS.out.mp.kept HGX.out (fun e=> HMU.out (Option.some.inj e))).kept iR hBg;have hov:=own_ne (own_ne nS.out HGX.out HBU.out) iR hv4;refine ⟨k+1,.slice (some ⟨g1,0,none⟩) (n1+1) cap1,by omega,by go_num,⟨kS.out.gB,kS.out.mB,zAy (o:=1) lA.out _,by have e:=qE.out;exact lX,?_,fun e=> oI (zCx e)⟩,hov,?_,?_,?_⟩
      · rw [List.length_range,qE.out,List.range_succ,nats_snoc];exact own_ne mK.out iR (fun e=> oI (zCx e))
      · intro r e;rw [zCx e];rcases HOR.out with h | h
        · rw [h];exact HBU.out
        · intro e2;have:=(World.ownsRow.lt nS.out _ e2).2;omega
      · exact (bI.out.grown HGX.out iL.out (fun r e=> by cases e;exact (World.ownsRow.lt kS.out.ou gu rfl).1)).setCell kS.out.gB _
      · have:=HGX.out.size;have:=iL.out;simp;omega
     case measure=> simp [intOf];omega
  · obtain rfl:k=N:=by omega
    go_wp2;go_ret;refine ⟨g,B,vU,rfl,?_,by rw [kB.out];exact HB.out⟩;have h:=HS.out;rw [←HN.out,←zDe,List.take_length] at h;rw [kB.out];exact h
end
end Go.Proofs.YtdepiggjneoopaaGreatDoor
