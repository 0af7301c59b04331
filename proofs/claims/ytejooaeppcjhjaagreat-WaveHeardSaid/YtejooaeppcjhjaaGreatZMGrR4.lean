/- a part of the proof of the last text -/
import Derived.Test.YtejooaeppcjhjaaGreatZStpW2
namespace Go.Proofs.YtejooaeppcjhjaaGreat
set_option linter.all false
set_option maxHeartbeats 4000000
set_option maxRecDepth 100000
section
open Go.RowKit FV
theorem sgn_lo {x:Nat} (h:x < 2 ^ 63):sgn x=false:=by unfold sgn;rw [Nat.div_eq_of_lt h];rfl
theorem fsz_lt (x:Nat):zBf x < 2 ^ 63:=Nat.mod_lt _ (by decide)
theorem fsz_mod (x:Nat):zBf x % 2 ^ 63=zBf x:=Nat.mod_eq_of_lt (fsz_lt x)
theorem near_pos {m:Nat} {e:Int} (hm:m≠0) (he:-1074≤e):∃r,0 < r∧r≤dbl.infRung∧dbl.nearest false m e=dbl.word false r:=by
 refine ⟨_,?_,Nat.min_le_right _ _,by unfold Ieee.Format.nearest;rw [if_neg hm]⟩;have hinf:0 < dbl.infRung:=by decide
 rw [Nat.lt_min];refine ⟨?_,hinf⟩;have hb:0 < dbl.binade:=by decide
 obtain ⟨last,hl⟩:∃last,max (e+(m.log2:Int) - dbl.fractionBits) dbl.leastPlace=last:=⟨_,rfl⟩;rw [hl];have hlp:dbl.leastPlace=-1074:=lp_eq;have h1:-1074≤last:=by omega
 rcases Int.lt_or_le (-1074) last with h | h
 · have:0 < (last - dbl.leastPlace).toNat:=by omega
   have:=Nat.mul_pos this hb
   omega
 · have hle:last=-1074:=by omega
   rw [show (last - e).toNat=0 by omega,cut_even _ _ _ (by omega),cutE_zero];have:0 < m <<< (e - last).toNat:=by rw [Nat.shiftLeft_eq];exact Nat.mul_pos (by omega) (Nat.two_pow_pos _)
   omega
theorem word_gt {r:Nat} (h0:0 < r) (h1:r≤dbl.infRung):ford (dbl.word false r) 0=some .gt:=by
 have hz:FV.fin 0=true:=by decide
 rcases Nat.lt_or_ge r dbl.infRung with h | h
 · obtain ⟨h2,h3⟩:=val_word false r h;show dbl.order _ 0=_;rw [order_fin h2 hz,h3];have hv:val 0=0:=by decide
   have hm:0 < mag r:=by
    unfold mag
    split
    · exact h0
    · exact Nat.mul_pos (by have:=Nat.two_pow_pos 52;omega) (Nat.two_pow_pos _)
   rw [hv];show some (compare ((mag r:Nat):Int) 0)=some .gt
   congr 1
   rw [Int.compare_eq_gt]
   omega
 · obtain rfl:r=dbl.infRung:=by omega
   decide+kernel
theorem size_pos {a b:Nat} (ha:FV.fin a=true) (hb:FV.fin b=true) (h:¬(zBf a=0∧zBf b=0)):ford (fadd (zBf a) (zBf b)) 0=some .gt:=by
 have fa:FV.fin (zBf a)=true:=by unfold FV.fin at *;rw [fsz_mod];exact ha
 have fb:FV.fin (zBf b)=true:=by unfold FV.fin at *;rw [fsz_mod];exact hb
 have px:=plc_ge (zBf a);have py:=plc_ge (zBf b);obtain ⟨e,he⟩:∃e,min (plc (zBf a)) (plc (zBf b))=e:=⟨_,rfl⟩;have sg0:∀ {x:Nat},zBf x≠0→sig (zBf x)≠0:=fun {x} hx=> by
  unfold sig;rw [fsz_mod]
  split
  · exact hx
  · have:=Nat.two_pow_pos 52;omega
 have hadd:dbl.add (zBf a) (zBf b)=some (dbl.nearest false (sig (zBf a) * 2 ^ (plc (zBf a) - e).toNat+sig (zBf b) * 2 ^ (plc (zBf b) - e).toNat) e):=by
  unfold Ieee.Format.add;rw [zHb fa,zHb fb];simp only [Ieee.Datum.sum,he,signed_eq,sgn_lo (fsz_lt a),sgn_lo (fsz_lt b),Option.map_some,Ieee.Format.write]
  congr 1
  have e1:sg false (sig (zBf a) * 2 ^ (plc (zBf a) - e).toNat)+sg false (sig (zBf b) * 2 ^ (plc (zBf b) - e).toNat)=((sig (zBf a) * 2 ^ (plc (zBf a) - e).toNat+sig (zBf b) * 2 ^ (plc (zBf b) - e).toNat:Nat):Int):=by
   unfold sg;simp
  rw [e1,Int.natAbs_natCast]
  congr 1
  split
  · rfl
  · exact decide_eq_false (by omega)
 have hm:sig (zBf a) * 2 ^ (plc (zBf a) - e).toNat+sig (zBf b) * 2 ^ (plc (zBf b) - e).toNat≠0:=by
  intro h0;have h1:sig (zBf a) * 2 ^ (plc (zBf a) - e).toNat=0:=by omega
  have h2:sig (zBf b) * 2 ^ (plc (zBf b) - e).toNat=0:=by omega
  have z:∀ {s k:Nat},s * 2 ^ k=0→s=0:=fun {s k} h=> by
   rcases Nat.mul_eq_zero.1 h with h | h
   · exact h
   · have:=Nat.two_pow_pos k;omega
  refine h ⟨?_,?_⟩
  · exact Classical.byContradiction fun hx=> sg0 hx (z h1)
  · exact Classical.byContradiction fun hx=> sg0 hx (z h2)
 obtain ⟨r,hr0,hr1,hr2⟩:=near_pos hm (e:=e) (by omega);have:fadd (zBf a) (zBf b)=dbl.word false r:=by
  unfold fadd fop;show (dbl.add (zBf a) (zBf b)).getD qnan=_;rw [hadd,hr2];rfl
 rw [this];exact word_gt hr0 hr1
theorem size_zero:fadd 0 0=0:=by decide+kernel
theorem ffin_fin {x:Nat} (h:ffin x=true):FV.fin x=true:=by
 cases hf:FV.fin x with
 | true=> rfl
 | false=>
  exfalso
  have h3:¬x % 2 ^ 63 < 2047 * 2 ^ 52:=by simpa [FV.fin] using hf
  have hr:(∃s,dbl.read x=.infinity s)∨∃s t,dbl.read x=.nan s t:=by
   unfold Ieee.Format.read;simp only [sw_eq,inf_eq,bin_eq];have h4:2047 * 2 ^ 52≤x % 2 ^ 63:=by omega
   rw [if_neg (by omega),if_neg (by omega)]
   split
   · exact .inl ⟨_,rfl⟩
   · exact .inr ⟨_,_,rfl⟩
  have hn:fsub x x=qnan:=by
   unfold fsub fop;show (dbl.sub x x).getD qnan=qnan;unfold Ieee.Format.sub;rcases hr with ⟨s,hr⟩ | ⟨s,t,hr⟩ <;> rw [hr] <;> cases s <;> simp [Ieee.Datum.sum,Ieee.Datum.opposite]
  unfold ffin at h;rw [hn] at h
  revert h
  decide+kernel
theorem zero_size {x:Nat} (h:ford x 0=some .eq):zBf x=0:=by
 have hz:FV.fin 0=true:=by decide
 cases hf:FV.fin x with
 | true=>
  have h1:dbl.order x 0=some .eq:=h;rw [order_fin hf hz] at h1;have hv:val 0=0:=by decide
  rw [hv] at h1;have h2:val x=0:=by
   have:=Option.some.inj h1;exact Int.compare_eq_eq.1 this
  have h3:mag (x % 2 ^ 63)=0:=by
   unfold val sg at h2
   split at h2 <;> omega
  unfold mag at h3
  split at h3
  · exact h3
  · have:0 < (2 ^ 52+x % 2 ^ 63 % 2 ^ 52) * 2 ^ (x % 2 ^ 63 / 2 ^ 52 - 1):=Nat.mul_pos (by have:=Nat.two_pow_pos 52;omega) (Nat.two_pow_pos _)
    omega
 | false=>
  exfalso
  have h3:¬x % 2 ^ 63 < 2047 * 2 ^ 52:=by simpa [FV.fin] using hf
  have hr:(∃s,dbl.read x=.infinity s)∨∃s t,dbl.read x=.nan s t:=by
   unfold Ieee.Format.read;simp only [sw_eq,inf_eq,bin_eq];rw [if_neg (by omega),if_neg (by omega)]
   split
   · exact .inl ⟨_,rfl⟩
   · exact .inr ⟨_,_,rfl⟩
  have h1:dbl.order x 0=some .eq:=h;unfold Ieee.Format.order at h1;rw [zHb hz] at h1;rcases hr with ⟨s,hr⟩ | ⟨s,t,hr⟩ <;> rw [hr] at h1 <;> cases s <;> simp [Ieee.Datum.order] at h1
end
section
open Go.RowKit FV
abbrev bigF:Nat:=9218868437227405311
theorem mag_big {r:Nat} (h:r < 2047 * 2 ^ 52):mag r≤mag bigF:=by
 obtain ⟨K,hK⟩:∃K,K=2045:=⟨_,rfl⟩;have h1:mag bigF=(2 ^ 53 - 1) * 2 ^ K:=by
  have:=mag_rung K (2 ^ 53 - 1) (by omega) (.inl (by omega));have he:K * 2 ^ 52+(2 ^ 53 - 1)=bigF:=by show _=9218868437227405311;omega
  rw [he] at this;exact this
 rw [h1];unfold mag
 split
 · have:=Nat.two_pow_pos K;have h3:(2 ^ 53 - 1) * 1≤ (2 ^ 53 - 1) * 2 ^ K:=Nat.mul_le_mul_left _ this
   omega
 · exact Nat.mul_le_mul (by have:=Nat.mod_lt r (show 0 < 2 ^ 52 by decide);omega) (Nat.pow_le_pow_right (by decide) (by subst hK;omega))
theorem fin_ffin {x:Nat} (h:FV.fin x=true):ffin x=true:=by
 have hs:dbl.sub x x=some (dbl.nearest false 0 (plc x)):=by
  unfold Ieee.Format.sub;rw [zHb h];cases hs:sgn x <;> simp [Ieee.Datum.sum,Ieee.Datum.opposite,signed_eq,sg,Ieee.Format.write,Int.add_right_neg,Int.add_left_neg]
 have hz:∀b,dbl.nearest b 0 (plc x)=dbl.word b 0:=fun b=> by unfold Ieee.Format.nearest;rw [if_pos rfl]
 unfold ffin fsub fop;show (ford ((dbl.sub x x).getD qnan) 0==some .eq)=true;rw [hs,hz]
 decide+kernel
theorem notfin {x:Nat} (h:FV.fin x=false):ffin x=false:=by
 cases hh:ffin x with
 | false=> rfl
 | true=> rw [ffin_fin hh] at h;cases h
theorem ord_self {x:Nat} (h:FV.fin x=true):ford x x=some .eq:=by
 show dbl.order x x=_;exact order_eq h h rfl
theorem isInf_fin {x:Nat} (h:FV.fin x=true):(ford (zBf x) bigF==some .gt)=false:=by
 have fx:FV.fin (zBf x)=true:=by unfold FV.fin at *;rw [fsz_mod];exact h
 have fb:FV.fin bigF=true:=by decide
 have hlt:zBf x < 2047 * 2 ^ 52:=by unfold FV.fin at h;have:=of_decide_eq_true h;exact this
 have:dbl.order (zBf x) bigF=some (compare (val (zBf x)) (val bigF)):=order_fin fx fb;show (dbl.order (zBf x) bigF==some .gt)=false;rw [this];have hv:val (zBf x)≤val bigF:=by
  unfold val;rw [sgn_lo (fsz_lt x),sgn_lo (show bigF < 2 ^ 63 by decide),fsz_mod,Nat.mod_eq_of_lt (show bigF < 2 ^ 63 by decide)];have:=mag_big hlt;show ((mag (zBf x):Nat):Int)≤ ((mag bigF:Nat):Int)
  exact_mod_cast this
 rw [beq_eq_false_iff_ne];intro hc;have h1:=Option.some.inj hc;rw [Int.compare_eq_gt] at h1
 omega
theorem isInf_not {x:Nat} (h:FV.fin x=false):(ford (zBf x) bigF==some .gt)=true∨((ford (zBf x) bigF==some .gt)=false∧(ford x x !=some .eq)=true):=by
 have h3:¬x % 2 ^ 63 < 2047 * 2 ^ 52:=by simpa [FV.fin] using h
 have fb:FV.fin bigF=true:=by decide
 have hsz:zBf x=x % 2 ^ 63:=rfl
 by_cases he:x % 2 ^ 63=2047 * 2 ^ 52
 · left
   rw [hsz,he]
   decide+kernel
 · right
   have hr:∃s t,dbl.read x=.nan s t:=by
    unfold Ieee.Format.read;simp only [sw_eq,inf_eq,bin_eq];rw [if_neg (by omega),if_neg (by omega),if_neg (by omega)];exact ⟨_,_,rfl⟩
   have hr2:∃s t,dbl.read (zBf x)=.nan s t:=by
    unfold Ieee.Format.read;simp only [sw_eq,inf_eq,bin_eq,fsz_mod];rw [hsz,if_neg (by omega),if_neg (by omega),if_neg (by omega)];exact ⟨_,_,rfl⟩
   obtain ⟨s,t,hr⟩:=hr;obtain ⟨s2,t2,hr2⟩:=hr2
   constructor
   · show (dbl.order _ _==some .gt)=false;unfold Ieee.Format.order;rw [hr2,zHb fb]
     simp [Ieee.Datum.order]
   · show (dbl.order _ _ !=some .eq)=true;unfold Ieee.Format.order;rw [hr]
     simp [Ieee.Datum.order]
theorem fin_iff (x:Nat):FV.fin x=ffin (fc x):=by
 rw [ffin_fc];cases h:FV.fin x with
 | true=> rw [fin_ffin h]
 | false=> rw [notfin h]
theorem ord_le {x y:Nat} (hx:FV.fin x=true) (hy:FV.fin y=true):(ford x y==some .lt || ford x y==some .eq)=!(ford x y==some .gt):=by
 have:ford x y=some (compare (val x) (val y)):=order_fin hx hy;rw [this];cases compare (val x) (val y) <;> rfl
end
section
open Go.RowKit
def zrs:List Cx:=List.replicate 4096 (0,0)
theorem board_new (p:Value) (nd n:Nat):
 ((Tryz.zeroCells173.setIfInBounds 0 p).setIfInBounds 1 (.int .i64 nd)).setIfInBounds 2 (.int .i64 n)=zBm p nd n false zrs:=by
 kernel_rfl
theorem zCo {fn:Func} {p:Tmp} {ty:TypeId} (h:fn.results=#[.cell p ty]) (tmps:Array Value) (P:Program) (w:World):
 (results fn tmps).run P w=((asAddr (tmps.getD p undef)).run P w).andThen fun a w₁=> (loadVar ty a).run P w₁:=by
 simp only [results,h]
 simp [Sem.run_bind,Result.andThen]
theorem abs_any (x:Nat) (w:World):
 Calls Tryz.prog 113 #[.float .f64 x] w fun e w'=> e=.returned (.float .f64 (zBf x))∧w=w':=by
 have b1:=bits_law;have b2:=zDi;go_enter Tryz.func113,Tryz.ntmps113;go_wp2;go_ret;exact ⟨congrArg (fun y=> Ending.returned (.float .f64 y)) (fsize_walk x),rfl⟩
theorem zFx (x:Nat) (w:World):
 Calls Tryz.prog 69 #[.float .f64 x,.int .i64 0] w fun e w'=> e=.returned (.bool (ford (zBf x) bigF==some .gt))∧w=w':=by
 go_enter Tryz.func69,Tryz.ntmps69;go_wp2_with (go_at_call 113;refine (abs_any _ _).mono ?_;rintro e w' ⟨rfl,rfl⟩);go_ret;exact ⟨rfl,rfl⟩
theorem made_any (p:Value) (l:List El) (w:World) (hp:NN w p l) (hn:has (l.map El.name) ⟨#[]⟩=false):
 Calls Tryz.prog 119 #[p] w fun e w'=> e=.returned (.bool (!zAw p))∧w=w':=by
 have HP:=hid hp;have HN:=hid hn;clear hp hn;cases hq:zAw p
 · have HQ:=hid hq;go_enter Tryz.func119,Tryz.ntmps119;go_wp2_with (go_at_call 87;refine (zFn _ l _ HP.out HN.out).mono ?_;rintro e w' ⟨rfl,rfl⟩;rw [HQ.out]);go_ret;exact ⟨rfl,rfl⟩
 · have HQ:=hid hq;go_enter Tryz.func119,Tryz.ntmps119;go_wp2_with (go_at_call 87;refine (zFn _ l _ HP.out HN.out).mono ?_;rintro e w' ⟨rfl,rfl⟩;rw [HQ.out]);go_ret;exact ⟨rfl,rfl⟩
end
section
open Go.RowKit
theorem rjoins_any (x:El) (w:World):
 Calls Tryz.prog 185 #[.agg #[.int .u8 x.kind,.string x.name,.string x.a,.string x.b,.string x.c,.string x.d,.float .f64 x.val,.int .i64 x.ph]] w fun e w'=> e=.returned (.bool (zFw x))∧Below w.heap.size w w':=by
 have HBW:=hid ((Below.refl w.heap.size w).alloc (Nat.le_refl _) (.cells #[.int .u8 x.kind,.string x.name,.string x.a,.string x.b,.string x.c,.string x.d,.float .f64 x.val,.int .i64 x.ph] 48))
 by_cases h4:x.kind=4
 · have H:Hid (zFw x=false):=hid (by unfold zFw;rw [h4];rfl);have hn:(x.kind !=4)=false:=by rw [h4];rfl
   clear h4;go_enter Tryz.func185,Tryz.ntmps185;go_wp2;go_ret;exact ⟨by rw [H.out];rfl,HBW.out⟩
 · have hn:(x.kind !=4)=true:=by rw [bne_iff_ne];exact h4
   by_cases h6:x.kind=6
   · have H:Hid (zFw x=false):=hid (by unfold zFw;rw [h6];rfl);have hm:(x.kind !=6)=false:=by rw [h6];rfl
     clear h4 h6;go_enter Tryz.func185,Tryz.ntmps185;go_wp2;go_ret;exact ⟨by rw [H.out];rfl,HBW.out⟩
   · have hm:(x.kind !=6)=true:=by rw [bne_iff_ne];exact h6
     have H:Hid (zFw x=true):=hid (by unfold zFw;rw [hn,hm];rfl);clear h4 h6;go_enter Tryz.func185,Tryz.ntmps185;go_wp2;go_ret;exact ⟨by rw [H.out];rfl,HBW.out⟩
theorem rgnone_any (q:Value) (l:List El) (w:World) (hq:RN w q l):
 Calls Tryz.prog 162 #[q] w fun e w'=> e=.returned (.bool (zAw q))∧w'=w:=by
 rcases hq with ⟨rfl,rfl⟩ | ⟨g,v,rfl,h0,h1,_⟩
 · go_enter Tryz.func162,Tryz.ntmps162;go_wp2;go_ret;exact ⟨rfl,rfl⟩
 · go_enter Tryz.func162,Tryz.ntmps162;go_wp2;go_ret;exact ⟨rfl,rfl⟩
theorem ptK_len (l:List El) (k:Nat):(ptK l k).length=(gnds l).length:=by
 obtain ⟨h1,h2⟩:=upK_len l k;rw [h1.len,h2,zBz]
theorem ptK_yes {l:List El} {k:Nat} {x:El} (h:l[k]? =some x) (hj:zFw x=true):ptK l (k+1)=joinP (ptK l k) (gIx l x.a) (gIx l x.b):=by simp only [ptK,h,hj,if_true]
theorem ptK_no {l:List El} {k:Nat} {x:El} (h:l[k]? =some x) (hj:zFw x=false):ptK l (k+1)=ptK l k:=by simp only [ptK,h,hj,Bool.false_eq_true,if_false]
theorem rwhole_any (q:Value) (l:List El) (w:World) (hq:RN w q l) (hl:l.length≤100000) (hok:∀x∈l,zBc x=0):
 Calls Tryz.prog 163 #[q] w (RetHang l (ptK l l.length) w):=by
 obtain ⟨ie,hie,hi0,hi1,hi2⟩:=info_parts zFh;have HQ:=hid hq;have HOK:=hid hok;have HLE:=hid hl;clear hq hok;go_enter Tryz.func163,Tryz.ntmps163;go_upto_region 2 with (go_at_call 184;refine (rgof_any q l _ HQ.out hl).mono ?_;rintro e w1 ⟨g,vN,vP,rfl,hh,hb⟩;obtain ⟨aN,cN,rfl⟩:=(IsSl.of_own hh.on).form;obtain ⟨aP,cP,rfl⟩:=(IsSl.of_own hh.op).form;have HH:=hid hh;have HB:=hid hb;have HQ1:=hid (HQ.out.below hb (Nat.le_refl _));clear hh hb HQ);generalize hvN:Value.slice aN (gnds l).length cN=vN at *;generalize hvP:Value.slice aP (List.range (gnds l).length).length cP=vP at *;clear hvN hvP;have HVP:=hid (show∀r,vP.ownBlock=some r→r < w1.heap.size from fun r e=> (World.ownsRow.lt HH.out.op r e).2);go_wp2_with (go_at_call 66;refine (zFk q l _ HQ1.out (by omega)).mono ?_;rintro e w2 ⟨v0,xs,rfl,hown,rfl,hb⟩;obtain ⟨a0,c0,rfl⟩:=(IsSl.of_own hown).form;have HE:=hid hown;have HH2:=hid (HH.out.later hb);have HB2:=hid (zAd HB.out hb);have HD:=hid (show∀r,vP.ownBlock=some r→(Value.slice a0 l.length c0).ownBlock≠some r from fun r e e2=> by have h1:=HVP.out r e;have h2:=(World.ownsRow.lt hown r e2).1;omega);clear hown hb HH HB HQ1)
 go_loopw [5] (fun i wr=> ∃k:Nat,k≤l.length∧i=.int .i64 k∧HangAt w.heap.size wr g vN vP l (ptK l k)∧wr.ownsRow w1.heap.size 48 8 (.slice a0 l.length c0) l.length (l.flatMap ea)∧Below w.heap.size w wr) (fun i _=> l.length - (intOf i).toNat)
 case atStart=> exact ⟨0,Nat.zero_le _,rfl,by have h:=HH2.out;rw [zBz] at h;exact h,HE.out,HB2.out⟩
 case round=>
  obtain ⟨k,hk,rfl,hh,he,hb⟩:=hrel;have HA:=hid hh;have HO:=hid he;have HB:=hid hb;clear hh he hb HH2 HE HB2
  by_cases hlt:k < l.length
  · obtain ⟨g1,o1,x,hidx,hg,hx,hcell⟩:=IsSl.atF Tryz.underlying26 hie hi1 ea_len (IsSl.of_own HO.out) rfl hlt;have HX:=hid hx;have hxm:=List.mem_of_getElem? hx;have HJ:=hid (joined hxm (HOK.out x hxm));have e0:wr.cell? ⟨g1,o1,none⟩=some (.int .u8 x.kind):=hcell 0 _ rfl;have e1:wr.cell? ⟨g1,o1+1,none⟩=some (.string x.name):=hcell 1 _ rfl;have e2:wr.cell? ⟨g1,o1+2,none⟩=some (.string x.a):=hcell 2 _ rfl;have e3:wr.cell? ⟨g1,o1+3,none⟩=some (.string x.b):=hcell 3 _ rfl;have e4:wr.cell? ⟨g1,o1+4,none⟩=some (.string x.c):=hcell 4 _ rfl;have e5:wr.cell? ⟨g1,o1+5,none⟩=some (.string x.d):=hcell 5 _ rfl;have e6:wr.cell? ⟨g1,o1+6,none⟩=some (.float .f64 x.val):=hcell 6 _ rfl;have e7:wr.cell? ⟨g1,o1+7,none⟩=some (.int .i64 x.ph):=hcell 7 _ rfl;have HC2:=hid e2;have HC3:=hid e3;clear hcell hg hx hxm;cases hj:zFw x
    · have HJN:=hid hj;go_wp2_with (go_at_call 185;refine (rjoins_any x _).mono ?_;rintro e w3 ⟨rfl,hb⟩;rw [HJN.out];have HA3:=hid (HA.out.later hb);have HO3:=hid (zBa HO.out (zAe hb none));have HB3:=hid (zAd HB.out hb);clear hb e0 e1 e2 e3 e4 e5 e6 e7);go_roundw
      case rel=> exact ⟨k+1,by omega,by go_num,by rw [ptK_no HX.out HJN.out];exact HA3.out,HO3.out,HB3.out⟩
      case measure=> simp [intOf];omega
    · have HJY:=hid hj;go_upto_region 7 with (go_at_call 185;refine (rjoins_any x _).mono ?_;rintro e w3 ⟨rfl,hb⟩;rw [HJY.out];have HA3:=hid (HA.out.later hb);have HO3:=hid (zBa HO.out (zAe hb none));have HB3:=hid (zAd HB.out hb);have HC2b:=hid (cell_later hb HC2.out);have HC3b:=hid (cell_later hb HC3.out);clear hb e0 e1 e2 e3 e4 e5 e6 e7 HA HO HB HC2 HC3);refine wp_region_any (by kernel_rfl) ?_;change wpAny _ _ _ _ _ _ _ (World.drew _);refine zAy [⟨some 21,0, []⟩,⟨some 22,1, []⟩,⟨some 23,2, []⟩,⟨some 24,3, []⟩,⟨some 25,4, []⟩,⟨some 26,5, []⟩,⟨some 27,6, []⟩,⟨some 28,7, []⟩,⟨some 29,8, []⟩,⟨some 30,9, []⟩,⟨some 31,10, []⟩]
       (fun w'=> w'.cell? ⟨g1,o1+2,none⟩=some (.string x.a)∧w'.cell? ⟨g1,o1+3,none⟩=some (.string x.b))
       (fun oq v _ _ _ _=> match oq with | 0=> v=.pointer (some ⟨g,0,none⟩) | 1=> v=.slice a0 l.length c0 | 2=> v=.int .i64 k | 3=> v=.pointer (some ⟨g1,o1,none⟩) | 4=> v=.pointer (some ⟨g1,o1+2,none⟩) | 5=> v=.string x.a | 6=> v=.slice a0 l.length c0 | 7=> v=.int .i64 k | 8=> v=.pointer (some ⟨g1,o1,none⟩) | 9=> v=.pointer (some ⟨g1,o1+3,none⟩) | 10=> v=.string x.b | _=> True) (by kernel_rfl) ?hSw (fun _ _ hb h=> ⟨cell_later hb h.1,cell_later hb h.2⟩) (fun _ _ _ _ _ _ _ _ _ h=> h) ?hopw ?hendw
      case hSw=> exact ⟨HC2b.out,HC3b.out⟩
      case hopw=>
       delta Owed
       simp only [zBg,Act.put,List.setIfInBounds_toArray,lz,ls];refine Each.cons rfl ?_ (Each.cons rfl ?_ (Each.cons rfl ?_ (Each.cons rfl ?_ (Each.cons rfl ?_ (Each.cons rfl ?_ (Each.cons rfl ?_ (Each.cons rfl ?_ (Each.cons rfl ?_ (Each.cons rfl ?_ (Each.cons rfl ?_ Each.nil))))))))))
       all_goals intro vs w2 hb2 hS2 hR2 K hK;try simp only [zBg,Act.put,List.setIfInBounds_toArray,lz,ls] at hK⊢
       · go_simp;exact shP hK
       · go_simp;exact shP hK
       · go_simp;exact shP hK
       · have h1:vs 1=_:=exR (hR2 1 (by kernel_rfl)) (fun _ _ h=> h);have h2:vs 2=_:=exR (hR2 2 (by kernel_rfl)) (fun _ _ h=> h);have k2:=hS2.1;have k3:=hS2.2;simp only [h1,h2] at hK⊢;go_simp;exact shP hK
       · have h3:vs 3=_:=exR (hR2 3 (by kernel_rfl)) (fun _ _ h=> h);simp only [h3] at hK⊢;go_simp;exact shP hK
       · have h4:vs 4=_:=exR (hR2 4 (by kernel_rfl)) (fun _ _ h=> h);have k2:=hS2.1;have k3:=hS2.2;simp only [h4] at hK⊢;go_simp;exact shP hK
       · go_simp;exact shP hK
       · go_simp;exact shP hK
       · have h6:vs 6=_:=exR (hR2 6 (by kernel_rfl)) (fun _ _ h=> h);have h7:vs 7=_:=exR (hR2 7 (by kernel_rfl)) (fun _ _ h=> h);have k2:=hS2.1;have k3:=hS2.2;simp only [h6,h7] at hK⊢;go_simp;exact shP hK
       · have h8:vs 8=_:=exR (hR2 8 (by kernel_rfl)) (fun _ _ h=> h);simp only [h8] at hK⊢;go_simp;exact shP hK
       · have h9:vs 9=_:=exR (hR2 9 (by kernel_rfl)) (fun _ _ h=> h);have k2:=hS2.1;have k3:=hS2.2;simp only [h9] at hK⊢;go_simp;exact shP hK
      case hendw=>
       intro vs wx lo hiv hbx hSx hRx hdx;have h0:vs 0=_:=(hRx 0 (by kernel_rfl)).1;have h1:vs 1=_:=(hRx 1 (by kernel_rfl)).1;have h2:vs 2=_:=(hRx 2 (by kernel_rfl)).1;have h3:vs 3=_:=(hRx 3 (by kernel_rfl)).1;have h4:vs 4=_:=(hRx 4 (by kernel_rfl)).1;have h5:vs 5=_:=(hRx 5 (by kernel_rfl)).1;have h6:vs 6=_:=(hRx 6 (by kernel_rfl)).1;have h7:vs 7=_:=(hRx 7 (by kernel_rfl)).1;have h8:vs 8=_:=(hRx 8 (by kernel_rfl)).1;have h9:vs 9=_:=(hRx 9 (by kernel_rfl)).1;have h10:vs 10=_:=(hRx 10 (by kernel_rfl)).1;simp only [zBg,Act.put,List.setIfInBounds_toArray,lz,ls,h0,h1,h2,h3,h4,h5,h6,h7,h8,h9,h10];have hb:=zAq hbx;have HA4:=hid (HA3.out.later hb);have HO4:=hid (zBa HO3.out (zAe hb none));have HB4:=hid (zAd HB3.out hb);clear hbx hSx hRx hdx hb HA3 HO3 HB3 HC2b HC3b h0 h1 h2 h3 h4 h5 h6 h7 h8 h9 h10;refine zAt (i:=11) (by kernel_rfl) rfl (fun K hK=> ?_);rw [if_pos (by rfl)];go_wp2_with (go_at_call 186;refine (rjoin_any w.heap.size g vN vP l (ptK l k) x.a x.b _ HA4.out HB4.out.size HLE.out (ptK_len l k) HJ.out.1 HJ.out.2).mono ?_;rintro e w5 ⟨rfl,hh,hgr⟩;have HA5:=hid hh;have HO5:=hid (zAz HO4.out hgr (fun r e e2=> HD.out r e2 e));have HB5:=hid (HB4.out.grown hgr HB4.out.size (fun r e=> (World.ownsRow.lt HA4.out.op r e).1));clear hh hgr HA4 HO4 HB4);refine hK.out _ _ ?_;clear hK;refine wpAny_done (by kernel_rfl) ?_ _;go_wp2;go_roundw
       case rel=> exact ⟨k+1,by omega,by go_num,by rw [ptK_yes HX.out HJY.out];exact HA5.out,HO5.out,HB5.out⟩
       case measure=> simp [intOf];omega
  · obtain rfl:k=l.length:=by omega
    go_wp2;go_ret;exact ⟨g,vN,vP,rfl,HA.out,HB.out⟩
theorem find_yes {p:Nat→Bool} {n k:Nat} (hk:k < n) (h:∀j,j < k→p j=false) (hp:p k=true):(List.range n).find? p=some k:=by
 rw [List.find?_range_eq_some];exact ⟨hp,List.mem_range.2 hk,fun j hj=> by rw [h j hj];rfl⟩
theorem find_not {p:Nat→Bool} {n:Nat} (h:∀j,j < n→p j=false):(List.range n).find? p=none:=by
 rw [List.find?_eq_none];intro j hj;rw [h j (List.mem_range.1 hj)];simp
def RetF (S:Int × Int) (w:World) (en:Ending) (w':World):Prop:=en=.returned (.agg #[.int .i64 S.1,.int .i64 S.2])∧Below w.heap.size w w'
theorem nats_at {l:List Nat} {k:Nat} (h:k < l.length):(nats l)[k]? =some (.int .i64 (l.getD k 0:Nat)):=by
 unfold nats;rw [List.getElem?_map,List.getElem?_eq_getElem h,List.getD_eq_getElem?_getD,List.getElem?_eq_getElem h];rfl
theorem rgrounded_any (q:Value) (l:List El) (w:World) (hq:RN w q l) (hl:l.length≤100000) (hok:∀x∈l,zBc x=0):
 Calls Tryz.prog 131 #[q] w (RetF (grdS (zAw q) l) w):=by
 obtain ⟨i0,hi,hz0,hz1,hz2⟩:=info_parts zHf;have hbw:=(Below.refl w.heap.size w).alloc (Nat.le_refl _) (.cells #[.int .i64 0,.int .i64 0] 32);have HQ:=hid (hq.below hbw (Nat.le_refl _));have HBW:=hid hbw;have HZ:=hid (heap_alloc_new w (.cells #[.int .i64 0,.int .i64 0] 32));cases hn:zAw q
 · have HN:=hid hn;have HLE:=hid hl;have HOK:=hid hok;have hnl:=zEc l;have HNL:=hid (show (gnds l).length≤400001 by rw [zBz];omega);clear hq hbw hn hnl hok;go_enter Tryz.func131,Tryz.ntmps131;go_upto_region 1 with fail;generalize w.alloc (.cells #[.int .i64 0,.int .i64 0] 32)=w0 at *;go_upto_region 4 with (first | (go_at_call 162;refine (rgnone_any q l _ HQ.out).mono ?_;rintro e wn ⟨rfl,rfl⟩;rw [HN.out]) | (go_at_call 163;refine (rwhole_any q l _ HQ.out HLE.out HOK.out).mono ?_;rintro e w1 ⟨g,vN,vP,rfl,hh,hb⟩;have HH:=hid hh;have HB:=hid (zAd HBW.out hb);have HZ1:=hid (zAm hb HZ.out);have HGZ:=hid (show w.heap.size < g from Nat.lt_of_lt_of_le (Array.getElem?_eq_some_iff.1 HZ.out).1 hh.gB);clear hh hb HQ HBW HZ));have hp0:(ptK l l.length).length=(gnds l).length:=ptK_len l l.length;obtain ⟨aN,cN,rfl⟩:=(IsSl.of_own HH.out.on).form;obtain ⟨aP,cP,hvP⟩:=(IsSl.of_own HH.out.op).form;rw [hp0] at hvP;subst hvP;obtain ⟨N1,hN1⟩:∃N1,(gnds l).length=N1:=⟨_,rfl⟩;have hop:=IsSl.of_own HH.out.op;rw [hp0,hN1] at hop;have hbk:w1.heap[g]? =some (.cells #[.slice aN N1 cN,.slice aP N1 cP] 215 (0,0)):=by have h:=HH.out.blk;rw [hN1] at h;exact h
   have HOP:=hid hop;have HBK:=hid hbk;have HP0:=hid (hp0.trans hN1);have HN1:=hid (show N1=(nds l).length+1 by rw [←hN1,zBz]);have hn1:N1≤400001:=by rw [←hN1];exact HNL.out
   clear hop hbk hp0 HH HNL;clear hN1;go_wp2
   go_loopw [4] (fun i wr=> ∃k n:Nat,k+1≤N1∧i=.int .i64 ((k+1:Nat):Int)∧wr=w1.drewN n∧∀j,j < k→((ptK l l.length).getD (j+1) 0 !=(ptK l l.length).getD 0 0)=false) (fun i _=> N1 - (intOf i).toNat)
   case atStart=> exact ⟨0,0,by have:=HN1.out;omega,rfl,rfl,fun j hj=> absurd hj (Nat.not_lt_zero _)⟩
   case round=>
    obtain ⟨k,n,hk,rfl,hw,hno⟩:=hrel;have HW:=hid hw;have HNO:=hid hno;have hbk:wr.heap[g]? =some (.cells #[.slice aN N1 cN,.slice aP N1 cP] 215 (0,0)):=by rw [hw];exact HBK.out
    have hsl:IsSl wr 1 (.slice aP N1 cP) N1 (nats (ptK l l.length)):=by rw [hw];exact HOP.out
    have n0:=(zAa hbk).1 0 _ rfl;have n1:=(zAa hbk).1 1 _ rfl;have hz:=(show wr.heap[w.heap.size]? =some (.cells #[.int .i64 0,.int .i64 0] 32 (0,0)) by rw [hw];exact HZ1.out);have hbr:Below w.heap.size w wr:=by rw [hw];exact zAg HB.out n
    have HBR:=hid hbr;clear hw hno hbk hbr
    by_cases hlt:k+1 < N1
    · obtain ⟨g1,o1,y1,hidx1,hg1,hc1,hy1⟩:=IsSl.at1 Tryz.underlying153 hi hz1 hsl hlt;obtain ⟨g2,o2,y2,hidx2,hg2,hc2,hy2⟩:=IsSl.at1 Tryz.underlying153 hi hz1 hsl (show 0 < N1 by omega);rw [nats_at (by rw [HP0.out];exact hlt)] at hy1;rw [nats_at (by rw [HP0.out];omega)] at hy2;obtain rfl:=Option.some.inj hy1;obtain rfl:=Option.some.inj hy2;clear hy1 hy2 hg1 hg2 hsl;obtain ⟨pa,hpa⟩:∃pa,(ptK l l.length).getD (k+1) 0=pa:=⟨_,rfl⟩;obtain ⟨pb,hpb⟩:∃pb,(ptK l l.length).getD 0 0=pb:=⟨_,rfl⟩;have HPA:=hid hpa;have HPB:=hid hpb;rw [hpa] at hc1;rw [hpb] at hc2;clear hpa hpb;have hidx3:∀w',(Instr.indexAt 153 (.slice aP N1 cP) (.int .i64 ((k:Int)+1))).run Tryz.prog w'=.ok (.pointer (some ⟨g1,o1,none⟩)) w':=fun w'=> by have h:=hidx1 w';rw [show (((k+1:Nat)):Int)=(k:Int)+1 by omega] at h;exact h
      have hidx0:∀w',(Instr.indexAt 153 (.slice aP N1 cP) (.int .i64 0)).run Tryz.prog w'=.ok (.pointer (some ⟨g2,o2,none⟩)) w':=hidx2;have hk1:IntKind.i64.wrap ((k:Int)+1 - 1)=(k:Int):=by rw [IntWalk.i64_in _ ⟨by omega,by omega⟩];omega
      by_cases he:pa=pb
      · have HE:=hid he;have hne:((pa:Int) !=(pb:Int))=false:=by rw [he];simp
        clear he;go_wp2_with fail
        go_quiet ((fail))
        go_wp2;go_roundw
        case rel=> exact ⟨k+1,nq+n,by omega,by go_num,by rw [HW.out];simp [World.drewN_drewN,Nat.add_comm],fun j hj=> by
         by_cases e:j=k
         · subst e;rw [HPA.out,HPB.out,HE.out];simp
         · exact HNO.out j (by omega)⟩
        case measure=> simp [intOf];omega
      · have HE:=hid he;have hne:((pa:Int) !=(pb:Int))=true:=by rw [bne_iff_ne];omega
        clear he;go_wp2_with fail
        go_quiet ((fail))
        have HBQ:=hid (zAg HBR.out nq);have z0:=(zAa (show (wr.drewN nq).heap[w.heap.size]? =_ from hz)).1 0 _ rfl;have z1:=(zAa (show (wr.drewN nq).heap[w.heap.size]? =_ from hz)).1 1 _ rfl;have f0:=(zAa (show (wr.drewN nq).heap[w.heap.size]? =_ from hz)).2 0;have f1:=(zAa (show (wr.drewN nq).heap[w.heap.size]? =_ from hz)).2 1;have HS:=hid (show grdS false l=(11,(k:Int)) by
         unfold grdS;rw [if_neg (by simp),grd_same];unfold grdP;rw [find_yes (k:=k) (by have:=HN1.out;omega) HNO.out (by rw [HPA.out,HPB.out,bne_iff_ne];exact HE.out)])
        clear hz;generalize wr.drewN nq=wq at *;go_wp2_with fail
        (try simp only [Exit.inBlock,Exit.then])
        refine bodyPost_ret (v:=.agg #[.int .i64 11,.int .i64 k]) ?_ rfl ⟨by rw [HS.out],?_⟩
        · rw [zCo rfl];go_simp
        · repeat (first | with_reducible exact HBQ.out | with_reducible refine Below.setCell ?_ (by dsimp only;omega) _)
    · obtain rfl:k+1=N1:=by omega
      have HS:=hid (show grdS false l=(0,0) by
       unfold grdS;rw [if_neg (by simp),grd_same];unfold grdP;rw [find_not (fun j hj=> HNO.out j (by have:=HN1.out;omega))])
      have z0:=(zAa hz).1 0 _ rfl;have z1:=(zAa hz).1 1 _ rfl;have f0:=(zAa hz).2 0;have f1:=(zAa hz).2 1;clear hz;go_wp2;refine bodyPost_ret (v:=.agg #[.int .i64 0,.int .i64 0]) ?_ rfl ⟨by rw [HS.out],?_⟩
      · rw [zCo rfl];go_simp
      · repeat (first | with_reducible exact HBR.out | with_reducible refine Below.setCell ?_ (by dsimp only;omega) _)
 · have HN:=hid hn;clear hq hbw hn;go_enter Tryz.func131,Tryz.ntmps131;go_upto_region 1 with fail;generalize hw0:w.alloc (.cells #[.int .i64 0,.int .i64 0] 32)=w0 at *;generalize hg0:w.heap.size=gz at *;have z0:=(zAa HZ.out).1 0 _ rfl;have z1:=(zAa HZ.out).1 1 _ rfl;have f0:=(zAa HZ.out).2 0;have f1:=(zAa HZ.out).2 1;go_wp2_with (go_at_call 162;refine (rgnone_any q l _ HQ.out).mono ?_;rintro e wn ⟨rfl,rfl⟩;rw [HN.out]);refine bodyPost_ret (v:=.agg #[.int .i64 1,.int .i64 (-1)]) ?_ rfl ⟨by unfold grdS;rw [if_pos rfl],?_⟩
   · rw [zCo rfl];go_simp
   · subst hg0
     repeat (first | with_reducible exact HBW.out | with_reducible refine Below.setCell ?_ (by dsimp only;omega) _)
end
end Go.Proofs.YtejooaeppcjhjaaGreat
