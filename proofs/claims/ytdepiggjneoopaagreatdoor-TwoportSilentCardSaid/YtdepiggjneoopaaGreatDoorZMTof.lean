/- a part of the proof of the last text -/
import Derived.Test.YtdepiggjneoopaaGreatDoorZMSc0
namespace Go.Proofs.YtdepiggjneoopaaGreatDoor
set_option linter.all false
set_option maxHeartbeats 4000000
set_option maxRecDepth 100000
section
open Go.RowKit
def RetSca (R:World→Value→List El→Prop) (f:Nat→Nat) (l:List El) (w:World) (e:Ending) (w':World):Prop:=
 (srcsS f l=true∧∃g:Nat,e=.returned (.tuple #[.pointer (some ⟨g,0,none⟩),.int .i64 0])∧R w' (.pointer (some ⟨g,0,none⟩)) (l.map (chg f))∧Below w.heap.size w w')∨
 (srcsS f l=false∧e=.returned (.tuple #[.pointer none,.int .i64 6])∧Below w.heap.size w w')
theorem RetSca.form {R:World→Value→List El→Prop} {f:Nat→Nat} {l:List El} {w w':World} {e:Ending} (h:RetSca R f l w e w'):∃q k,e=.returned (.tuple #[q,.int .i64 k])∧Below w.heap.size w w':=by
 rcases h with ⟨_,g,rfl,_,hb⟩ | ⟨_,rfl,hb⟩
 · exact ⟨_,_,rfl,hb⟩
 · exact ⟨_,_,rfl,hb⟩
theorem RetSca.base {R:World→Value→List El→Prop} {f:Nat→Nat} {l:List El} {w w1 w':World} {e:Ending} (h:RetSca R f l w1 e w') (hb:Below w.heap.size w w1):RetSca R f l w e w':=by
 rcases h with ⟨h1,g,h2,h3,h4⟩ | ⟨h1,h2,h4⟩
 · exact .inl ⟨h1,g,h2,h3,zAd hb h4⟩
 · exact .inr ⟨h1,h2,zAd hb h4⟩
theorem fin_eq {r:Nat} (h:ffin r=true):r=fc r:=by
 cases hn:fnan r
 · exact (zBv hn).symm
 · exfalso
   unfold ffin fsub at h;rw [show fop .sub r r=qnan by unfold fop;rw [zEa hn];rfl] at h;exact absurd h (by decide+kernel)
def RetScl (R:World→Value→List El→Prop) (by_:Nat) (l:List El) (w:World) (e:Ending) (w':World):Prop:=
 (ffin (fc by_)=false∧e=.returned (.tuple #[.pointer none,.int .i64 5])∧Below w.heap.size w w')∨(ffin (fc by_)=true∧RetSca R (fun v=> fmul v (fc by_)) l w e w')
theorem RetScl.no {R:World→Value→List El→Prop} {by_:Nat} {l:List El} {w w':World} (h:ffin (fc by_)=false) (hb:Below w.heap.size w w'):RetScl R by_ l w (.returned (.tuple #[.pointer none,.int .i64 5])) w':=.inl ⟨h,rfl,hb⟩
theorem RetScl.yes {R:World→Value→List El→Prop} {by_:Nat} {l:List El} {w w':World} {e:Ending} (h:ffin (fc by_)=true) (hr:RetSca R (fun v=> fmul v (fc by_)) l w e w'):RetScl R by_ l w e w':=.inr ⟨h,hr⟩
theorem fsub_neq {r:Nat} {w:World} {b:Bool} (h:ffin r=b):(FloatKind.f64.format.order (fval .sub r r w) 0 !=some .eq)=!b:=zCa (x:=r) (fc_fval .sub r r w) (by rw [ffin_fc];exact h)
theorem quiet1_any (v:Nat) (w:World):Calls Tryz.prog 63 #[.float .f64 v] w fun e w'=> ∃r n,e=.returned (.float .f64 r)∧w'=w.drewN n∧fc r=(fun _=> 0) (fc v):=by
 go_enter Tryz.func63,Tryz.ntmps63;go_wp2
 (try rw [Exit.noGoto_ret])
 go_ret;exact ⟨0,0,rfl,rfl,fc_zero⟩
theorem sourcesQ_any (p:Value) (l:List El) (w:World) (hp:NN w p l) (eB:(ofL l).1=true) (aY:∀x∈l,x.Ok):
 Calls Tryz.prog 62 #[p,.func (.func 63) #[] #[]] w (RetSca NN (fun _=> 0) l w):=by
 obtain ⟨ie,dJ,he0,tM,he2⟩:=info_parts zEo;have HP:=hid hp;have HNG:=hid (netg_of eB aY);have fN:=hid eB;have cH:=hid aY;have nU:=hid (show l.length≤256 from (netg_of eB aY).len);clear hp eB aY;go_enter Tryz.func62,Tryz.ntmps62;go_upto_region 2 with (go_at_call 9;refine (zDb p l _ HP.out (by have:=nU.out;omega)).mono ?_;rintro e w1 ⟨v,ws,rfl,aC,rfl,hb⟩;have mM:=hid aC;have HB:=hid hb;obtain ⟨ao,co,rfl⟩:=(IsSl.of_own aC).form;clear aC hb);clear HP;go_wp2
 go_loopw [14] (fun i wr=> ∃k:Nat,k≤l.length∧i=.int .i64 k∧wr.ownsRow w.heap.size 35 8 (.slice ao l.length co) l.length ((mixS (fun _=> 0) l k).flatMap ea)∧srcsS (fun _=> 0) (l.take k)=true∧Below w.heap.size w wr) (fun i _=> l.length - (intOf i).toNat)
 case atStart=> exact ⟨0,Nat.zero_le _,rfl,by rw [mixS_zero];exact mM.out,rfl,HB.out⟩
 case round=>
  obtain ⟨k,hk,rfl,aC,uH,hb⟩:=hrel;obtain ⟨wo,rfl⟩:∃wo:World,wo=wr:=⟨_,rfl⟩;have HO:=hid aC;have bC:=hid hb;have HSR:=hid uH;have hg0:=nU.out;clear aC hb uH
  by_cases aM:k < l.length
  · obtain ⟨x,hx⟩:∃x,l[k]? =some x:=⟨_,List.getElem?_eq_getElem aM⟩;have oK:=hid hx;obtain ⟨ga,rfl⟩:∃ga,ao=some ⟨ga,0,none⟩:=by
     rcases HO.out.2 with ⟨h1,h2⟩ | ⟨g,cap,cur,h1,_⟩
     · omega
     · cases h1;exact ⟨g,rfl⟩
    obtain ⟨aZ,aA,uQ⟩:=own_atF Tryz.underlying31 dJ tM HO.out (mixS_len _ _ _) (mixS_at (f:=(fun _=> 0)) hx);have c0:=aA 0 _ rfl;have c6:=aA 6 _ rfl;rw [Nat.add_zero] at c0;clear aA hx;rcases srcv_ways x.kind with ⟨q0,q1,_⟩ | ⟨q0,q1,_,q2,_⟩ | ⟨q1,q1',q2,q2'⟩
    rotate_left 2
    · have hs:zDd x=false:=by unfold zDd;rw [q1',q2'];rfl
      have HS:=hid hs;clear hs q1' q2';go_wp2_with fail;go_roundw
      case rel=> exact ⟨k+1,by omega,by go_num,by rw [mixS_same oK.out HS.out];exact HO.out,srcs_take oK.out HSR.out (.inl HS.out),bC.out⟩
      case measure=> simp [intOf];omega
    all_goals
     have HS:=hid (show zDd x=true by unfold zDd;rw [q0];rfl);clear q0;have f6:=uQ (k * 8+6);go_upto_region 7 with (first | (go_at_call 63;refine (quiet1_any x.val _).mono ?_;rintro e wq ⟨r,n,rfl,qO,hr⟩;have HR:=hid hr;have HOA:=hid (show wq.ownsRow w.heap.size 35 8 (.slice (some ⟨ga,0,none⟩) l.length co) l.length ((mixS (fun _=> 0) l k).flatMap ea) by rw [qO];exact HO.out);have kC:=hid (show Below w.heap.size w wq by rw [qO];exact zAg bC.out n);replace f6:wq.frozen? ⟨ga,k * 8+6,none⟩=false:=(by rw [qO];exact f6);replace c6:wq.cell? ⟨ga,k * 8+6,none⟩=some (.float .f64 x.val):=(by rw [qO];exact c6);clear qO hr) | (go_simp;refine (quiet1_any x.val _).mono ?_;rintro e wq ⟨r,n,rfl,qO,hr⟩;have HR:=hid hr;have HOA:=hid (show wq.ownsRow w.heap.size 35 8 (.slice (some ⟨ga,0,none⟩) l.length co) l.length ((mixS (fun _=> 0) l k).flatMap ea) by rw [qO];exact HO.out);have kC:=hid (show Below w.heap.size w wq by rw [qO];exact zAg bC.out n);replace f6:wq.frozen? ⟨ga,k * 8+6,none⟩=false:=(by rw [qO];exact f6);replace c6:wq.cell? ⟨ga,k * 8+6,none⟩=some (.float .f64 x.val):=(by rw [qO];exact c6);clear qO hr));clear c0 c6 f6 q1 aZ uQ
     (try clear q2)
     have pP:=hid (HO.out.lt _ rfl);have HOQ:Hid ((wq.setCell ⟨ga,k * 8+6,none⟩ (.float .f64 r)).ownsRow w.heap.size 35 8 (.slice (some ⟨ga,0,none⟩) l.length co) l.length (((mixS (fun _=> 0) l k).set k (setV x r)).flatMap ea)):=hid (by
      rw [flat_setV (mixS_at oK.out) r];exact own_put8 HOA.out rfl (by omega))
     have kB:=hid (kC.out.setCell (p:=⟨ga,k * 8+6,none⟩) pP.out.1 (.float .f64 r));have kR:=hid (show ((mixS (fun _=> 0) l k).set k (setV x r))[k]? =some (setV x r) by rw [List.getElem?_set_self (by rw [mixS_len];exact aM)]);clear HOA kC;generalize (wq.setCell ⟨ga,k * 8+6,none⟩ (.float .f64 r))=w5 at *;refine wp_region_any (by kernel_rfl) ?_;change wpAny _ _ _ _ _ _ _ (World.drew _);refine zAx [⟨some 42,0, []⟩,⟨some 43,1, []⟩,⟨some 44,2, []⟩,⟨some 45,3, []⟩,⟨some 46,4, []⟩,⟨some 47,5, []⟩,⟨some 48,6, []⟩,⟨some 49,7, []⟩,⟨some 50,8, []⟩,⟨some 51,9, []⟩]
      (fun w'=> w'.ownsRow w.heap.size 35 8 (.slice (some ⟨ga,0,none⟩) l.length co) l.length (((mixS (fun _=> 0) l k).set k (setV x r)).flatMap ea))
      (fun oq v _ _ _ _=> match oq with | 0=> v=.slice (some ⟨ga,0,none⟩) l.length co | 1=> v=.int .i64 k | 2=> v=.pointer (some ⟨ga,k * 8,none⟩) | 3=> v=.pointer (some ⟨ga,k * 8+6,none⟩) | 4=> v=.float .f64 r | 5=> v=.slice (some ⟨ga,0,none⟩) l.length co | 6=> v=.int .i64 k | 7=> v=.pointer (some ⟨ga,k * 8,none⟩) | 8=> v=.pointer (some ⟨ga,k * 8+6,none⟩) | 9=> v=.float .f64 r | _=> True) (by kernel_rfl) ?hSl (fun _ _ hb h=> zBf h (zAe hb none)) (fun _ _ _ _ _ _ _ _ _ h=> h) ?hopl ?hendl
     case hSl=> exact zBf HOQ.out (zAe (Below.refl _ _).drew none)
     case hopl=>
      delta Owed
      simp only [zBb,Act.put,List.setIfInBounds_toArray,lz,ls];refine Each.cons rfl ?_ (Each.cons rfl ?_ (Each.cons rfl ?_ (Each.cons rfl ?_ (Each.cons rfl ?_ (Each.cons rfl ?_ (Each.cons rfl ?_ (Each.cons rfl ?_ (Each.cons rfl ?_ (Each.cons rfl ?_ Each.nil)))))))))
      all_goals intro vs w2 aV hS2 hR2 K hK;try simp only [lz,ls] at hK⊢
      · go_simp;exact shP hK
      · go_simp;exact shP hK
      · have h0:vs 0=_:=exR (hR2 0 (by kernel_rfl)) (fun _ _ h=> h);have h1:vs 1=_:=exR (hR2 1 (by kernel_rfl)) (fun _ _ h=> h);obtain ⟨k0,dK,_⟩:=own_atF Tryz.underlying31 dJ tM hS2 (by rw [List.length_set,mixS_len]) kR.out;have k6:=dK 6 _ rfl;simp only [h0,h1] at hK⊢;go_simp;exact shP hK
      · have h2:vs 2=_:=exR (hR2 2 (by kernel_rfl)) (fun _ _ h=> h);simp only [h2] at hK⊢;go_simp;exact shP hK
      · have h3:vs 3=_:=exR (hR2 3 (by kernel_rfl)) (fun _ _ h=> h);obtain ⟨k0,dK,_⟩:=own_atF Tryz.underlying31 dJ tM hS2 (by rw [List.length_set,mixS_len]) kR.out;have k6:=dK 6 _ rfl;simp only [h3] at hK⊢;go_simp;exact shP hK
      · go_simp;exact shP hK
      · go_simp;exact shP hK
      · have h5:vs 5=_:=exR (hR2 5 (by kernel_rfl)) (fun _ _ h=> h);have h6:vs 6=_:=exR (hR2 6 (by kernel_rfl)) (fun _ _ h=> h);obtain ⟨k0,dK,_⟩:=own_atF Tryz.underlying31 dJ tM hS2 (by rw [List.length_set,mixS_len]) kR.out;have k6:=dK 6 _ rfl;simp only [h5,h6] at hK⊢;go_simp;exact shP hK
      · have h7:vs 7=_:=exR (hR2 7 (by kernel_rfl)) (fun _ _ h=> h);simp only [h7] at hK⊢;go_simp;exact shP hK
      · have h8:vs 8=_:=exR (hR2 8 (by kernel_rfl)) (fun _ _ h=> h);obtain ⟨k0,dK,_⟩:=own_atF Tryz.underlying31 dJ tM hS2 (by rw [List.length_set,mixS_len]) kR.out;have k6:=dK 6 _ rfl;simp only [h8] at hK⊢;go_simp;exact shP hK
     case hendl=>
      intro vs wx lo iB bK hSx hRx dN;have h0:vs 0=_:=(hRx 0 (by kernel_rfl)).1;have h1:vs 1=_:=(hRx 1 (by kernel_rfl)).1;have h2:vs 2=_:=(hRx 2 (by kernel_rfl)).1;have h3:vs 3=_:=(hRx 3 (by kernel_rfl)).1;have h4:vs 4=_:=(hRx 4 (by kernel_rfl)).1;have h5:vs 5=_:=(hRx 5 (by kernel_rfl)).1;have h6:vs 6=_:=(hRx 6 (by kernel_rfl)).1;have h7:vs 7=_:=(hRx 7 (by kernel_rfl)).1;have h8:vs 8=_:=(hRx 8 (by kernel_rfl)).1;have h9:vs 9=_:=(hRx 9 (by kernel_rfl)).1;simp only [zBb,Act.put,List.setIfInBounds_toArray,lz,ls,h0,h1,h2,h3,h4,h5,h6,h7,h8,h9];have hb:=zAt bK;have HOX:=hid hSx;have bS:=hid (kB.out.trans (hb.mono kB.out.size));clear bK hSx hRx dN hb HOQ kB;have hfs:=@run_fsub Tryz.prog;refine zAr (i:=10) (by kernel_rfl) rfl (fun K hK=> ?_);go_simp;refine hK.out _ _ ?_;clear hK hfs;obtain ⟨rr,tB⟩:∃rr,fval .sub r r wx=rr:=⟨_,rfl⟩;cases dV:ffin r
      · have hq:=fsub_neq (w:=wx) dV;rw [tB] at hq⊢;simp only [Bool.not_false] at hq;clear tB;have gF:=hid (srcs_no oK.out HS.out (f:=(fun _=> 0)) (by rw [←HR.out,ffin_fc];exact dV));clear dV;refine zAr (i:=11) (by kernel_rfl) rfl (fun K hK=> ?_);go_simp;refine hK.out _ _ ?_;clear hK;refine wpAny_done (by kernel_rfl) ?_ _;go_wp2
        (try simp only [Exit.inBlock,Exit.then])
        (try rw [Exit.noGoto_ret])
        refine bodyPost_ret (v:=.tuple #[.pointer none,.int .i64 6]) ?_ rfl (.inr ⟨gF.out,rfl,zAg bS.out _⟩);rw [results_tmp2 rfl];rfl
      · have hq:=fsub_neq (w:=wx) dV;rw [tB] at hq⊢;simp only [Bool.not_true] at hq;clear tB;have vQ:=hid dV;clear dV;refine zAr (i:=11) (by kernel_rfl) rfl (fun K hK=> ?_);go_simp;refine hK.out _ _ ?_;clear hK;refine wpAny_done (by kernel_rfl) ?_ _;go_wp2;go_roundw
        case rel=>
         have hr:r=(fun _=> 0) (fc x.val):=(fin_eq vQ.out).trans HR.out;exact ⟨k+1,by omega,by go_num,by rw [mixS_next oK.out];have h:=HOX.out;rw [show setV x r=chg (fun _=> 0) x by unfold chg;rw [if_pos HS.out,hr]] at h;exact h,srcs_take oK.out HSR.out (.inr (by have h:=vQ.out;rw [hr] at h;exact h)),zAg bS.out _⟩
        case measure=> simp [intOf];omega
  · obtain rfl:k=l.length:=by omega
    have h:=HSR.out;rw [List.take_length] at h;have HSA:=hid h;have ho:=HO.out;rw [mixS_all] at ho;have lD:=hid (show IsSl wo 8 (.slice ao l.length co) (l.map (chg (fun _=> 0))).length ((l.map (chg (fun _=> 0))).flatMap ea) by rw [List.length_map];exact IsSl.of_own ho);have HOB2:=hid (ofL_chg fN.out h);have HOK2:=hid (show∀x∈l.map (chg (fun _=> 0)),x.Ok from fun x hx=> by obtain ⟨y,hy,rfl⟩:=List.mem_map.1 hx;exact chg_ok (cH.out y hy) (by first | exact fop_lt _ _ _ | decide));have xS:=hid (show (l.map (chg (fun _=> 0))).length=l.length by simp);clear h ho;go_upto_region 11 with (go_at_call 10;refine (nof_any _ (l.map (chg (fun _=> 0))) _ (by have h:=lD.out;rw [xS.out] at h⊢;exact h) HOK2.out (by rw [xS.out];have:=nU.out;omega)).mono ?_;intro e w2 hr;obtain ⟨gn,rfl,fU,hb⟩:=retof_good hr HOB2.out;have HN:=hid fU;have aG:=hid (zAd bC.out hb);clear hr fU hb);have fP:=(Below.refl w2.heap.size w2).alloc (Nat.le_refl _) (.cells #[.int .i64 0,.int .i64 0] 38);have HF:=hid (heap_alloc_new w2 (.cells #[.int .i64 0,.int .i64 0] 38));have pK:=hid (HN.out.below' fP);have aT:=hid (zAd aG.out fP);clear fP HN aG;generalize w2.alloc (.cells #[.int .i64 0,.int .i64 0] 38)=w3 at *;obtain ⟨gf,gZ⟩:∃gf,w2.heap.size=gf:=⟨_,rfl⟩;rw [gZ] at HF⊢;clear gZ;refine wp_region_any (by kernel_rfl) ?_;change wpAny _ _ _ _ _ _ _ (World.drew _);refine zAx [⟨some 60,0, []⟩,⟨some 61,1, []⟩,⟨some 62,2, []⟩,⟨some 4,3, []⟩]
     (fun w'=> w'.heap[gf]? =some (.cells #[.int .i64 0,.int .i64 0] 38 (0,0)))
     (fun oq v _ _ _ _=> match oq with | 0=> v=.pointer (some ⟨gn,0,none⟩) | 1=> v=.pointer (some ⟨gf,0,none⟩) | 2=> v=.int .i64 0 | 3=> v=.pointer (some ⟨gn,0,none⟩) | _=> True) (by kernel_rfl) ?hSf (fun _ _ hb h=> zAi hb h) (fun _ _ _ _ _ _ _ _ _ h=> h) ?yU ?rD
    case hSf=> exact zAi (Below.refl _ _).drew HF.out
    case yU=>
     delta Owed
     simp only [zBb,Act.put,List.setIfInBounds_toArray,lz,ls];refine Each.cons rfl ?_ (Each.cons rfl ?_ (Each.cons rfl ?_ (Each.cons rfl ?_ Each.nil)))
     all_goals intro vs w2 aV hS2 hR2 K hK;try simp only [lz,ls] at hK⊢
     · go_simp;exact shP hK
     · go_simp;exact shP hK
     · have h1:vs 1=_:=exR (hR2 1 (by kernel_rfl)) (fun _ _ h=> h);have k0:=(zAb hS2).1 0 _ rfl;simp only [h1] at hK⊢;go_simp;exact shP hK
     · have h0:vs 0=_:=exR (hR2 0 (by kernel_rfl)) (fun _ _ h=> h);simp only [h0] at hK⊢;go_simp;exact shP hK
    case rD=>
     intro vs wx lo iB bK hSx hRx dN;have h0:vs 0=_:=(hRx 0 (by kernel_rfl)).1;have h1:vs 1=_:=(hRx 1 (by kernel_rfl)).1;have h2:vs 2=_:=(hRx 2 (by kernel_rfl)).1;have h3:vs 3=_:=(hRx 3 (by kernel_rfl)).1;simp only [zBb,Act.put,List.setIfInBounds_toArray,lz,ls,h0,h1,h2,h3];have hb:=zAt bK;have vH:=hid (pK.out.below' hb);have bI:=hid (zAd aT.out hb);clear bK hSx hRx dN hb;refine zAr (i:=4) (by kernel_rfl) rfl (fun K hK=> ?_);go_simp;refine hK.out _ _ ?_;clear hK;refine wpAny_done (by kernel_rfl) ?_ _
     (try go_wp2)
     (try simp only [Exit.inBlock,Exit.then])
     (try rw [Exit.noGoto_ret])
     refine bodyPost_ret (v:=.tuple #[.pointer (some ⟨gn,0,none⟩),.int .i64 0]) ?_ rfl (.inl ⟨HSA.out,gn,rfl,vH.out,bI.out⟩);rw [results_tmp2 rfl];rfl
theorem srcs_zero (l:List El):srcsS (fun _=> 0) l=true:=by
 unfold srcsS;rw [List.all_eq_true];intro x _;rw [show ffin 0=true by decide+kernel]
 simp
theorem quiet_any (p:Value) (l:List El) (w:World) (hp:NN w p l) (hn:zBp p=false) (eB:(ofL l).1=true) (aY:∀x∈l,x.Ok):
 Calls Tryz.prog 36 #[p] w fun e w'=> ∃g:Nat,e=.returned (.pointer (some ⟨g,0,none⟩))∧NN w' (.pointer (some ⟨g,0,none⟩)) (l.map (chg fun _=> 0))∧Below w.heap.size w w':=by
 have HP:=hid hp;have HN:=hid hn;have fN:=hid eB;have cH:=hid aY;have HNG:=hid (netg_of eB aY);clear hp hn eB aY;go_enter Tryz.func36,Tryz.ntmps36;go_wp2_with (first | (go_at_call 61;refine (zCh _ l _ HP.out HNG.out.nm).mono ?_;rintro e w' ⟨rfl,rfl⟩;rw [HN.out]) | (go_at_call 62;refine (sourcesQ_any p l _ HP.out fN.out cH.out).mono ?_;rintro e w2 (⟨_,g,rfl,hg,hb⟩ | ⟨h,_⟩);rotate_left;exact absurd (h.symm.trans (srcs_zero l)) (by decide);have HG:=hid hg;have HB:=hid hb;clear hg hb))
 (try simp only [Exit.inBlock,Exit.then])
 (try rw [Exit.noGoto_ret])
 go_ret;exact ⟨g,rfl,HG.out,HB.out⟩
end
section
open Go.RowKit
def atS (ns:List ByteArray) (xs:List Cx) (t:ByteArray):Cx:=if has ns t=true then xs.getD (plI ns t).toNat (0,0) else (0,0)
theorem at_place20 (p v:Value) (l:List El) (xs:List Cx) (t:ByteArray) (w:World) (hp:NN w p l) (hv:IsSl w 1 v xs.length (xs.map mkC)) (hk:xs.length=(nds l).length) (ht:t.size≤maxLen):
 Calls Tryz.prog 73 #[.func (.func 74) #[p] #[],v,.string t] w fun e w'=> e=.returned (.tuple #[mkC (atS (nds l) xs t),.bool (has (nds l) t)])∧Below w.heap.size w w':=by
 cases hh:has (nds l) t
 · refine (at_any _ _ _ 0 false xs _ _ hv (fun h=> by cases h) enter_Place ((zCy p l t _ hp ht).mono (by rintro e w' ⟨rfl,rfl⟩;exact ⟨by rw [hh,plI_no hh];rfl,rfl⟩))).mono ?_;rintro e w' ⟨rfl,hb⟩;exact ⟨by unfold atS;rw [if_neg (by simp),if_neg (by rw [hh];simp)],hb⟩
 · obtain ⟨j,hj,pZ⟩:=pl_in2 hh;refine (at_any _ _ _ j true xs _ _ hv (fun _=> by omega) enter_Place ((zCy p l t _ hp ht).mono (by rintro e w' ⟨rfl,rfl⟩;exact ⟨by rw [hh,hj],rfl⟩))).mono ?_;rintro e w' ⟨rfl,hb⟩;exact ⟨by unfold atS;rw [if_pos rfl,if_pos hh,hj];simp,hb⟩
theorem vlt_at {l:List El} {xs:List Cx} {na:Nat} {t:ByteArray} (h:zFb false xs.length na (nds l).length (brs l).length=0):(vltS false l xs na t).1=atS (nds l) xs t:=by
 unfold vltS atS;rw [h,if_neg (fun h=> h rfl)]
 by_cases h2:has (nds l) t=true
 · rw [if_pos h2,if_pos h2]
 · rw [if_neg h2,if_neg h2];split <;> rfl
theorem findE_ok {l:List El} {t:ByteArray} {x:El} (h:zBs l t=some x):x∈l:=List.mem_of_find?_eq_some h
theorem across_any (p v va:Value) (l:List El) (om:Nat) (xs ys:List Cx) (t:ByteArray) (w:World) (hp:NN w p l) (hg:NetG l) (hv:IsSl w 1 v xs.length (xs.map mkC)) (ha:IsSl w 1 va ys.length (ys.map mkC)) (ht:t.size≤maxLen):
 Calls Tryz.prog 40 #[p,.agg #[.float .f64 om,v,va],.string t] w (RetCE (acrS (zBp p) l xs ys.length t) w):=by
 obtain ⟨av,cv,rfl⟩:=hv.form;obtain ⟨aa,ca,rfl⟩:=ha.form;have aI:=(Below.refl w.heap.size w).alloc (Nat.le_refl _) (.cells #[.float .f64 om,.slice av xs.length cv,.slice aa ys.length ca] 87);have eP:=hid aI;have HS:=hid (heap_alloc_new w (.cells #[.float .f64 om,.slice av xs.length cv,.slice aa ys.length ca] 87));have HP:=hid (hp.below aI (Nat.le_refl _));have HV:=hid (hv.below aI (Nat.le_refl _));have HA:=hid (ha.below aI (Nat.le_refl _));have HG:=hid hg;have HTL:=hid ht;clear hp hg hv ha aI ht;obtain ⟨fe,hfe⟩:∃fe,zFb (zBp p) xs.length ys.length (nds l).length (brs l).length=fe:=⟨_,rfl⟩;have HFE:=hid hfe;clear hfe;go_enter Tryz.func40,Tryz.ntmps40;go_upto_region 1 with fail;generalize w.alloc (.cells #[.float .f64 om,.slice av xs.length cv,.slice aa ys.length ca] 87)=w1 at *;obtain ⟨gs,eH⟩:∃gs,w.heap.size=gs:=⟨_,rfl⟩;rw [eH] at HS⊢;clear eH;have aB:=zAc HS.out;have s0:=aB.1 0 _ rfl;have s1:=aB.1 1 _ rfl;have s2:=aB.1 2 _ rfl;clear aB;go_upto_region 2 with (go_at_call 72;refine (fits_any2 p l om _ _ _ _ _ _ _ HP.out HG.out).mono ?_;rintro e w2 ⟨rfl,hb⟩;have gC:=hid (zAa hb HS.out);have gE:=hid (HP.out.below' hb);have iN:=hid (HV.out.below hb (Nat.le_refl _));have qI:=hid (HA.out.below hb (Nat.le_refl _));have aL:=hid (zAd eP.out hb);rw [HFE.out];clear hb);clear HS HP HV HA eP;clear s0 s1 s2
 by_cases h0:fe=0
 rotate_left
 · have kP:(fe==0)=false:=by simpa using h0
   have aI:(fe !=0)=true:=by simpa using h0
   have HW:=hid (acr_bad (t:=t) HFE.out h0);go_wp2
   (try simp only [Exit.inBlock,Exit.then])
   (try rw [Exit.noGoto_ret])
   refine bodyPost_ret (v:=.tuple #[.complex .f64 0 0,.int .i64 fe]) ?_ rfl (RetCE.of (by rw [HW.out,ck0]) aL.out);rw [results_tmp2 rfl];rfl
 subst h0;obtain ⟨hn,hk,hm⟩:=fits_zero HFE.out;have HN:=hid hn;have HK:=hid hk;have HM:=hid hm;clear hn hk hm;cases hf:zBs l t
 · have HF:=hid hf;have HW:=hid (acr_none HFE.out hf);clear hf;go_upto_region 5 with (go_at_call 37;refine (zEm p l t _ gE.out HTL.out (by have:=HG.out.len;omega)).mono ?_;rintro e w3 ⟨rfl,hb⟩;have mJ:=hid (zAa hb gC.out);have lO:=hid (gE.out.below' hb);have hC:=hid (iN.out.below hb (Nat.le_refl _));have qH:=hid (qI.out.below hb (Nat.le_refl _));have aG:=hid (zAd aL.out hb);rw [HF.out];dsimp only [Option.getD_some,Option.getD_none,Option.isSome_some,Option.isSome_none];clear hb);clear gC gE iN qI aL;have oQ:=hid (zAa ((Below.refl w3.heap.size w3).alloc (Nat.le_refl _) (.cells #[.int .u8 zEl.kind,.string zEl.name,.string zEl.a,.string zEl.b,.string zEl.c,.string zEl.d,.float .f64 zEl.val,.int .i64 zEl.ph] 35)) mJ.out);have oU:=hid (lO.out.below' ((Below.refl w3.heap.size w3).alloc (Nat.le_refl _) (.cells #[.int .u8 zEl.kind,.string zEl.name,.string zEl.a,.string zEl.b,.string zEl.c,.string zEl.d,.float .f64 zEl.val,.int .i64 zEl.ph] 35)));have qB:=hid (hC.out.below ((Below.refl w3.heap.size w3).alloc (Nat.le_refl _) (.cells #[.int .u8 zEl.kind,.string zEl.name,.string zEl.a,.string zEl.b,.string zEl.c,.string zEl.d,.float .f64 zEl.val,.int .i64 zEl.ph] 35)) (Nat.le_refl _));have HA3:=hid (qH.out.below ((Below.refl w3.heap.size w3).alloc (Nat.le_refl _) (.cells #[.int .u8 zEl.kind,.string zEl.name,.string zEl.a,.string zEl.b,.string zEl.c,.string zEl.d,.float .f64 zEl.val,.int .i64 zEl.ph] 35)) (Nat.le_refl _));have aT:=hid (zAd aG.out ((Below.refl w3.heap.size w3).alloc (Nat.le_refl _) (.cells #[.int .u8 zEl.kind,.string zEl.name,.string zEl.a,.string zEl.b,.string zEl.c,.string zEl.d,.float .f64 zEl.val,.int .i64 zEl.ph] 35)));have HE:=hid (heap_alloc_new w3 (.cells #[.int .u8 zEl.kind,.string zEl.name,.string zEl.a,.string zEl.b,.string zEl.c,.string zEl.d,.float .f64 zEl.val,.int .i64 zEl.ph] 35))
   clear mJ lO hC qH aG;generalize w3.alloc (.cells #[.int .u8 zEl.kind,.string zEl.name,.string zEl.a,.string zEl.b,.string zEl.c,.string zEl.d,.float .f64 zEl.val,.int .i64 zEl.ph] 35)=w4 at *;obtain ⟨ge,lJ⟩:∃ge,w3.heap.size=ge:=⟨_,rfl⟩;rw [lJ] at HE⊢;clear lJ;go_wp2
   (try simp only [Exit.inBlock,Exit.then])
   (try rw [Exit.noGoto_ret])
   refine bodyPost_ret (v:=.tuple #[.complex .f64 0 0,.int .i64 10]) ?_ rfl (RetCE.of (by rw [HW.out,ck0]) aT.out);rw [results_tmp2 rfl];rfl
 rename_i x;have HF:=hid hf;have HW:=hid (acr_some HFE.out hf);have wT:=hid (HG.out.ok x (findE_ok hf));clear hf;go_upto_region 5 with (go_at_call 37;refine (zEm p l t _ gE.out HTL.out (by have:=HG.out.len;omega)).mono ?_;rintro e w3 ⟨rfl,hb⟩;have mJ:=hid (zAa hb gC.out);have lO:=hid (gE.out.below' hb);have hC:=hid (iN.out.below hb (Nat.le_refl _));have qH:=hid (qI.out.below hb (Nat.le_refl _));have aG:=hid (zAd aL.out hb);rw [HF.out];dsimp only [Option.getD_some,Option.getD_none,Option.isSome_some,Option.isSome_none];clear hb);clear gC gE iN qI aL;have oQ:=hid (zAa ((Below.refl w3.heap.size w3).alloc (Nat.le_refl _) (.cells #[.int .u8 x.kind,.string x.name,.string x.a,.string x.b,.string x.c,.string x.d,.float .f64 x.val,.int .i64 x.ph] 35)) mJ.out);have oU:=hid (lO.out.below' ((Below.refl w3.heap.size w3).alloc (Nat.le_refl _) (.cells #[.int .u8 x.kind,.string x.name,.string x.a,.string x.b,.string x.c,.string x.d,.float .f64 x.val,.int .i64 x.ph] 35)));have qB:=hid (hC.out.below ((Below.refl w3.heap.size w3).alloc (Nat.le_refl _) (.cells #[.int .u8 x.kind,.string x.name,.string x.a,.string x.b,.string x.c,.string x.d,.float .f64 x.val,.int .i64 x.ph] 35)) (Nat.le_refl _));have HA3:=hid (qH.out.below ((Below.refl w3.heap.size w3).alloc (Nat.le_refl _) (.cells #[.int .u8 x.kind,.string x.name,.string x.a,.string x.b,.string x.c,.string x.d,.float .f64 x.val,.int .i64 x.ph] 35)) (Nat.le_refl _));have aT:=hid (zAd aG.out ((Below.refl w3.heap.size w3).alloc (Nat.le_refl _) (.cells #[.int .u8 x.kind,.string x.name,.string x.a,.string x.b,.string x.c,.string x.d,.float .f64 x.val,.int .i64 x.ph] 35)));have HE:=hid (heap_alloc_new w3 (.cells #[.int .u8 x.kind,.string x.name,.string x.a,.string x.b,.string x.c,.string x.d,.float .f64 x.val,.int .i64 x.ph] 35))
 clear mJ lO hC qH aG;generalize w3.alloc (.cells #[.int .u8 x.kind,.string x.name,.string x.a,.string x.b,.string x.c,.string x.d,.float .f64 x.val,.int .i64 x.ph] 35)=w4 at *;obtain ⟨ge,lJ⟩:∃ge,w3.heap.size=ge:=⟨_,rfl⟩;rw [lJ] at HE⊢;clear lJ;have aB:=zAc oQ.out;have s1:=aB.1 1 _ rfl;have s2:=aB.1 2 _ rfl;clear aB;have aB:=zAc HE.out;have e2:=aB.1 2 _ rfl;have e3:=aB.1 3 _ rfl;clear aB;go_upto_region 8 with (go_at_call 73;refine (at_place20 p _ l xs x.a _ oU.out qB.out HK.out wT.out.a).mono ?_;rintro e w5 ⟨rfl,hb⟩;have kS:=hid (zAa hb oQ.out);have pJ:=hid (oU.out.below' hb);have tQ:=hid (qB.out.below hb (Nat.le_refl _));have HA4:=hid (HA3.out.below hb (Nat.le_refl _));have HE4:=hid (zAa hb HE.out);have bI:=hid (zAd aT.out hb);(obtain ⟨za,hza⟩:∃z,atS (nds l) xs x.a=z:=⟨_,rfl⟩);rw [hza];have HZa:=hid hza;clear hza;clear hb);clear oQ oU qB HA3 HE aT;clear s1 s2 e2 e3;have aB:=zAc kS.out;have s1:=aB.1 1 _ rfl;have s2:=aB.1 2 _ rfl;clear aB;have aB:=zAc HE4.out;have e2:=aB.1 2 _ rfl;have e3:=aB.1 3 _ rfl;clear aB;go_upto_region 9 with (go_at_call 73;refine (at_place20 p _ l xs x.b _ pJ.out tQ.out HK.out wT.out.b).mono ?_;rintro e w6 ⟨rfl,hb⟩;have HS5:=hid (zAa hb kS.out);have tU:=hid (pJ.out.below' hb);have tP:=hid (tQ.out.below hb (Nat.le_refl _));have HA5:=hid (HA4.out.below hb (Nat.le_refl _));have HE5:=hid (zAa hb HE4.out);have cL:=hid (zAd bI.out hb);(obtain ⟨zb,hzb⟩:∃z,atS (nds l) xs x.b=z:=⟨_,rfl⟩);rw [hzb];have HZb:=hid hzb;clear hzb;clear hb);clear kS pJ tQ HA4 HE4 bI;clear s1 s2 e2 e3;go_wp2_with (go_at_call 45;refine (psub_any _ _ _ _ _).mono ?_;rintro e w' ⟨_,n,rfl,rfl,r,i,rfl,hz⟩);have HR:=hid (show acrS (zBp p) l xs ys.length t=((fc r,fc i),0) by rw [HW.out,HN.out,vlt_at (by rw [←HN.out];exact HFE.out),vlt_at (by rw [←HN.out];exact HFE.out),HZa.out,HZb.out];exact Prod.ext hz.symm rfl)
 (try simp only [Exit.inBlock,Exit.then])
 (try rw [Exit.noGoto_ret])
 refine bodyPost_ret (v:=.tuple #[.complex .f64 r i,.int .i64 0]) ?_ rfl (RetCE.of HR.out (zAg cL.out _));rw [results_tmp2 rfl];rfl
end
section
open Go.RowKit
theorem zCe {w:World} {g b o:Nat} {v:Value} {x:Obj} (aK:b≠g) (h:w.heap[b]? =some x):(w.setCell ⟨g,o,none⟩ v).heap[b]? =some x:=(Below.heap_setCell w ⟨g,o,none⟩ v b aK).trans h
def rT (S:List Cx × (Int × Int)):Int:=if S.2=(0,0) then 2 else 0
theorem rT_bad {S:List Cx × (Int × Int)} (h:S.2≠ (0,0)):rT S=0:=if_neg h
theorem rT_ok {S:List Cx × (Int × Int)} (h:S.2=(0,0)):rT S=2:=if_pos h
def zFv (S:List Cx × (Int × Int)) (w:World) (e:Ending) (w':World):Prop:=
 ∃ (v:Value) (xs:List Cx),e=.returned (.tuple #[.agg #[.int .i64 (rT S),.int .i64 (rT S),v],.agg #[.int .i64 S.2.1,.int .i64 S.2.2]])∧xs.map ck=S.1∧w'.ownsRow w.heap.size 48 1 v xs.length (xs.map mkC)∧Below w.heap.size w w'
theorem zFv.bad {w w':World} {S:List Cx × (Int × Int)} {a b:Int} (h:S=([],(a,b))) (h0:(a,b)≠ (0,0)) (hb:Below w.heap.size w w'):zFv S w (.returned (.tuple #[.agg #[.int .i64 0,.int .i64 0,.slice none 0 0],.agg #[.int .i64 a,.int .i64 b]])) w':=
 ⟨.slice none 0 0, [],by rw [rT_bad (by rw [h];exact h0),h],by rw [h];rfl,World.ownsRow_nil _ _ _ _,hb⟩
theorem zFv.eq {S S':List Cx × (Int × Int)} {w w':World} {e:Ending} (h:S=S') (h2:zFv S w e w'):zFv S' w e w':=h ▸ h2
theorem map_at {xs:List Cx} {n:Nat} {x:Nat→Cx} (hx:xs.map ck=(List.range n).map x) {j:Nat} (hj:j < n):ck (xs.getD j (0,0))=x j:=by
 have hl:xs.length=n:=by simpa using congrArg List.length hx
 have h1:(xs.map ck)[j]? =some (x j):=by rw [hx,List.getElem?_map,List.getElem?_range hj];rfl
 rw [List.getElem?_map] at h1;rw [List.getD_eq_getElem?_getD];cases h2:xs[j]? with
 | none=> rw [h2] at h1;cases h1
 | some z=> rw [h2] at h1;exact Option.some.inj h1
theorem acr_aX {l:List El} {x:Nat→Cx} {xs:List Cx} {na:Nat} {t:ByteArray} {g:El} (hx:xs.map ck=(List.range (nds l).length).map x) (ha:na=(brs l).length) (hf:zBs l t=some g):acrS false l xs na t=(aX l x g,0):=by
 have hl:xs.length=(nds l).length:=by simpa using congrArg List.length hx
 have h0:zFb false xs.length na (nds l).length (brs l).length=0:=by
  unfold zFb;rw [if_neg (by simp),if_neg (by rintro (h | h);exact h hl;exact h ha)]
 have hv:∀s,ck (vltS false l xs na s).1=vX l x s:=by
  intro s;rw [vlt_at h0];unfold atS vX
  by_cases h:has (nds l) s=true
  · rw [if_pos h,if_pos h];obtain ⟨k,hk,iA⟩:=pl_in2 h;rw [hk,Int.toNat_natCast];exact map_at hx iA
  · rw [if_neg h,if_neg h];rfl
 unfold acrS;rw [if_neg (fun h=> h h0),hf];dsimp only;rw [hv,hv];rfl
theorem col_none {l:List El} {om:Nat} {d e g:El} {f:Int × Int} (h:zCu false l om ((List.range (szL l)).map (drvK l d))=(none,f)):colA l om d e g=(none,f):=by unfold colA colT;rw [h]
theorem col_some {l:List El} {om:Nat} {d e g:El} {x:Nat→Cx} {f:Int × Int} (h:zCu false l om ((List.range (szL l)).map (drvK l d))=(some x,f)):colA l om d e g=if cfin (aX l x e)=true∧cfin (aX l x g)=true then (some (aX l x e,aX l x g),(0,0)) else (none,(6,-1)):=by unfold colA colT;rw [h]
theorem tw_ask {b:Bool} {l:List El} {p q:ByteArray} {om:Nat} {k:Int} (h:askS b om=k) (h0:k≠0):twS b l p q om=([],(k,-1)):=by unfold twS;rw [h,if_pos h0];unfold plain;rw [if_neg h0]
theorem tw_miss {b:Bool} {l:List El} {p q:ByteArray} {om:Nat} (h:askS b om=0) (hf:zBs l p=none∨zBs l q=none):twS b l p q om=([],(10,-1)):=by
 unfold twS;rw [if_neg (fun h2=> h2 h)];rcases hf with h1 | h1
 · rw [h1]
 · rw [h1];cases zBs l p <;> rfl
theorem tw_arg {b:Bool} {l:List El} {p q:ByteArray} {om:Nat} {e g:El} (h:askS b om=0) (he:zBs l p=some e) (hg:zBs l q=some g) (hk:e.kind≠8∨g.kind≠8∨p.toList=q.toList):twS b l p q om=([],(2,-1)):=by
 unfold twS;rw [if_neg (fun h2=> h2 h),he,hg];dsimp only;rw [if_pos hk]
theorem tw_one {b:Bool} {l:List El} {p q:ByteArray} {om:Nat} {e g:El} {f:Int × Int} (h:askS b om=0) (he:zBs l p=some e) (hg:zBs l q=some g) (hk:¬(e.kind≠8∨g.kind≠8∨p.toList=q.toList)) (h1:colA l om e e g=(none,f)):twS b l p q om=([],f):=by
 unfold twS;rw [if_neg (fun h2=> h2 h),he,hg];dsimp only;rw [if_neg hk,h1]
theorem tw_two {b:Bool} {l:List El} {p q:ByteArray} {om:Nat} {e g:El} {u:Cx × Cx} {f0 f:Int × Int} (h:askS b om=0) (he:zBs l p=some e) (hg:zBs l q=some g) (hk:¬(e.kind≠8∨g.kind≠8∨p.toList=q.toList)) (h1:colA l om e e g=(some u,f0)) (h2:colA l om g e g=(none,f)):twS b l p q om=([],f):=by
 unfold twS;rw [if_neg (fun h2=> h2 h),he,hg];dsimp only;rw [if_neg hk,h1];dsimp only;rw [h2]
theorem tw_all {b:Bool} {l:List El} {p q:ByteArray} {om:Nat} {e g:El} {u v:Cx × Cx} {f0 f:Int × Int} (h:askS b om=0) (he:zBs l p=some e) (hg:zBs l q=some g) (hk:¬(e.kind≠8∨g.kind≠8∨p.toList=q.toList)) (h1:colA l om e e g=(some u,f0)) (h2:colA l om g e g=(some v,f)):twS b l p q om=([u.1,v.1,u.2,v.2],(0,0)):=by
 unfold twS;rw [if_neg (fun h2=> h2 h),he,hg];dsimp only;rw [if_neg hk,h1];dsimp only;rw [h2]
theorem quiet_net {l:List El} (eB:(ofL l).1=true) (aY:∀x∈l,x.Ok):NetG (l.map (chg fun _=> 0)):=
 netg_of (ofL_chg eB (srcs_zero l)) (fun x hx=> by obtain ⟨y,hy,rfl⟩:=List.mem_map.1 hx;exact chg_ok (aY y hy) (by decide))
theorem zDa (k:Int) (w:World):
 Calls Tryz.prog 35 #[.int .i64 k] w fun e w'=> e=.returned (.tuple #[.agg #[.int .i64 0,.int .i64 0,.slice none 0 0],.agg #[.int .i64 k,.int .i64 (-1)]])∧Below w.heap.size w w':=by
 obtain ⟨t1,t2,t3⟩:=zEc w (.cells #[.int .i64 0,.int .i64 0,.slice none 0 0] 43) (.cells #[.int .i64 0,.int .i64 0] 38);have HT:=hid t1;have HU:=hid t2;have eP:=hid t3;clear t1 t2 t3;go_enter Tryz.func35,Tryz.ntmps35;go_upto_region 1 with fail;generalize (w.alloc (.cells #[.int .i64 0,.int .i64 0,.slice none 0 0] 43)).alloc (.cells #[.int .i64 0,.int .i64 0] 38)=w1 at *;obtain ⟨gt,eR⟩:∃gt,w.heap.size=gt:=⟨_,rfl⟩;rw [eR] at HT HU⊢;have dZ:=hid eR;clear eR;have aB:=zAc HT.out;have tf0:=aB.2 0;have tf1:=aB.2 1;have tf2:=aB.2 2;have t0:=aB.1 0 _ rfl;have t1:=aB.1 1 _ rfl;have t2:=aB.1 2 _ rfl;clear aB;have aB:=zAc HU.out;have uf0:=aB.2 0;have uf1:=aB.2 1;have u0:=aB.1 0 _ rfl;have u1:=aB.1 1 _ rfl;clear aB;go_wp2
 (try simp only [Exit.inBlock,Exit.then])
 (try rw [Exit.noGoto_ret])
 refine bodyPost_ret (v:=.tuple #[.agg #[.int .i64 0,.int .i64 0,.slice none 0 0],.agg #[.int .i64 k,.int .i64 (-1)]]) ?_ rfl ⟨rfl,?_⟩
 · rw [zAh rfl];go_simp
 · repeat (first | with_reducible exact eP.out | with_reducible refine Below.setCell ?_ (by have:=dZ.out;dsimp only;omega) _)
end
end Go.Proofs.YtdepiggjneoopaaGreatDoor
