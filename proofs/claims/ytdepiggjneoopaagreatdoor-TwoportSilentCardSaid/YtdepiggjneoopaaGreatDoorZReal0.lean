/- a part of the proof of the last text -/
import Derived.Test.YtdepiggjneoopaaGreatDoorZZero
namespace Go.Proofs.YtdepiggjneoopaaGreatDoor
set_option linter.all false
set_option maxHeartbeats 4000000
set_option maxRecDepth 100000
open Go.RowKit
def ReK (x:El):Prop:=x.kind≠2∧x.kind≠3
def Rl (m:Nat→Cx):Prop:=∀i,fz (m i).2=true
theorem fz0:fz (fc 0)=true:=by decide+kernel
theorem fin6_z {z:Cx} (h:fz z.2=true):fz (fin6 z).1.2=true:=by
 unfold fin6
 split
 · exact h
 · exact fz0
theorem adm_z {x:El} {om:Nat} (h:ReK x):fz (admS x om).1.2=true:=by
 unfold admS
 split
 · rename_i hm;unfold admB
   by_cases h1:(x.kind==1 || x.kind==8)=true
   · rw [if_pos h1];exact fin6_z fz0
   · rw [if_neg h1];have h2:(x.kind==2)=false:=by simpa using h.1
     have ha:isAd x=true:=by
      unfold mayE at hm
      by_cases e1:angE om=0
      · rw [if_pos e1] at hm
        by_cases e2:zAv x=0
        · rw [if_pos e2] at hm
          by_cases e3:isAd x=true
          · exact e3
          · rw [if_neg e3] at hm;cases hm
        · rw [if_neg e2] at hm;exact absurd hm e2
      · rw [if_neg e1] at hm;exact absurd hm e1
     unfold isAd at ha;have h3:(x.kind==3)=false:=by simpa using h.2
     rw [h2,h3,Bool.or_false,Bool.or_false] at ha;exact absurd ha h1
 · exact fz0
theorem stOf_z {l:List El} {x:El} {y:Cx} (h:fz y.2=true):∀t∈stOf l x y,fz t.y.2=true:=by
 have e1:fz (fc x.val,fc 0).2=true:=fz0;have e2:fz cOne.2=true:=fz0;intro t ht;unfold stOf zFf stTrans stBr stAmp at ht
 split at ht
 · simp only [List.mem_cons,List.not_mem_nil,or_false] at ht;rcases ht with rfl | rfl | rfl | rfl <;> exact h
 · split at ht
   · simp only [List.mem_cons,List.not_mem_nil,or_false] at ht;rcases ht with rfl | rfl | rfl | rfl <;> exact e1
   · split at ht
     · simp only [List.mem_cons,List.not_mem_nil,or_false] at ht;rcases ht with rfl | rfl | rfl | rfl <;> exact e2
     · split at ht
       · simp only [List.mem_append,List.mem_cons,List.not_mem_nil,or_false] at ht;rcases ht with (rfl | rfl | rfl | rfl) | rfl | rfl <;> first | exact e2 | exact e1
       · cases ht
theorem upd_z {m:Nat→Cx} {i:Nat} {z:Cx} (h:Rl m) (hz:fz z.2=true):Rl (upd m i z):=by
 intro k
 by_cases e:k=i
 · subst e;rw [zAm];exact hz
 · rw [zAp _ _ e];exact h k
theorem st1_z {n:Nat} {s:StS} {t:St} (h:Rl s.1) (ht:fz t.y.2=true):Rl (st1 n s t).1:=by
 unfold st1
 split
 · exact h
 · refine upd_z h ?_;unfold stZ
   split
   · exact csub_z (h _) ht
   · exact cadd_z (h _) ht
theorem fold_z {n:Nat}:∀ (ts:List St) (s:StS),Rl s.1→(∀t∈ts,fz t.y.2=true)→Rl (ts.foldl (st1 n) s).1
 | [],_,h,_=> h
 | t::r,s,h,ht=> fold_z r _ (st1_z h (ht t (by simp))) fun u hu=> ht u (by simp [hu])
theorem matK_z {l:List El} {om:Nat} (hl:∀x∈l,ReK x):∀k,Rl (matK l om k)
 | 0=> fun _=> fz0
 | k+1=> by
  have ih:=matK_z (om:=om) hl k;cases hx:l[k]? with
  | none=> unfold matK;rw [hx];exact ih
  | some x=>
   rw [zCi hx];unfold zBd
   split
   · exact ih
   · exact fold_z _ _ ih (stOf_z (adm_z (hl x (List.mem_of_getElem? hx))))
theorem putS_z {l:List El} {r:Nat→Cx} {s:ByteArray} {f:Cx→Cx} (h:Rl r) (hf:∀z:Cx,fz z.2=true→fz (f z).2=true):Rl (putS l r s f).1:=by
 unfold putS
 split
 · exact upd_z h (hf _ (h _))
 · exact h
def RlM (n:Nat) (R:Mx):Prop:=∀i j,i < n→j < n→cre (R i j)=true
theorem elim_z {n k:Nat} {R:Mx} (h:RlM n R) (hk:k < n) (hf:zEq R k n n=true):RlM n (elimR R k n):=by
 intro a j ha hj;unfold elimR
 by_cases hka:k < a∧a < n
 · rw [if_pos hka];unfold zEq at hf;rw [List.all_eq_true] at hf;have h1:=hf a (List.mem_range.2 ha);rw [decide_eq_true hka.1,Bool.not_true,Bool.false_or] at h1;unfold zEr at h1;rw [Bool.and_eq_true] at h1;have wP:cre (factE R k a)=true:=cdiv_z (h a k ha hk) (h k k hk hk) h1.1;unfold rowE
   by_cases e:j=k
   · rw [if_pos e];exact wP
   · rw [if_neg e]
     by_cases e2:k < j
     · rw [if_pos e2];have h2:=List.all_eq_true.1 h1.2 j (List.mem_range.2 hj);rw [decide_eq_true e2,Bool.not_true,Bool.false_or] at h2;unfold rowE at h2;rw [if_neg e,if_pos e2] at h2;refine cre_of h2 (csub_z ?_ (cmul_z wP (h k j hk hj)));have h3:=h a j ha hj;unfold cre at h3;rw [Bool.and_eq_true] at h3;exact h3.2
     · rw [if_neg e2];exact h a j ha hj
 · rw [if_neg hka];exact h a j ha hj
theorem es_z {n:Nat} {m:Nat→Cx} (hm:∀p,p < n * n→cre (m p)=true):∀k,k≤n→(∀i,i < k→(zDy n (esK n m i) i).2=0)→RlM n (esK n m k).R
 | 0,_,_=> fun i j hi hj=> hm _ (by
  have h1:i * n≤ (n - 1) * n:=Nat.mul_le_mul_right n (by omega);have h2:(n - 1) * n+n=n * n:=by
   have:n - 1+1=n:=by omega
   rw [←Nat.succ_mul,Nat.succ_eq_add_one,this]
  omega)
 | k+1,hk,h=> by
  have ih:=es_z hm k (by omega) fun i hi=> h i (by omega)
  have h0:=h k (by omega);show RlM n (zDy n (esK n m k) k).1.R;generalize esK n m k=s at *;have hc:(zCb (colL n s.R k) k).2=0:=by
   refine Decidable.byContradiction fun hc=> ?_
   unfold zDy at h0;rw [if_pos hc] at h0;exact hc h0
  obtain ⟨b,hb,aI,aV⟩:=choose_ok (k:=k) (c:=colL n s.R k) (by simp [colL];omega) hc;have dP:b < n:=by simpa [colL] using aV
  rw [stepE_ok hb] at h0⊢;refine elim_z (fun i j hi hj=> ih _ _ (swp_lt dP (by omega) hi) hj) (by omega) ?_;refine Decidable.byContradiction fun hf=> ?_
  dsimp only at h0;rw [if_neg hf] at h0;cases h0
theorem low_z {n:Nat} {m:Nat→Cx} {s:Es} {f:Int × Int} (h:lowM n m=(some s,f)) (hm:Rl m):RlM n s.R∧s=esK n m n:=by
 unfold lowM at h
 split at h
 · cases h
 · rename_i hf;have dV:∀p,p < n * n→cre (m p)=true:=fun p hp=> by
    have:=List.find?_eq_none.1 hf p (List.mem_range.2 hp);exact cre_of (by simpa using this) (hm p)
   unfold lowE at h
   split at h
   · cases h
   · rename_i hb;unfold lowBad at hb;have h0:∀i,i < n→(zDy n (esK n m i) i).2=0:=fun i hi=> by
      have:=List.find?_eq_none.1 hb i (List.mem_range.2 hi)
      simpa using this
     obtain rfl:=(Prod.mk.inj h).1 |> Option.some.inj;exact ⟨es_z dV n (Nat.le_refl _) h0,rfl⟩
theorem foldS_z {A x:Nat→Cx} {lo:Nat} {t:Cx × Bool} (ht:cre t.1=true):∀m,(∀j,lo≤j→j < lo+m→cre (A j)=true∧cre (x j)=true)→(zDg A x lo t m).2=true→cre (zDg A x lo t m).1=true∧t.2=true
 | 0,_,h=> ⟨ht,h⟩
 | m+1,hA,h=> by
  unfold zDg lessS at h⊢;dsimp only at h⊢;rw [Bool.and_eq_true] at h;obtain ⟨h1,h2⟩:=foldS_z ht m (fun j h1 h2=> hA j h1 (by omega)) h.1;obtain ⟨h3,h4⟩:=hA (lo+m) (by omega) (by omega);refine ⟨cre_of h.2 (csub_z ?_ (cmul_z h3 h4)),h2⟩;unfold cre at h1;rw [Bool.and_eq_true] at h1;exact h1.2
theorem fwd_z {n:Nat} {L:Mx} {b:Nat→Cx} (hL:RlM n L) (hb:∀i,i < n→cre (b i)=true):∀i,i≤n→(fwdS L b i).2=true→∀j,j < i→cre ((fwdS L b i).1 j)=true
 | 0,_,_,j,hj=> by omega
 | i+1,hi,h,j,hj=> by
  unfold fwdS at h⊢;dsimp only at h⊢;have iY:∀ (aY:(fwdS L b i).2=true),cre (zDg (L i) (fwdS L b i).1 0 (b i,(fwdS L b i).2) i).1=true:=fun aY=>
   (foldS_z (t:=(b i,(fwdS L b i).2)) (hb i (by omega)) i (fun j _ h2=> ⟨hL i j (by omega) (by omega),fwd_z hL hb i (by omega) aY j (by omega)⟩) h).1
  have aY:(fwdS L b i).2=true:=by
   have key:∀m,(zDg (L i) (fwdS L b i).1 0 (b i,(fwdS L b i).2) m).2=true→(fwdS L b i).2=true:=by
    intro m
    induction m with
    | zero=> exact fun h=> h
    | succ m ih=> exact fun h=> ih (by unfold zDg lessS at h;dsimp only at h;rw [Bool.and_eq_true] at h;exact h.1)
   exact key i h
  by_cases e:j=i
  · subst e;rw [zAm];exact iY aY
  · rw [zAp _ _ e];exact fwd_z hL hb i (by omega) aY j (by omega)
theorem bwd_z {n:Nat} {U:Mx} {y:Nat→Cx} {ok:Bool} (hU:RlM n U) (hy:ok=true→∀j,j < n→cre (y j)=true):∀m,m≤n→(bwdS n U y ok m).2=true→ok=true∧∀j,j < n→cre ((bwdS n U y ok m).1 j)=true
 | 0,_,h=> ⟨h,hy h⟩
 | m+1,hm,h=> by
  unfold bwdS at h⊢;dsimp only at h⊢;rw [Bool.and_eq_true] at h;have aY:(bwdS n U y ok m).2=true:=by
   have key:∀q,(zDg (U (n - 1 - m)) (bwdS n U y ok m).1 (n - m) ((bwdS n U y ok m).1 (n - 1 - m),(bwdS n U y ok m).2) q).2=true→(bwdS n U y ok m).2=true:=by
    intro q
    induction q with
    | zero=> exact fun h=> h
    | succ q ih=> exact fun h=> ih (by unfold zDg lessS at h;dsimp only at h;rw [Bool.and_eq_true] at h;exact h.1)
   exact key m h.1
  obtain ⟨ho,ih⟩:=bwd_z hU hy m (by omega) aY;refine ⟨ho,fun j hj=> ?_⟩
  by_cases e:j=n - 1 - m
  · subst e;rw [zAm];refine cdiv_z ?_ (hU _ _ (by omega) (by omega)) h.2;exact (foldS_z (t:=((bwdS n U y ok m).1 (n - 1 - m),(bwdS n U y ok m).2)) (ih _ (by omega)) m (fun j h1 h2=> ⟨hU _ j (by omega) (by omega),ih j (by omega)⟩) h.1).1
  · rw [zAp _ _ e];exact ih j hj
theorem solve_z {n:Nat} {m:Nat→Cx} {s:Es} {f:Int × Int} {b:Nat→Cx} (h:lowM n m=(some s,f)) (hm:Rl m) (hb:∀i,i < n→cre (b i)=true) (aY:(zDh n s b).2=true):∀j,j < n→cre ((zDh n s b).1 j)=true:=by
 obtain ⟨hR,hs⟩:=low_z h hm;have ho:∀i,i < n→s.ord i < n:=fun i hi=> by rw [hs];exact es_ord n (Nat.le_refl _) i hi
 unfold zDh at aY⊢;exact (bwd_z hR (fun h2 j hj=> fwd_z hR (fun i hi=> hb _ (ho i hi)) n (Nat.le_refl _) h2 j hj) n (Nat.le_refl _) aY).2
theorem getD_all {r:List Cx} (h:∀z∈r,cre z=true) {i:Nat} (hi:i < r.length):cre (r.getD i (0,0))=true:=by
 rw [List.getD_eq_getElem?_getD,List.getElem?_eq_getElem hi];exact h _ (List.getElem_mem hi)
theorem with_z {b:Bool} {l:List El} {om:Nat} {r:List Cx} {x:Nat→Cx} {f:Int × Int} (hl:∀e∈l,ReK e) (hr:∀z∈r,fz z.2=true) (h:zCu b l om r=(some x,f)):∀i,i < szL l→fz (x i).2=true:=by
 unfold zCu at h
 split at h
 · cases h
 split at h
 · cases h
 rename_i hlen
 split at h
 · cases h
 rename_i bN
 split at h
 · cases h
 split at h
 · cases h
 split at h
 · cases h
 rename_i s f2 uM
 split at h
 · rename_i aY;obtain rfl:=(Prod.mk.inj h).1 |> Option.some.inj;have hlen2:r.length=szL l:=by simpa using hlen
   have hc:∀z∈r,cre z=true:=fun z hz=> by
    refine cre_of ?_ (hr z hz);have h1:r.all cfin=true:=by simpa using bN
    exact List.all_eq_true.1 h1 z hz
   intro i hi;have:=solve_z uM (matK_z hl _) (fun i hi=> getD_all hc (by omega)) aY i hi;unfold cre at this;rw [Bool.and_eq_true] at this;exact this.2
 · cases h
end Go.Proofs.YtdepiggjneoopaaGreatDoor
