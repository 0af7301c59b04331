/- An evaluator of closed runs, and that it is sound. -/
import Derived.Test.YtdepiggjneoopaaGreatDoorEwA
import Derived.Laws.Slices
import Derived.Laws.RangeString
import Derived.Laws.MakeOwn
import Derived.Lib.UnsafeStr
set_option linter.all false
namespace Go.Ev
open Go.RowKit
section
variable {P:Program} {E:Kn} {s:S} {ρ:Env}
def Nx (ρ:Env) (a:Option AU) (x:Option Value):Prop:=match a,x with | none,none=> True | some a,some x=> Ao ρ a x | _,_=> False
theorem concO?_rel {a:Option AU} {v:Option Value} {x:Option Value} (h:concO? a=some v) (hr:Nx ρ a x):x=v:=by
 unfold concO? at h;cases a with
 | none=> cases x with
  | none=> simpa using h
  | some x=> exact hr.elim
 | some a=> cases x with
  | none=> exact hr.elim
  | some x=>
   dsimp only at h
   split at h
   · rename_i v' hv;cases h;rw [Bp hv hr]
   · cases h
theorem Ce {n y:Nat} {code:BoundsCode} {k:IntKind} (h:n≤y) (w:World):(Instr.sliceBound (.int k (n:Int)) y code).run P w=.ok n w:=by
 have:=run_sliceBound (P:=P) w k (n:Int) y code (by omega) (by omega)
 simpa using this
theorem Jn {v:AU} {y n:Nat} {x:Value} (h:leA v y=some n) (hr:Ao ρ v x):n≤y∧∃k,x=.int k (n:Int):=by
 unfold leA at h
 split at h
 · rename_i m hm;rw [Ul] at h
   split at h
   · cases h;exact ⟨‹_›,Dd hm hr⟩
   · cases h
 · cases h
theorem Ld {isSlice:Bool} {len cap cap' l h m:Nat} {lo hi mx:Option AU} {vlo vhi vmx:Option Value} (hb:Jp len cap lo hi mx=some (l,h,m))
 (h1:Nx ρ lo vlo) (h2:Nx ρ hi vhi) (h3:Nx ρ mx vmx) (hc:cap≤cap') (hlc:len≤cap):
 ∃m',(∀w,(Instr.sliceBounds isSlice len cap' vlo vhi vmx).run P w=.ok (l,h,m') w)∧l≤h∧h≤m∧m≤cap∧(mx.isSome=true→m'=m)∧(mx=none→m'=cap'∧m=cap):=by
 have low:∀hh ll,Ug lo hh=some ll→ll≤hh∧((vlo=none∧ll=0)∨∃k,vlo=some (.int k (ll:Int))):=by
  intro hh ll hl;unfold Ug at hl;cases lo with
  | none=>
   cases vlo with
   | none=> simp at hl;subst hl;exact ⟨Nat.zero_le _,.inl ⟨rfl,rfl⟩⟩
   | some x=> exact h1.elim
  | some v=>
   cases vlo with
   | none=> exact h1.elim
   | some x=>
    obtain ⟨h4,k,rfl⟩:=Jn hl h1;exact ⟨h4,.inr ⟨k,rfl⟩⟩
 unfold Jp at hb;cases mx with
 | none=>
  cases vmx with
  | some x=> exact h3.elim
  | none=>
   dsimp only at hb
   split at hb
   · rename_i h' hh
     split at hb
     · rename_i l' hl;cases hb;obtain ⟨h4,h5⟩:=low _ _ hl;unfold Uu at hh;cases hi with
       | none=>
        cases vhi with
        | some x=> exact h2.elim
        | none=>
         simp at hh
         subst hh;refine ⟨cap',fun w=> ?_,h4,hlc,Nat.le_refl _,by simp,fun _=> ⟨rfl,rfl⟩⟩;rcases h5 with ⟨rfl,rfl⟩ | ⟨k,rfl⟩
         · simp [Instr.sliceBounds]
         · simp [Instr.sliceBounds,Ce h4]
       | some v=>
        cases vhi with
        | none=> exact h2.elim
        | some x=>
         obtain ⟨h6,k,rfl⟩:=Jn hh h2;refine ⟨cap',fun w=> ?_,h4,h6,Nat.le_refl _,by simp,fun _=> ⟨rfl,rfl⟩⟩;rcases h5 with ⟨rfl,rfl⟩ | ⟨k',rfl⟩
         · simp [Instr.sliceBounds,Ce (Nat.le_trans h6 hc)]
         · simp [Instr.sliceBounds,Ce (Nat.le_trans h6 hc),Ce h4]
     · cases hb
   · cases hb
 | some v=>
  cases vmx with
  | none=> exact h3.elim
  | some x=>
   dsimp only at hb
   split at hb
   · rename_i m' hm;obtain ⟨h6,k,rfl⟩:=Jn hm h3;cases hi with
     | none=> cases hb
     | some u=>
      cases vhi with
      | none=> exact h2.elim
      | some y=>
       dsimp only at hb
       split at hb
       · rename_i h' hh;obtain ⟨h7,k',rfl⟩:=Jn hh h2
         split at hb
         · rename_i l' hl;cases hb;obtain ⟨h4,h5⟩:=low _ _ hl;refine ⟨m,fun w=> ?_,h4,h7,h6,fun _=> rfl,by simp⟩;rcases h5 with ⟨rfl,rfl⟩ | ⟨k',rfl⟩
           · simp [Instr.sliceBounds,Ce (Nat.le_trans h6 hc),Ce h7]
           · simp [Instr.sliceBounds,Ce (Nat.le_trans h6 hc),Ce h7,Ce h4]
         · cases hb
       · cases hb
   · cases hb
theorem Pu {t:TypeId} {x:AU} {lo hi mx:Option AU}:UpR s (Et P t x lo hi mx s):=by
 unfold Et
 repeat' split
 all_goals first
  | exact UpR.bad
  | (rw [Bz];exact UpR.v)
  | exact UpR.v
  | (cases (Nat.beq _ _ && Nat.blt _ _ || Nat.beq _ _) <;> cases (Nat.beq (_ - _) 0) <;> first | exact UpR.bad | exact UpR.v)
theorem Pv {t:TypeId} {x:AU} {lo hi mx:Option AU} {vx:Value} {vlo vhi vmx:Option Value} (hr:Ao ρ x vx) (h1:Nx ρ lo vlo) (h2:Nx ρ hi vhi) (h3:Nx ρ mx vmx):
 MV P E s ρ (Et P t x lo hi mx s) (Instr.sliceAt t vx vlo vhi vmx):=by
 unfold Et
 split
 · rename_i v
   split
   · rename_i l h m e1 e2 e3;have f1:=concO?_rel e1 h1;have f2:=concO?_rel e2 h2;have f3:=concO?_rel e3 h3;subst f1;subst f2;subst f3;have e:vx=_:=hr;subst e
     split
     · rename_i v' hv;exact MV.cv fun w=> Br hv w
     · exact MV.bad
   · exact MV.bad
 · rename_i id off len cap
   split
   · rename_i e hu
     split
     · rename_i n hn
       split
       · rename_i l h m hb;obtain ⟨b,N,c,hid,rfl,hcap⟩:=hr;have hc:Lb len cap≤c:=by
          unfold Lb;cases cap with
          | exact k=> have:=hcap.1;dsimp only at this⊢;omega
          | rest es=> exact hcap.2
         by_cases hlen:len≤Lb len cap
         · obtain ⟨m',g1,g2,g3,g4,g5,g6⟩:=Ld (P:=P) (isSlice:=true) hb h1 h2 h3 hc hlen;have hrun:∀w,(Instr.sliceAt t (.slice (some ⟨b,off,none⟩) len c) vlo vhi vmx).run P w=.ok (.slice (some ⟨b,if m'=l then off else off+l * n,none⟩) (h - l) (m' - l)) w:=by
            intro w;have:(Instr.slice t (.slice (some ⟨b,off,none⟩) len c) vlo vhi vmx).run P w=.ok (.slice (some ⟨b,if m'=l then off else off+l * n,none⟩) (h - l) (m' - l)) w:=by
             simp only [Instr.slice,Sem.run_bind,run_underlying hu,Result.andThen_ok,g1,Bf hn,Sem.run_pure,Option.map_some,Bh]
             split <;> rfl
            simpa [Instr.sliceAt,run_underlying hu] using this
           have known:(cap=.exact c∨mx.isSome=true)→m'=m→MV P E s ρ (.a (.s id (bif Nat.beq m l then off else off+l * n) (h - l) (.exact (m - l))) s) (Instr.sliceAt t (.slice (some ⟨b,off,none⟩) len c) vlo vhi vmx):=by
            intro _ hm;subst hm;refine MV.pure (hrun) ⟨b,N,m' - l,hid,?_,rfl,by omega⟩;rw [Dq]
           split
           · rename_i k _;refine known (.inl (by have:=hcap.1;dsimp only at this;rw [this])) ?_;cases mx with
             | none=> obtain ⟨e1,e2⟩:=g6 rfl;have:=hcap.1;dsimp only at this;rw [e1,e2,this];rfl
             | some v=> exact g5 rfl
           · exact known (.inr rfl) (g5 rfl)
           · rename_i es;obtain ⟨e1,e2⟩:=g6 rfl;subst e1;cases hcnd:(Nat.beq es n && Nat.blt l len || Nat.beq l 0) with
             | false=>
              cases hz:Nat.beq (h - l) 0 with
              | false=> exact MV.bad
              | true=>
               have hz:=Nat.eq_of_beq_eq_true hz;refine MV.pure (hrun) ⟨b,N,_,_,hid,by rw [hz]⟩
             | true=>
              simp only [Bool.or_eq_true,Bool.and_eq_true] at hcnd;have hlm:l≤len:=by unfold Lb at e2;dsimp only at e2;omega
              have hlen':h≤len:=by unfold Lb at e2;dsimp only at e2;omega
              obtain ⟨hcap1,hcap2⟩:=hcap;dsimp only at hcap1;refine MV.pure (hrun) ⟨b,N,m' - l,hid,?_,?_,by omega⟩
              · rcases hcnd with ⟨_,h0⟩ | h0
                · have:=Db h0;rw [if_neg (by omega)]
                · have:=Nat.eq_of_beq_eq_true h0;subst this
                  split <;> simp
              · rcases hcnd with ⟨h0,h4⟩ | h0
                · have e5:=Nat.eq_of_beq_eq_true h0;subst e5;dsimp only;rw [←hcap1,Nat.add_assoc,←Nat.add_mul]
                  congr 2
                  omega
                · have:=Nat.eq_of_beq_eq_true h0;subst this
                  simpa using hcap1
         · -- the slice says more than its capacity
           exfalso
           unfold Lb at hlen;cases cap with
           | exact k=> have:=hcap.1;have h5:=hcap.2;dsimp only at this hlen;omega
           | rest es=> simp at hlen
       · exact MV.bad
     · exact MV.bad
   · exact MV.bad
 · rename_i id off
   split
   · rename_i k e hu
     split
     · rename_i n hn
       split
       · rename_i l h m hb;obtain ⟨b,N,hid,rfl⟩:=hr;obtain ⟨m',g1,g2,g3,g4,g5,g6⟩:=Ld (P:=P) (isSlice:=false) hb h1 h2 h3 (Nat.le_refl _) (Nat.le_refl _);have hm:m'=m:=by
          cases mx with
          | none=> obtain ⟨e1,e2⟩:=g6 rfl;omega
          | some v=> exact g5 rfl
         subst hm;refine MV.pure (v:=.slice (some ⟨b,if m'=l then off else off+l * n,none⟩) (h - l) (m' - l)) (fun w=> ?_) ⟨b,N,m' - l,hid,by rw [Dq],rfl,by omega⟩;simp only [Instr.sliceAt,Sem.run_bind,run_underlying hu,Result.andThen_ok,Instr.sureAddr,g1,Bf hn,Sem.run_pure,Bh]
         split <;> rfl
       · exact MV.bad
     · exact MV.bad
   · exact MV.bad
 · exact MV.bad
end
end Go.Ev
namespace Go.Ev
open Go.RowKit
section
variable {P:Program} {E:Kn} {s:S} {ρ:Env}
theorem Eb {d:TypeDesc} {k:Value}:∀ {es:List AE} {ms:List MapEntry} {i:Nat} {r:Option (Nat × AU)},Mf d k es i=some r→All2 (Lo ρ) es ms→
 ∃r',Instr.findNow d k ms i=some r'∧(match r,r' with | none,none=> True | some (j,v),some (j',v')=> j=j'∧Ao ρ v v'∧i≤j∧j < i+es.length | _,_=> False)
 | [], [],i,r,h,_=> by simp [Mf] at h;subst h;exact ⟨none,rfl,trivial⟩
 | [],_::_,_,_,_,h=> h.elim
 | _::_, [],_,_,_,h=> h.elim
 | e::es,m::ms,i,r,h,hr=> by
  unfold Mf at h;unfold Instr.findNow;rw [hr.1.1]
  split at h
  · rename_i hs;cases h;rw [hs];exact ⟨_,rfl,rfl,hr.1.2.1,Nat.le_refl _,by simp⟩
  · rename_i hs;rw [hs];obtain ⟨r',h1,h2⟩:=Eb h hr.2;refine ⟨r',h1,?_⟩;cases r with
    | none=> cases r' with
     | none=> trivial
     | some x=> exact h2.elim
    | some x=> cases r' with
     | none=> exact h2.elim
     | some y=>
      obtain ⟨j,v⟩:=x;obtain ⟨j',v'⟩:=y;obtain ⟨a,b,c,d⟩:=h2;exact ⟨a,b,by omega,by simp;omega⟩
  · cases h
theorem Dl {kt:TypeId} {d:TypeDesc} {k:Value} {emp:Bool} (hu:P.underlying kt=some d) (hp:Bo d=true) (w:World):(Instr.checkKey emp (9999+1) kt k).run P w=.ok () w:=by
 generalize 9999=n;cases d <;> simp [Bo] at hp <;> simp [Instr.checkKey,run_underlying hu]
theorem De {x:AU} {ok c:Bool} {s:S}:Ga x ok c s=.v (bif c then .t [x,.o (.c (.bool ok))] else .u x) s:=by
 unfold Ga;cases c <;> rfl
theorem Ef {x:AU} {v:Value} {ok c:Bool} (h:Ao ρ x v):Cq ρ (bif c then .t [x,.o (.c (.bool ok))] else .u x) (if c then .tuple #[v,.bool ok] else v):=by
 cases c
 · exact h
 · exact ⟨[v,.bool ok],rfl,h,rfl,trivial⟩
theorem Nc {t:TypeId} {x k:AU} {c:Bool}:UpR s (Cu P t x k c s):=by
 unfold Cu
 repeat' split
 all_goals first | exact UpR.bad | (rw [De];exact UpR.v)
theorem Nd {t:TypeId} {x k:AU} {c:Bool} {vx vk:Value} (hr:Ao ρ x vx) (hk:Ao ρ k vk):MV P E s ρ (Cu P t x k c s) (Instr.lookup t vx vk c):=by
 unfold Cu
 split
 · have e:vx=_:=hr;subst e;obtain ⟨b,rfl⟩:=hk
   split
   · rename_i kt et hu
     split
     · rename_i z hkd hz;rw [De];have hck:∀emp w,(Instr.checkKey emp 10000 kt (.string b)).run P w=.ok () w:=fun emp w=> Dl hkd (by rfl) w
       refine MV.pure (fun w=> ?_) (Ef (Bm ρ z))
       simp [Instr.lookup,run_underlying hu,hck,Instr.findKey,run_underlying hkd,Instr.findNow,Dw hz]
     · exact MV.bad
   · exact MV.bad
 · exact MV.bad
theorem Oo {t:TypeId} {x k:AU} {c:Bool}:UpR s (Dj P t x k c s):=by
 unfold Dj
 repeat' split
 all_goals first
  | exact Nc
  | exact UpR.bad
  | (cases Bo _ <;> first | exact UpR.bad | (dsimp only [cond];first | exact UpR.bad | (rw [De];first | exact UpR.v | exact UpR.vt)))
theorem Oq {t:TypeId} {x k:AU} {c:Bool} {vx vk:Value} (hr:Ao ρ x vx) (hk:Ao ρ k vk):MV P E s ρ (Dj P t x k c s) (Instr.lookup t vx vk c):=by
 unfold Dj
 split
 · rename_i kt et kv hu hc;have e:=Bp hc hk;subst e
   split
   · rename_i kd z hkd hz;cases hp:Bo kd with
     | false=> exact MV.bad
     | true=>
      dsimp only [cond];have hck:∀emp w,(Instr.checkKey emp 10000 kt vk).run P w=.ok () w:=fun emp w=> Dl hkd hp w
      split
      · rw [De];have e:vx=_:=hr;subst e;refine MV.pure (fun w=> ?_) (Ef (Bm ρ z))
        simp [Instr.lookup,run_underlying hu,hck,Instr.findKey,run_underlying hkd,Instr.findNow,Dw hz]
      · rename_i id;obtain ⟨b,n,hid,rfl⟩:=hr
        split
        · rename_i es clk hob;have key:∀B0 w0 G w,Rel E B0 w0 ρ G w→G id=Be s id→∃ms:List MapEntry,w.heap[b]? =some (.map ms.toArray clk)∧All2 (Lo ρ) es ms:=by
           intro B0 w0 G w h hG;rw [hob] at hG;obtain ⟨b',n',h1,_,ms,h2,h3⟩:=h.real id _ hG (by simp);rw [hid] at h1;cases h1;exact ⟨ms,h2,h3⟩
          split
          · rename_i i v hf;rw [De];refine MV.look fun B0 w0 G w h hG=> ?_
            obtain ⟨ms,h2,h3⟩:=key B0 w0 G w h hG;obtain ⟨r',h4,h5⟩:=Eb hf h3;cases r' with
            | none=> exact h5.elim
            | some y=>
             obtain ⟨j,v'⟩:=y;refine ⟨_,?_,Ef h5.2.1⟩
             simp [Instr.lookup,run_underlying hu,getObj,Sem.run,h2,hck,Instr.findKey,run_underlying hkd,h4]
          · rename_i hf;rw [De];refine MV.look fun B0 w0 G w h hG=> ?_
            obtain ⟨ms,h2,h3⟩:=key B0 w0 G w h hG;obtain ⟨r',h4,h5⟩:=Eb hf h3;cases r' with
            | some y=> exact h5.elim
            | none=>
             refine ⟨_,?_,Ef (Bm ρ z)⟩
             simp [Instr.lookup,run_underlying hu,getObj,Sem.run,h2,hck,Instr.findKey,run_underlying hkd,h4,Dw hz]
          · exact MV.bad
        · exact MV.bad
      · exact MV.bad
   · exact MV.bad
 · exact Nd hr hk
theorem Nv {v:AU} {x:Value} (hv:Ao ρ v x):∀ {es:List AE} {ms:List MapEntry} (i:Nat),All2 (Lo ρ) es ms→All2 (Lo ρ) (Rf es i v) (ms.modify i fun m=> {m with val:=x})
 | [], [],i,_=> by simp [Rf,All2]
 | [],_::_,_,h=> h.elim
 | _::_, [],_,h=> h.elim
 | e::es,m::ms,0,h=> by simp [Rf];exact ⟨⟨h.1.1,hv,h.1.2.2⟩,h.2⟩
 | e::es,m::ms,i+1,h=> by simp [Rf];exact ⟨h.1,Nv hv i h.2⟩
theorem Tv {a b:ByteArray}:(a==b)=true ↔ a=b:=by
 cases a;cases b;show ByteArray.beq _ _=true ↔ _
 simp [ByteArray.beq]
theorem Mr {d:TypeDesc} {k old:Value} (hp:Bo d=true) (h:Instr.sameNow d k old=some true):Instr.sameBits 10000 old k=true∧k=old:=by
 cases d <;> simp [Bo] at hp <;> cases k <;> cases old <;> simp [Instr.sameNow,Tv] at h <;> simp_all [Instr.sameBits,Tv]
theorem Me {d:TypeDesc} {k:Value} (hp:Bo d=true):∀ {ms:List MapEntry} {i j:Nat} {v:Value},Instr.findNow d k ms i=some (some (j,v))→∃m,ms[j - i]? =some m∧m.key=k∧i≤j
 | [],i,j,v,h=> by simp [Instr.findNow] at h
 | m::ms,i,j,v,h=> by
  unfold Instr.findNow at h
  split at h
  · rename_i hs
    simp at h
    obtain ⟨rfl,_⟩:=h;exact ⟨m,by simp,(Mr hp hs).2.symm,Nat.le_refl _⟩
  · obtain ⟨m',h1,h2,h3⟩:=Me hp h;refine ⟨m',?_,h2,by omega⟩;rw [show j - i=(j - (i+1))+1 by omega]
    simpa using h1
  · cases h
theorem Pn {k x:Value} {ms:List MapEntry} {i:Nat} {m:MapEntry} (h:ms[i]? =some m) (hk:m.key=k):(ms.modify i fun e=> {e with key:=k,val:=x})=ms.modify i fun e=> {e with val:=x}:=by
 apply List.ext_getElem?
 intro j;simp only [List.getElem?_modify]
 by_cases e:i=j
 · subst e;simp only [h,if_true,Option.map_some];subst hk
   rfl
 · simp [e]
theorem Lm {d:TypeDesc} {k:Value} (hp:Bo d=true) {old:Value} (h:Instr.sameNow d k old=some true):Instr.sameBits 10000 k k=true:=by
 cases d <;> simp [Bo] at hp <;> cases k <;> cases old <;> simp [Instr.sameNow] at h <;> simp [Instr.sameBits,Tv]
theorem Hm {d:TypeDesc} {k:Value}:∀ {ms:List MapEntry} {i j:Nat} {v:Value},Instr.findNow d k ms i=some (some (j,v))→∃old,Instr.sameNow d k old=some true
 | [],i,j,v,h=> by simp [Instr.findNow] at h
 | m::ms,i,j,v,h=> by
  unfold Instr.findNow at h
  split at h
  · exact ⟨_,‹_›⟩
  · exact Hm h
  · cases h
theorem Km {t:TypeId} {x k v:AU}:UpR s (Ca P t x k v s):=by
 unfold Ca
 repeat' split
 all_goals first
  | exact UpR.bad
  | (cases Bo _ <;> first | exact UpR.bad | (dsimp only [cond];first | exact UpR.bad | exact UpR.vp))
theorem Jv {w:World} {b:Nat} {ms:Array MapEntry} {c:Nat} {o:Obj} (h:w.heap[b]? =some (.map ms c)):(setObj b o).run P w=.ok () {w with heap:=w.heap.setIfInBounds b o}:=by
 simp [setObj,Sem.run,h]
theorem Cr (w:World) (b:Nat) (o:Obj):Turned w {w with heap:=w.heap.setIfInBounds b o} b:=
 ⟨rfl,rfl,rfl,by simp,fun k hk=> by simp [Array.getElem?_setIfInBounds,Ne.symm hk]⟩
theorem Ph {w:World} {b:Nat} {o x:Obj} (h:w.heap[b]? =some x):({w with heap:=w.heap.setIfInBounds b o}:World).heap[b]? =some o:=by
 have:=(Array.getElem?_eq_some_iff.1 h).1
 simp [Array.getElem?_setIfInBounds,this]
theorem Fr {t:TypeId} {x k v:AU} {vx vk vv:Value} (hr:Ao ρ x vx) (hk:Ao ρ k vk) (hv:Ao ρ v vv):MU P E s ρ (Ca P t x k v s) (Instr.mapUpdate t vx vk vv):=by
 unfold Ca
 split
 · rename_i kt et kv hu hc;have e:=Bp hc hk;subst e
   split
   · rename_i kd hkd;cases hp:Bo kd with
     | false=> exact MU.bad
     | true=>
      dsimp only [cond];have hck:∀emp w,(Instr.checkKey emp 10000 kt vk).run P w=.ok () w:=fun emp w=> Dl hkd hp w
      split
      · rename_i id;obtain ⟨b,n,hid,rfl⟩:=hr
        split
        · rename_i es clk hob;have key:∀B0 w0 G w,Rel E B0 w0 ρ G w→G id=Be s id→B0≤b∧∃ms:List MapEntry,w.heap[b]? =some (.map ms.toArray clk)∧All2 (Lo ρ) es ms:=by
           intro B0 w0 G w h hG;rw [hob] at hG;obtain ⟨b',n',h1,h4,ms,h2,h3⟩:=h.real id _ hG (by simp);rw [hid] at h1;cases h1;exact ⟨h4.resolve_left (by simp [AObj.old]),ms,h2,h3⟩
          split
          · rename_i i v0 hf;intro y s' e B0 w0 G w h ha;cases e;have hG:G id=Be s id:=(ha id (by rw [Di];simp)).symm;obtain ⟨hB,ms,h2,h3⟩:=key B0 w0 G w h hG;obtain ⟨r',h4,h5⟩:=Eb hf h3;cases r' with
            | none=> exact h5.elim
            | some q=>
             obtain ⟨j,v'⟩:=q;obtain ⟨rfl,_,_,_⟩:=h5;obtain ⟨old,hold⟩:=Hm h4;obtain ⟨m,hm1,hm2,_⟩:=Me hp h4;rw [Nat.sub_zero] at hm1;refine ⟨ρ,_,{w with heap:=w.heap.setIfInBounds b (.map ((ms.modify i fun m=> {m with val:=vv}).toArray) clk)},?_,rfl,Ea h (hG.trans hob) (by simp) rfl hid hB ha ((Cr w b _).below hB) (fun k _ hk=> (Cr w b _).block k hk) fun _=> ⟨_,Ph h2,Nv hv i h3⟩⟩;have hsb:Instr.sameBits 10000 (((ms.toArray[i]?).map (·.key)).getD vk) vk=true:=by
              simp [hm1,hm2,Lm hp hold]
             simp only [Instr.mapUpdate,Sem.run_bind,run_underlying hu,Result.andThen_ok,getObj,Sem.run,h2,hck,Instr.findKey,run_underlying hkd,h4,Sem.run_pure,Instr.keyThatStays,hsb,if_true,Jv h2]
             congr 3
             have:=Pn (x:=vv) hm1 hm2;simp only [List.modify_toArray,this]
          · rename_i hf;intro y s' e B0 w0 G w h ha;cases e;have hG:G id=Be s id:=(ha id (by rw [Di];simp)).symm;obtain ⟨hB,ms,h2,h3⟩:=key B0 w0 G w h hG;obtain ⟨r',h4,h5⟩:=Eb hf h3;cases r' with
            | some q=> exact h5.elim
            | none=>
             have hnew:All2 (Lo ρ) (es++ [⟨vk,v,clk⟩]) (ms++ [({key:=vk,val:=vv,born:=clk}:MapEntry)]):=All2.append h3 (show All2 (Lo ρ) [⟨vk,v,clk⟩] [({key:=vk,val:=vv,born:=clk}:MapEntry)] from ⟨⟨rfl,hv,rfl⟩,trivial⟩);refine ⟨ρ,_,{w with heap:=w.heap.setIfInBounds b (.map ((ms++ [({key:=vk,val:=vv,born:=clk}:MapEntry)]).toArray) (clk+1))},?_,rfl,Ea h (hG.trans hob) (by simp) rfl hid hB ha ((Cr w b _).below hB) (fun k _ hk=> (Cr w b _).block k hk) fun _=> ⟨_,Ph h2,hnew⟩⟩;simp only [Instr.mapUpdate,Sem.run_bind,run_underlying hu,Result.andThen_ok,getObj,Sem.run,h2,hck,Instr.findKey,run_underlying hkd,h4,Sem.run_pure,Jv h2]
             congr 3
             simp
          · exact MU.bad
        · exact MU.bad
      · exact MU.bad
   · exact MU.bad
 · exact MU.bad
theorem Pw {t:TypeId} {x:AU}:UpR s (Eu P t x s):=by
 unfold Eu
 repeat' split
 all_goals first | exact UpR.bad | exact UpR.new fun _ _=> UpR.v
theorem Sy {B0:Nat} {w0:World} {G:Heap} {w:World} {ob:AObj} {o:Obj} (h:Rel E B0 w0 ρ G w) (hn:Be s (Ax s ob).1=none) (ha:Agree (Ax s ob).2 s G)
 (hR:∀ρ',It ρ' 0 ob (some o)):Lift E B0 w0 s (Ax s ob).2 ρ G w (ρ.put (Ax s ob).1 (w.heap.size,0)) (G.put (Ax s ob).1 ob) (w.alloc o):=by
 refine Of h (Below.alloc (Below.refl _ _) (Nat.le_refl _) o) hn ha rfl (Nat.le_refl _) ?_;rw [heap_alloc_new];exact hR _
theorem Px {t:TypeId} {x:AU} {vx:Value} (hr:Ao ρ x vx):MV P E s ρ (Eu P t x s) (Instr.range t vx):=by
 unfold Eu
 split
 · rename_i b hu;intro y s' e B0 w0 G w h ha;obtain ⟨hn,e1⟩:=Cj e;cases e1;have e:vx=_:=hr;subst e;have hl:=Sy (o:=.stringIter b 0) h hn ha (fun _=> rfl);exact ⟨_,_,_,.pointer (some ⟨w.heap.size,0,none⟩),run_range_string w t b hu,⟨_,_,Ch _ _ _,rfl⟩,hl⟩
 · exact MV.bad
theorem Rz {x:AU} {b:Bool}:UpR s (Gj x b s):=by
 unfold Gj
 repeat' split
 all_goals first | exact UpR.bad | skip
 cases Nat.blt _ _
 · exact UpR.vt
 · dsimp only [cond];simp only [Ct];exact UpR.vp
theorem Sa {x:AU} {isS:Bool} {vx:Value} {t:TypeId} (hr:Ao ρ x vx):MV P E s ρ (Gj x isS s) (Instr.next vx isS t):=by
 unfold Gj
 split
 · rename_i id;obtain ⟨b,n,hid,rfl⟩:=hr
   split
   · rename_i str pos hob;have key:∀B0 w0 G w,Rel E B0 w0 ρ G w→G id=Be s id→B0≤b∧w.heap[b]? =some (.stringIter str pos):=by
      intro B0 w0 G w h hG;rw [hob] at hG;obtain ⟨b',n',h1,h4,h2⟩:=h.real id _ hG (by simp);rw [hid] at h1;cases h1;exact ⟨h4.resolve_left (by simp [AObj.old]),h2⟩
     cases hb:Nat.blt pos str.size with
     | false=>
      dsimp only [cond];refine MV.look fun B0 w0 G w h hG=> ?_
      obtain ⟨_,h2⟩:=key B0 w0 G w h hG;have hlt:¬pos < str.size:=fun hh=> by
       have:Nat.blt pos str.size=true:=Nat.ble_eq_true_of_le hh;rw [hb] at this;cases this
      exact ⟨.tuple #[.bool false],by simp [Instr.next,getObj,Sem.run,h2,hlt], [.bool false],rfl,rfl,trivial⟩
     | true=>
      have hlt:=Db hb;dsimp only [cond];simp only [Ct];intro y s' e B0 w0 G w h ha;cases e;have hG:G id=Be s id:=(ha id (by rw [Di];simp)).symm;obtain ⟨hB,h2⟩:=key B0 w0 G w h hG;refine ⟨ρ,_,{w with heap:=w.heap.setIfInBounds b (.stringIter str (pos+(Utf8.decode str pos).2))},.tuple #[.bool true,goInt pos,.int .i32 (Utf8.decode str pos).1],?_,⟨[.bool true,goInt pos,.int .i32 (Utf8.decode str pos).1],rfl,rfl,rfl,rfl,trivial⟩,
       Ea h (hG.trans hob) (by simp) rfl hid hB ha ((Cr w b _).below hB) (fun k _ hk=> (Cr w b _).block k hk) fun _=> Ph h2⟩
      simp [Instr.next,getObj,setObj,Sem.run,h2,hlt]
   · exact MV.bad
 · exact MV.bad
end
end Go.Ev
namespace Go.Ev
open Go.RowKit
section
variable {P:Program} {E:Kn} {s:S} {ρ:Env}
theorem Ko {t:TypeId} {l c:AU}:UpR s (Cb P t l c s):=by
 unfold Cb
 repeat' split
 all_goals first
  | exact UpR.bad
  | (cases (Nat.ble _ _ && _ && _ && _ && _) <;> first | exact UpR.bad | exact UpR.new fun _ _=> UpR.v)
theorem Kp {t:TypeId} {l c:AU} {vl vc:Value} (hl:Ao ρ l vl) (hc:Ao ρ c vc):MV P E s ρ (Cb P t l c s) (Instr.makeSlice t vl vc):=by
 unfold Cb
 split
 · rename_i e n k hu hn hk;obtain ⟨kl,rfl⟩:=Dd hn hl;obtain ⟨kc,rfl⟩:=Dd hk hc
   split
   · rename_i i hi
     split
     · rename_i z hz;cases hb:(Nat.ble n k && Nat.ble k 281474976710656 && Nat.ble (i.bytes * k) 281474976710656 && Nat.beq z.cells.size i.size && Nat.ble 1 i.size) with
       | false=> exact MV.bad
       | true=>
        dsimp only [cond];simp only [Bool.and_eq_true] at hb;obtain ⟨⟨⟨⟨b1,b2⟩,b3⟩,b4⟩,b5⟩:=hb;have b1:=Nat.le_of_ble_eq_true b1;have b2:=Nat.le_of_ble_eq_true b2;have b3:=Nat.le_of_ble_eq_true b3;have b4:=Nat.eq_of_beq_eq_true b4;have b5:=Nat.le_of_ble_eq_true b5;intro x s' e' B0 w0 G w h ha;obtain ⟨hnn,e1⟩:=Cj e';cases e1;have hrz:Bv ρ (Np z.cells.toList k) (Bw z.cells.toList k):=Hv _ _;have hb:(w.alloc (.cells (Bw z.cells.toList k).toArray e)).heap[w.heap.size]? =some (.cells (Bw z.cells.toList k++ []).toArray e (0,0)):=by simpa using heap_alloc_new w (.cells (Bw z.cells.toList k).toArray e)
        have hl:=El (cur:=Bw z.cells.toList k) (rest:= []) h (Below.alloc (Below.refl _ _) (Nat.le_refl _) (.cells (Bw z.cells.toList k).toArray e)) hnn ha (Nat.le_refl _) hb (fun i _=> by simp) hrz (fun _=> rfl);refine ⟨_,_,_,.slice (some ⟨w.heap.size,0,none⟩) n k,?_,⟨_,_,_,Ch _ _ _,rfl,rfl,b1⟩,hl⟩;have hr:=run_make (P:=P) w t e i z hu hi hz kl kc (Int.ofNat n) (Int.ofNat k) (by simp) (by simp;omega) (by
         have h:((i.bytes * k:Nat):Int)≤281474976710656:=by omega
         rwa [Int.natCast_mul] at h) (by simp;omega)
        have hm:madeCells z.cells (k * i.size)=(Bw z.cells.toList k).toArray:=by
         unfold madeCells;rw [←b4];exact Iy _ _
        simp only [Int.ofNat_eq_natCast,Int.toNat_natCast,hm] at hr;exact hr
     · exact MV.bad
   · exact MV.bad
 · exact MV.bad
theorem Dn {es n:Nat} {x:AU} {new:List AC} {s1:S} (h:Dx es x s=some (n,new,s1)):Up s s1:=by
 unfold Dx at h
 split at h
 · split at h
   · split at h
     · cases h;exact Fj s _
     · cases h
   · cases h
 · cases h;exact Up.refl _
 · cases h;exact Up.refl _
 · cases hb:Nat.beq es 1 with
   | false=> simp [hb] at h
   | true=> simp [hb] at h;obtain ⟨_,_,rfl⟩:=h;exact Up.refl _
 · cases h
theorem Qj (b:ByteArray) (k:Nat):((b.extract 0 k).data.map fun (x:UInt8)=> Value.int .u8 (x.toNat:Int))=((b.data.toList.map fun (x:UInt8)=> Value.int .u8 (x.toNat:Int)).take k).toArray:=by
 apply Array.ext'
 rw [Array.toList_map,ByteArray.data_extract,Array.toList_extract]
 simp [List.extract_eq_take_drop,List.map_take]
theorem Iw {es n:Nat} {x:AU} {vx:Value} {new:List AC} {s1:S} {B0:Nat} {w0:World} {G:Heap} {w:World} (h:Dx es x s=some (n,new,s1)) (hr:Ao ρ x vx)
 (hR:Rel E B0 w0 ρ G w) (ha:Agree s1 s G):Lift E B0 w0 s s1 ρ G w ρ G w∧(∀w2,(Builtin.lenOf vx).run P w2=.ok n w2)∧
  ∃vs:List Value,Bv ρ new vs∧vs.length=n * es∧∀w2 k,w2.heap=w.heap→k≤n→(Builtin.firstCells es k vx).run P w2=.ok (vs.take (k * es)).toArray w2:=by
 unfold Dx at h
 split at h
 · rename_i id off len cap
   split at h
   · rename_i ty cells kd hob
     split at h
     · rename_i r hp;cases h;obtain ⟨b,N,c,hid,rfl,_⟩:=hr;have hG:G id=some (.row ty cells kd):=by rw [←ha id (Gy s id)];exact hob
       obtain ⟨head,rest,fr,tyb,h1,h2,_⟩:=hR.row hG hid;obtain ⟨vs,h3,h4,_,h5⟩:=Dc hp h2;refine ⟨En hR ha,fun w2=> by simp [Builtin.lenOf],vs,h3,h4,fun w2 k hw hk=> ?_⟩;have h1':w2.heap[b]? =some (.cells (head++rest).toArray tyb fr):=by rw [hw];exact h1
       refine run_firstCells_some (P:=P) w2 es k ⟨b,off,none⟩ n c (vs.take (k * es)) ?_ fun j v hv=> ?_
       · rw [List.length_take,h4];have:=Nat.mul_le_mul_right es hk
         omega
       · rw [Bh,Da h1'];refine h5 rest j v ?_;rw [List.getElem?_take] at hv
         split at hv
         · exact hv
         · cases hv
     · cases h
   · cases h
 · cases h;have e:vx=_:=hr;subst e;refine ⟨Lift.refl hR ha,fun w2=> by simp [Builtin.lenOf], [],trivial,by simp,fun w2 k _ hk=> by simp [Builtin.firstCells]⟩
 · cases h;obtain ⟨b,N,o,c,_,rfl⟩:=hr;refine ⟨Lift.refl hR ha,fun w2=> by simp [Builtin.lenOf], [],trivial,by simp,fun w2 k hw hk=> ?_⟩;have hk:k=0:=by omega
   subst hk;rw [List.take_nil];exact run_firstCells_some (P:=P) w2 es 0 ⟨b,o,none⟩ 0 c [] (by simp) fun j v hv=> by simp at hv
 · rename_i b;cases hb:Nat.beq es 1 with
   | false=> simp [hb] at h
   | true=>
    have e1:=Nat.eq_of_beq_eq_true hb
    simp [hb] at h
    obtain ⟨rfl,rfl,rfl⟩:=h;have e:vx=_:=hr;subst e;subst e1;refine ⟨Lift.refl hR ha,fun w2=> by simp [Builtin.lenOf],b.data.toList.map fun (x:UInt8)=> Value.int .u8 (x.toNat:Int),Ly ρ _,by simp,fun w2 k _ hk=> ?_⟩;simp only [Builtin.firstCells,Sem.run_pure,Qj,Nat.mul_one]
 · cases h
section
variable {t u e:TypeId} {ud:TypeDesc} {i:TypeInfo} {z:Value} {ty:TypeId} {vx:Value} {n:Nat} {w:World}
theorem Fz (ht:P.underlying t=some (.slice e)) (hu:P.underlying u=some ud) (hud:(match ud with | .slice _=> true | .string=> true | _=> false)=true) (hi:P.info? e=some i) (hlen:∀w2,(Builtin.lenOf vx).run P w2=.ok n w2) {a:Addr} {sLen sCap:Nat} {new:List Value} {w':World} (hc:sLen+n≤sCap) (hf:(Builtin.firstCells i.size n vx).run P w=.ok new.toArray w)
 (hs:(storeCells (a.add (sLen * i.size)) new).run P w=.ok () w'):(Builtin.append_ #[t,u] ty #[.slice (some a) sLen sCap,vx]).run P w=.ok (.slice (some a) (sLen+n) sCap) w':=by
 cases ud <;> simp at hud <;> simp [Builtin.append_,run_underlying ht,run_underlying hu,sizeOf,typeInfo,hi,hlen,hc,hf,hs]
theorem Jf (ht:P.underlying t=some (.slice e)) (hu:P.underlying u=some ud) (hud:(match ud with | .slice _=> true | .string=> true | _=> false)=true) (hi:P.info? e=some i) (hlen:∀w2,(Builtin.lenOf vx).run P w2=.ok n w2) (hn:n=0) (hf:(Builtin.firstCells i.size n vx).run P w=.ok #[] w):(Builtin.append_ #[t,u] ty #[.slice none 0 0,vx]).run P w=.ok (.slice none 0 0) w:=by
 subst hn;cases ud <;> simp at hud <;> simp [Builtin.append_,run_underlying ht,run_underlying hu,sizeOf,typeInfo,hi,hlen,hf]
theorem Jw (ht:P.underlying t=some (.slice e)) (hu:P.underlying u=some ud) (hud:(match ud with | .slice _=> true | .string=> true | _=> false)=true) (hi:P.info? e=some i) (hlen:∀w2,(Builtin.lenOf vx).run P w2=.ok n w2) (hz:i.zero=some z) {d:Option Addr} {sLen sCap:Nat} {old new:List Value} (hc:sCap < sLen+n) (hb:(sLen+n) * i.bytes≤1000000000) (hb1:1≤i.bytes)
 (ho:(Builtin.firstCells i.size sLen (.slice d sLen sCap)).run P w.drew=.ok old.toArray w.drew) (hf:(Builtin.firstCells i.size n vx).run P w.drew=.ok new.toArray w.drew):
 ∃c,sLen+n≤c∧(Builtin.append_ #[t,u] ty #[.slice d sLen sCap,vx]).run P w=.ok (.slice (some ⟨w.heap.size,0,none⟩) (sLen+n) c)
  (w.drew.alloc (.cells (old++new++(Builtin.zeroCells z.cells (c - (sLen+n))).toList).toArray e)):=by
 have hn:¬(sLen+n≤sCap):=by omega
 have hbb:sLen+n≤ (sLen+n) * i.bytes:=Nat.le_mul_of_pos_right _ hb1;have h63':¬(9223372036854775807 < ((sLen:Int)+(n:Int))):=by omega
 have h48':¬(281474976710656 < Builtin.nextslicecap (sLen+n) sCap * i.bytes):=by have:=growslice_fits (bytes:=i.bytes) hc (by omega);omega
 refine ⟨grownCap w (sLen+n) sCap e,by simp [grownCap,Question.cut],?_⟩;cases ud <;> simp at hud <;>
 · simp [Builtin.append_,run_underlying ht,run_underlying hu,sizeOf,typeInfo,zeroValue,hi,hz,hlen,hn,h63',h48',Question.forced,hf,ho,newRow,grownCap]
   congr 2
   apply Array.ext'
   simp [List.append_assoc]
end
end
end Go.Ev
namespace Go.Ev
open Go.RowKit
section
variable {P:Program} {E:Kn} {s:S} {ρ:Env}
theorem Pb {e sz bs n:Nat} {new:List AC} {id off len:Nat} {cap:Cap}:UpR s (Dm e sz bs n new id off len cap s):=by
 unfold Dm
 repeat' split
 all_goals first
  | exact UpR.bad
  | exact UpR.store fun _=> UpR.v
  | exact UpR.of (Fj s _) (UpR.new fun _ _=> UpR.v)
  | exact UpR.of (Hx s _ _) (UpR.new fun _ _=> UpR.v)
theorem Lh {e sz bs n:Nat} {new:List AC} {d:AU}:UpR s (Ht e sz bs n new d s):=by
 unfold Ht
 repeat' split
 all_goals first
  | exact UpR.bad
  | (rw [Bz];exact UpR.v)
  | exact UpR.new fun _ _=> UpR.v
  | exact Pb
theorem Ou {ts:List TypeId} {args:List AU}:UpR s (Dk P ts args s):=by
 unfold Dk
 repeat' split
 all_goals first | exact UpR.bad | skip
 rename_i hsrc;exact UpR.of (Dn hsrc) Lh
theorem Qk {w:World} {b:Nat} {cur:List Value} {ty:TypeId} {fr:Nat × Nat} {off:Nat} {vs:List Value} (hb:w.heap[b]? =some (.cells cur.toArray ty fr)) (hf:∀i,i < cur.length→¬(fr.1≤i∧i < fr.2))
 (hl:off+vs.length≤cur.length) (h1:∀x∈vs,x.oneCell'=true):∃w',(storeCells ⟨b,off,none⟩ vs).run P w=.ok () w'∧Turned w w' b∧w'.heap[b]? =some (.cells (spl cur off vs).toArray ty fr):=by
 have:=Dh (P:=P) (b:=b) (off:=off) (ty:=ty) (fr:=fr) vs 0 cur w hb hf (by simpa using hl) h1
 simpa using this
theorem Sw {xs:List AC} {vs:List Value} (h1:xs.all one=true) (hx:Bv ρ xs vs):∀x∈vs,x.oneCell'=true:=by
 intro x hxm;obtain ⟨i,hi⟩:=List.getElem?_of_mem hxm;have hil:i < xs.length:=by rw [hx.length];exact (List.getElem?_eq_some_iff.1 hi).1
 obtain ⟨y,hy,hrel⟩:=All2.get hx i xs[i] (List.getElem?_eq_getElem hil);rw [hi] at hy;cases hy;exact Qt (List.all_eq_true.1 h1 _ (List.getElem_mem hil)) hrel
theorem Ro {B0:Nat} {w0:World} {G:Heap} {w w':World} {id b n:Nat} {ob ob':AObj} (h:Rel E B0 w0 ρ G w) (hG:G id=some ob) (hd:ob≠ .dead) (ho:ob.old=false) (hr:ρ id=some (b,n)) (hB:B0≤b)
 (hn:Be (Bg s id .dead) (Ax (Bg s id .dead) ob').1=none) (ha:Agree (Ax (Bg s id .dead) ob').2 s G)
 (hb:Below B0 w w') (hblk:∀k,k < w.heap.size→k≠b→w'.heap[k]? =w.heap[k]?) (hR:∀ρ',ρ.le ρ'→It ρ' n ob' w'.heap[b]?):
 Lift E B0 w0 s (Ax (Bg s id .dead) ob').2 ρ G w (ρ.put (Ax (Bg s id .dead) ob').1 (b,n)) ((G.put id .dead).put (Ax (Bg s id .dead) ob').1 ob') w':=by
 have hne:(Ax (Bg s id .dead) ob').1≠id:=fun e=> by rw [e,Ms] at hn;simp at hn
 have hG':G (Ax (Bg s id .dead) ob').1=none:=by
  rw [←ha _ (by rw [Lj];simp)];rw [Ms,if_neg hne] at hn;exact hn
 have hrn:ρ (Ax (Bg s id .dead) ob').1=none:=by
  cases hx:ρ (Ax (Bg s id .dead) ob').1 with
  | none=> rfl
  | some p=> exact absurd hG' (h.dom _ p hx)
 have hle:=Env.le_put (b,n) hrn;refine ⟨h.hand hG hd ho hr hB hG' hb hblk (hR _ hle),hle,fun i hi=> ?_,fun i hi=> ?_⟩
 · rw [Tx];unfold Heap.put
   by_cases e:i=(Ax (Bg s id .dead) ob').1
   · simp [e]
   · rw [if_neg e,if_neg e,Ms]
     by_cases e2:i=id
     · simp [e2]
     · rw [if_neg e2,if_neg e2];exact ha i hi
 · unfold Heap.put
   by_cases e:i=(Ax (Bg s id .dead) ob').1
   · rw [e,Lj] at hi;exact absurd rfl hi
   · rw [if_neg e]
     by_cases e2:i=id
     · subst e2;obtain ⟨b',hb',h1⟩:=(Fk (Bg s i .dead) ob').lg i true (Di s i .dead);rw [hb',h1 rfl] at hi;exact absurd rfl hi
     · rw [if_neg e2]
end
end Go.Ev
namespace Go.Ev
open Go.RowKit
section
variable {P:Program} {E:Kn} {s:S} {ρ:Env}
section
variable {t u e:TypeId} {ud:TypeDesc} {i:TypeInfo} {z:Value} {ty:TypeId} {vx:Value} {n:Nat} {new:List AC} {vs:List Value} {B0:Nat} {w0:World} {G:Heap} {w:World}
theorem Gv (ht:P.underlying t=some (.slice e)) (hu:P.underlying u=some ud) (hud:Eg ud=true) (hi:P.info? e=some i) (hz:i.zero=some z) (hzs:z.cells.size=i.size) (hby:1≤i.bytes)
 (hlen:∀w2,(Builtin.lenOf vx).run P w2=.ok n w2) (hrel:Bv ρ new vs) (hvl:vs.length=n * i.size)
 (hf:∀w2 k,w2.heap=w.heap→k≤n→(Builtin.firstCells i.size k vx).run P w2=.ok (vs.take (k * i.size)).toArray w2)
 {d:Option Addr} {len cap:Nat} {old:List AC} {olds:List Value} (hR:Rel E B0 w0 ρ G w) (ho:Bv ρ old olds) (hol:olds.length=len * i.size)
 (hof:∀w2,w2.heap=w.heap→(Builtin.firstCells i.size len (.slice d len cap)).run P w2=.ok olds.toArray w2) (hc:cap < len+n) (hb:(len+n) * i.bytes≤1000000000)
 (hn:Be s (Ax s (.row e (old++new) .op)).1=none) (ha:Agree (Ax s (.row e (old++new) .op)).2 s G):
 ∃ρ' G' w' v,(Builtin.append_ #[t,u] ty #[.slice d len cap,vx]).run P w=.ok v w'∧Cq ρ' (.u (.o (.s (Ax s (.row e (old++new) .op)).1 0 (len+n) (.rest i.size)))) v∧Lift E B0 w0 s (Ax s (.row e (old++new) .op)).2 ρ G w ρ' G' w':=by
 have hff:(Builtin.firstCells i.size n vx).run P w.drew=.ok vs.toArray w.drew:=by
  have:=hf w.drew n rfl (Nat.le_refl _)
  rwa [List.take_of_length_le (by omega)] at this
 obtain ⟨c,hge,hrun⟩:=Jw (P:=P) (ty:=ty) ht hu (by cases ud <;> simp [Eg] at hud⊢) hi hlen hz hc hb hby (hof w.drew rfl) hff;have hbl:(w.drew.alloc (.cells (olds++vs++(Builtin.zeroCells z.cells (c - (len+n))).toList).toArray e)).heap[w.heap.size]? =some (.cells (olds++vs++(Builtin.zeroCells z.cells (c - (len+n))).toList).toArray e (0,0)):=by
  have:=heap_alloc_new w.drew (.cells (olds++vs++(Builtin.zeroCells z.cells (c - (len+n))).toList).toArray e);exact this
 have hl:=El (kd:=.op) hR (Below.alloc (Below.drew (Below.refl _ _)) (Nat.le_refl _) (.cells (olds++vs++(Builtin.zeroCells z.cells (c - (len+n))).toList).toArray e)) hn ha (Nat.le_refl _) hbl (fun i _=> by simp) (All2.append ho hrel) (fun e=> by cases e);refine ⟨_,_,_,_,hrun,⟨_,_,c,Ch _ _ _,rfl,?_,hge⟩,hl⟩;dsimp only;simp only [List.length_append,Array.length_toList,size_zeroCells,hzs,hol,hvl];rw [←Nat.add_mul,←Nat.add_mul,Nat.zero_add]
 congr 1
 omega
theorem Pc (ht:P.underlying t=some (.slice e)) (hu:P.underlying u=some ud) (hud:Eg ud=true) (hi:P.info? e=some i) (hz:i.zero=some z) (hzs:z.cells.size=i.size) (hsz:1≤i.size) (hby:1≤i.bytes)
 (hlen:∀w2,(Builtin.lenOf vx).run P w2=.ok n w2) (hrel:Bv ρ new vs) (hvl:vs.length=n * i.size) (h1:new.all one=true)
 (hf:∀w2 k,w2.heap=w.heap→k≤n→(Builtin.firstCells i.size k vx).run P w2=.ok (vs.take (k * i.size)).toArray w2)
 {id off len:Nat} {cap:Cap} {vd:Value} (hd:Hb ρ (.s id off len cap) vd) (hR:Rel E B0 w0 ρ G w) {x:AV} {s':S} (h:Dm e i.size i.bytes n new id off len cap s=.v x s') (ha:Agree s' s G):
 ∃ρ' G' w' v,(Builtin.append_ #[t,u] ty #[vd,vx]).run P w=.ok v w'∧Cq ρ' x v∧Lift E B0 w0 s s' ρ G w ρ' G' w':=by
 obtain ⟨b,N,c,hid,rfl,hcap,hlc⟩:=hd;have hff:(Builtin.firstCells i.size n vx).run P w=.ok vs.toArray w:=by
  have:=hf w n rfl (Nat.le_refl _)
  rwa [List.take_of_length_le (by omega)] at this
 have hnl:=hrel.length
 -- within the block
 have inplace:∀ {ty' cells kd k},Be s id=some (.row ty' cells kd)→len+n≤c→Hb ρ (.s id off (len+n) k) (.slice (some ⟨b,off,none⟩) (len+n) c)→
  Du s id (off+len * i.size) new (fun s=> .a (.s id off (len+n) k) s)=.v x s'→∃ρ' G' w' v,(Builtin.append_ #[t,u] ty #[.slice (some ⟨b,off,none⟩) len c,vx]).run P w=.ok v w'∧Cq ρ' x v∧Lift E B0 w0 s s' ρ G w ρ' G' w':=by
  intro ty' cells kd k hob hc hk hs;obtain ⟨ty2,cells2,kd2,hob2,hro,hro2,hle,hone,e1⟩:=Fl hs;cases e1;have hG:G id=some (.row ty2 cells2 kd2):=by rw [←ha id (by rw [Di];simp)];exact hob2
  obtain ⟨w',h2,h3⟩:=Hz (P:=P) hR hG hid hro hro2 hle hone hrel ha;refine ⟨ρ,_,w',_,Fz (P:=P) ht hu (by cases ud <;> simp [Eg] at hud⊢) hi hlen hc hff (by rw [Bh];exact h2),hk,h3⟩
 unfold Dm at h
 split at h
 · rename_i ty' cells kd hob
   split at h
   · rename_i c';have hcc:c=c':=hcap;subst hcc
     split at h
     · rename_i hb;exact inplace hob (Nat.le_of_ble_eq_true hb) ⟨b,N,c,hid,rfl,rfl,Nat.le_of_ble_eq_true hb⟩ h
     · rename_i hb;have hlt:c < len+n:=by
        rcases Nat.lt_or_ge c (len+n) with h5 | h5
        · exact h5
        · rw [Nat.ble_eq_true_of_le h5] at hb;cases hb
       split at h
       · rename_i hb2
         split at h
         · rename_i old hp;obtain ⟨hn,e1⟩:=Cj h;cases e1;have hlg:(Ax (Bx s id) (.row e (old++new) .op)).2.lg id≠none:=(Fk (Bx s id) _).dom (Gy s id);have hG:G id=some (.row ty' cells kd):=by rw [←ha id hlg];exact hob
           obtain ⟨head,rest,fr,tyb,g1,g2,_⟩:=hR.row hG hid;obtain ⟨olds,g3,g4,_,g5⟩:=Dc hp g2;have ha1:=ha.first (Fk (Bx s id) (.row e (old++new) .op));have hl1:=En hR ha1;have ha2:=hl1.agree2 (Fj s id) ha;obtain ⟨ρ',G',w',v,r1,r2,r3⟩:=Gv (s:=Bx s id) (ty:=ty) (d:=some ⟨b,off,none⟩) (cap:=c) ht hu hud hi hz hzs hby hlen hrel hvl hf hR g3 g4
            (fun w2 hw=> run_firstCells_some (P:=P) w2 i.size len ⟨b,off,none⟩ len c olds g4 fun j v hv=> by
             have g1':w2.heap[b]? =some (.cells (head++rest).toArray tyb fr):=by rw [hw];exact g1
             rw [Bh,Da g1'];exact g5 rest j v hv) hlt (Nat.le_of_ble_eq_true hb2) hn ha2
           exact ⟨ρ',G',w',v,r1,r2,hl1.trans r3 (Fk _ _)⟩
         · cases h
       · cases h
   · rename_i es;have hcap':off+c * es=N:=hcap
     split at h
     · cases h
     · rename_i hes;have e2:=Nat.eq_of_beq_eq_true hes;subst e2
       split at h
       · rename_i hb;have hfit:=Nat.le_of_ble_eq_true hb
         -- the row's cells are there
         have hG:G id=some (.row ty' cells kd):=by
          obtain ⟨ty2,cells2,kd2,hob2,hro,hro2,hle,hone,e1⟩:=Fl h;cases e1;rw [←ha id (by rw [Di];simp)];exact hob
         obtain ⟨head,rest,fr,tyb,g1,g2,g3,_⟩:=hR.row hG hid;have hhl:=g2.length;have hcn:len+n≤c:=by
          have:off+(len+n) * i.size≤off+c * i.size:=by rw [hcap',←g3];simp;omega
          exact Nat.le_of_mul_le_mul_right (by omega:(len+n) * i.size≤c * i.size) hsz
         exact inplace hob hcn ⟨b,N,c,hid,rfl,hcap',hcn⟩ h
       · split at h
         · rename_i hb;simp only [Bool.and_eq_true] at hb;obtain ⟨b1,b2,b3,b4,b5⟩:=hb;have b2:=Nat.eq_of_beq_eq_true b2;have b3:=Nat.eq_of_beq_eq_true b3;have b4:=Nat.eq_of_beq_eq_true b4;have b5:=Nat.le_of_ble_eq_true b5;subst b2;subst b4;have hkd:kd=.op:=by cases kd <;> simp [isOp] at b1⊢
           subst hkd;obtain ⟨hn,e1⟩:=Cj h;cases e1;have hlg:(Ax (Bg s id .dead) (.row ty' (cells++new) .op)).2.lg id≠none:=(Fk (Bg s id .dead) _).dom (by rw [Di];simp);have hG:G id=some (.row ty' cells .op):=by rw [←ha id hlg];exact hob
           obtain ⟨head,rest,fr,tyb,g1,g2,g3,_,g5⟩:=hR.row hG hid;obtain ⟨hty,hB,hfz⟩:=g5 (by simp);subst hty;have hfz:=hfz (by simp);have hhl:=g2.length;simp only [Nat.zero_add] at hcap'
           by_cases hcn:len+n≤c
           · have hrl:vs.length≤rest.length:=by
              have h6:(len+n) * i.size≤c * i.size:=Nat.mul_le_mul_right _ hcn;rw [Nat.add_mul] at h6
              simp at g3
              omega
             obtain ⟨w',r1,r2,r3⟩:=Qk (P:=P) (off:=0+len * i.size) (vs:=vs) g1 (fun j hj=> hfz j (by omega)) (by simp;omega) (Sw h1 hrel);refine ⟨_,_,w',_,Fz (P:=P) ht hu (by cases ud <;> simp [Eg] at hud⊢) hi hlen hcn hff (by rw [Bh];exact r1),⟨b,N,c,Ch _ _ _,rfl,by dsimp only;rw [Nat.zero_add];exact hcap',hcn⟩,
              Ro hR hG (by simp) rfl hid hB hn ha (r2.below hB) (fun k _ hk=> r2.block k hk) fun ρ' hle=> ?_⟩
             have hcur:spl (head++rest) (0+len * i.size) vs=(head++vs)++rest.drop vs.length:=by
              unfold spl;have e5:0+len * i.size=head.length:=by omega
              rw [e5,List.take_left,List.drop_append]
              simp [List.append_assoc]
             rw [hcur] at r3;refine ⟨_,fr,_,r3,fun _=> rfl,fun _ _ j hj=> hfz j ?_,?_,(fun e=> by cases e),rest.drop vs.length,head++vs,rfl,Dy hle (All2.append g2 hrel)⟩
             · simp at hj g3;omega
             · simp at g3⊢;omega
           · -- a new block
             have hl1:Lift E B0 w0 s (Bg s id .dead) ρ G w ρ (G.put id .dead) w:=Ea hR hG (by simp) rfl hid hB (ha.first (Fk _ _)) (Below.refl _ _) (fun _ _ _=> rfl) (fun e=> absurd rfl e);have ha2:=hl1.agree2 (Hx s id .dead) ha;have hol:head.length=len * i.size:=by omega
             obtain ⟨ρ',G',w',v,r1,r2,r3⟩:=Gv (s:=Bg s id .dead) (ty:=ty) (d:=some ⟨b,0,none⟩) (cap:=c) ht hu hud hi hz hzs hby hlen hrel hvl hf hl1.rel g2 hol
              (fun w2 hw=> run_firstCells_some (P:=P) w2 i.size len ⟨b,0,none⟩ len c head hol fun j v hv=> by
               have g1':w2.heap[b]? =some (.cells (head++rest).toArray tyb fr):=by rw [hw];exact g1
               rw [Bh,Da g1',Nat.zero_add,List.getElem?_append_left (List.getElem?_eq_some_iff.1 hv).1];exact hv) (by omega) b5 hn ha2
             exact ⟨ρ',G',w',v,r1,r2,hl1.trans r3 (Fk _ _)⟩
         · cases h
 · cases h
end
theorem Ov {ts:List TypeId} {args:List AU} {vs:List Value} {ty:TypeId} (hr:All2 (Ao ρ) args vs):MV P E s ρ (Dk P ts args s) (Builtin.append_ ts.toArray ty vs.toArray):=by
 unfold Dk
 split
 · rename_i t u d x
   match vs,hr with
   | [vd,vx],⟨hd,hx,_⟩=>
   split
   · rename_i e ud ht hu
     split
     · rename_i i hi
       split
       · rename_i z hz
         split
         · rename_i hb;simp only [Bool.and_eq_true] at hb;obtain ⟨hud,b1,b2,b3⟩:=hb;have b1:=Nat.eq_of_beq_eq_true b1;have b2:=Nat.le_of_ble_eq_true b2;have b3:=Nat.le_of_ble_eq_true b3
           split
           · rename_i n new s1 hsrc;intro y s' h B0 w0 G w hR ha;have hup:=Dn hsrc;have hup2:Up s1 s':=Lh _ _ h;obtain ⟨hl1,hlen,ws,hrel,hwl,hf⟩:=Iw (P:=P) hsrc hx hR (ha.first hup2);have ha2:=hl1.agree2 hup ha;have fin:∀ {ρ' G' w' v},Lift E B0 w0 s1 s' ρ G w ρ' G' w'→(Builtin.append_ #[t,u] ty #[vd,vx]).run P w=.ok v w'→Cq ρ' y v→∃ρ' G' w' v,(Builtin.append_ [t,u].toArray ty [vd,vx].toArray).run P w=.ok v w'∧Cq ρ' y v∧Lift E B0 w0 s s' ρ G w ρ' G' w':=
              fun h3 h4 h5=> ⟨_,_,_,_,h4,h5,hl1.trans h3 hup2⟩
             unfold Ht at h
             split at h
             · cases h
             · rename_i hc;simp only [Bool.and_eq_true] at hc
               split at h
               · have e0:vd=_:=hd;subst e0
                 split at h
                 · rename_i hn;have hn:=Nat.eq_of_beq_eq_true hn;rw [Bz] at h;cases h;refine fin (Lift.refl hR ha2) (Jf (P:=P) ht hu (by cases ud <;> simp [Eg] at hud⊢) hi hlen hn ?_) (Bm ρ (.slice none 0 0));have:=hf w n rfl (Nat.le_refl _);subst hn
                   simpa using this
                 · rename_i hn;have hn0:n≠0:=fun e=> by subst e;cases hn
                   obtain ⟨hnn,e1⟩:=Cj h;cases e1;obtain ⟨ρ',G',w',v,r1,r2,r3⟩:=Gv (s:=s1) (ty:=ty) (d:=none) (cap:=0) (len:=0) (old:= []) (olds:= []) ht hu hud hi hz b1 b3 hlen hrel hwl hf hR trivial (by simp)
                    (fun w2 _=> by simp [Builtin.firstCells]) (by omega) (by simpa using Nat.le_of_ble_eq_true hc.2) hnn ha2
                   simp only [Nat.zero_add] at r2;exact fin r3 r1 r2
               · obtain ⟨ρ',G',w',v,r1,r2,r3⟩:=Pc (ty:=ty) ht hu hud hi hz b1 b2 b3 hlen hrel hwl hc.1 hf hd hR h ha2;exact fin r3 r1 r2
               · cases h
           · exact MV.bad
         · exact MV.bad
       · exact MV.bad
     · exact MV.bad
   · exact MV.bad
 · exact MV.bad
theorem Sc {ts:List TypeId} {args:List AU}:UpR s (Gp P ts args s):=by
 unfold Gp
 repeat' split
 all_goals first | exact UpR.bad | skip
 rename_i hsrc;refine UpR.of (Dn hsrc) ?_;simp only [Bz];exact UpR.store fun _=> UpR.v
theorem Sd {ts:List TypeId} {args:List AU} {vs:List Value} {ty:TypeId} (hr:All2 (Ao ρ) args vs):MV P E s ρ (Gp P ts args s) (Builtin.copy_ ts.toArray ty vs.toArray):=by
 unfold Gp
 split
 · rename_i t ts' d x
   match vs,hr with
   | [vd,vx],⟨hd,hx,_⟩=>
   split
   · rename_i e ht
     split
     · rename_i es id off len cap hes
       split
       · rename_i n new s1 hsrc;intro y s' h B0 w0 G w hR ha;simp only [Bz] at h;obtain ⟨ty2,cells2,kd2,hob2,hro,hro2,hle,hone,e1⟩:=Fl h;cases e1;have hup:=Dn hsrc;have hup2:Up s1 (Bg s1 id (.row ty2 (Dg cells2 off (new.take (Nat.min n len * es))) kd2)):=Hx _ _ _;obtain ⟨hl1,hlen,ws,hrel,hwl,hf⟩:=Iw (P:=P) hsrc hx hR (ha.first hup2);have ha2:=hl1.agree2 hup ha;obtain ⟨b,N,c,hid,rfl,hcap,hlc⟩:=hd;have hG:G id=some (.row ty2 cells2 kd2):=by rw [←ha2 id (by rw [Di];simp)];exact hob2
         obtain ⟨w',h2,h3⟩:=Hz (P:=P) hR hG hid hro hro2 hle hone (All2.take _ hrel) ha2;refine ⟨ρ,_,w',goInt (Nat.min n len:Nat),?_,Bm ρ (goInt (Nat.min n len:Nat)),hl1.trans h3 hup2⟩;have hmin:=hf w (Nat.min n len) rfl (Nat.min_le_left _ _);simp only [Builtin.copy_,Sem.run_bind,run_underlying ht,Result.andThen_ok,hlen,Bf hes,hmin,h2,List.getElem?_toArray,List.getElem?_cons_zero,List.getElem?_cons_succ,Sem.run_pure]
       · exact MV.bad
     · exact MV.bad
   · exact MV.bad
 · exact MV.bad
end
end Go.Ev
namespace Go.Ev
open Go.RowKit
structure KnOk (P:Program) (E:Kn):Prop where
 ext:∀f g vs v,E.ext f=some g→g vs=some v→∀w,(callFunc f vs.toArray).run P w=.ok (.value v) w
 fb:∀f,E.fb f=true→∀ (b:Nat) w,(callFunc f #[.float .f64 b]).run P w=.ok (.value (.int .u64 b)) w
 ff:∀f,E.ff f=true→∀ (n:Int) w,(callFunc f #[.int .u64 n]).run P w=.ok (.value (.float .f64 n.toNat)) w
 same:∀f,E.same f=true→∀ (v:Value) w,(callFunc f #[v]).run P w=.ok (.value v) w
 mkNo:∀f e,E.mkNo f=some e→∀ (n:Nat),n≤1000000000→∀w,∃ (cs:Array Value) (c:Nat),(callFunc f #[.int .i64 n]).run P w=.ok (.value (.slice (some ⟨w.heap.size,0,none⟩) n c)) (w.drew.drew.alloc (.cells cs e))∧n≤c∧cs.size=c
 kn:∀f g vs v,E.kn f=some g→g vs=some v→∀B0 w0 ρ G w,Rel E B0 w0 ρ G w→Calls P f vs.toArray w fun e w'=> e=.returned v∧Below w.heap.size w w'
def MN (P:Program) (E:Kn) (s:S) (ρ:Env) (r:OR) (m:Sem Next):Prop:=
 ∀x s',r=.v x s'→∀B0 w0 G w,Rel E B0 w0 ρ G w→Agree s' s G→∃ρ' G' w' v,(m.run P w=.ok (.value v) w'∨(m.run P w=.ok .skip w'∧v=undef))∧Cq ρ' x v∧Lift E B0 w0 s s' ρ G w ρ' G' w'
section
variable {P:Program} {E:Kn} {s:S} {ρ:Env}
theorem MN.bad {m:Sem Next}:MN P E s ρ .bad m:=fun _ _ h=> by cases h
theorem MN.of {r:OR} {m:Sem Value} (h:MV P E s ρ r m):MN P E s ρ r (do pure (Next.value (←m))):=by
 intro x s' e B0 w0 G w hR ha;obtain ⟨ρ',G',w',v,h1,h2,h3⟩:=h x s' e B0 w0 G w hR ha;exact ⟨ρ',G',w',v,.inl (by simp [h1]),h2,h3⟩
theorem MN.ofU {r:OR} {m:Sem Unit} (h:MU P E s ρ r m):MN P E s ρ r (do m;pure Next.skip):=by
 intro x s' e B0 w0 G w hR ha;obtain ⟨ρ',G',w',h1,rfl,h3⟩:=h x s' e B0 w0 G w hR ha;exact ⟨ρ',G',w',undef,.inr ⟨by simp [h1],rfl⟩,rfl,h3⟩
theorem MN.pure {v:Value} {x:AV} {m:Sem Next} (hm:∀w,m.run P w=.ok (.value v) w) (hx:Cq ρ x v):MN P E s ρ (.v x s) m:=by
 intro y s' e B0 w0 G w h ha;cases e;exact ⟨ρ,G,w,v,.inl (hm w),hx,Lift.refl h ha⟩
theorem MN.cv {v:Value} {m:Sem Next} (hm:∀w,m.run P w=.ok (.value v) w):MN P E s ρ (.cv v s) m:=by
 rw [Bz];exact MN.pure hm (Bm ρ v)
theorem Tq {c:Bool} {ts:List TypeId} {args:List AU} {ty:TypeId}:UpR s (Jd P c ts args ty s):=by
 unfold Jd
 repeat' split
 all_goals try simp only [Bz]
 all_goals first
  | exact UpR.bad
  | exact UpR.v
  | exact UpR.vt
  | (cases c <;> dsimp only [cond] <;> first | exact UpR.bad | exact UpR.v | exact UpR.vt)
theorem Ot {c:Bool} {ts:List TypeId} {args:List AU} {vs:List Value} {ty:TypeId} (hr:All2 (Ao ρ) args vs):
 MV P E s ρ (Jd P c ts args ty s) (if c then Builtin.cap_ ts.toArray ty vs.toArray else Builtin.len_ ts.toArray ty vs.toArray):=by
 unfold Jd
 split
 · rename_i t ts' id off len cap
   match vs,hr with
   | [vx],⟨hx,_⟩=>
   obtain ⟨b,N,c',hid,rfl,hcap,hlc⟩:=hx
   split
   · rename_i e ht;cases c with
     | false=>
      dsimp only [cond];exact MV.cv fun w=> by simp [Builtin.len_,run_underlying ht]
     | true=>
      dsimp only [cond]
      split
      · rename_i k;have e:c'=k:=hcap;subst e;exact MV.cv fun w=> by simp [Builtin.cap_,run_underlying ht]
      · exact MV.bad
   · exact MV.bad
 · rename_i t ts' id len
   match vs,hr with
   | [vx],⟨hx,_⟩=>
   obtain ⟨b,N,c',hid,rfl⟩:=hx
   split
   · rename_i e ht;cases c with
     | false=>
      dsimp only [cond];exact MV.cv fun w=> by simp [Builtin.len_,run_underlying ht]
     | true=> exact MV.bad
   · exact MV.bad
 · rename_i t ts' id off
   match vs,hr with
   | [vx],⟨hx,_⟩=>
   obtain ⟨b,N,hid,rfl⟩:=hx
   split
   · rename_i arr ht
     split
     · rename_i n e ha;cases c <;> exact MV.cv fun w=> by simp [Builtin.len_,Builtin.cap_,run_underlying ht,run_underlying ha]
     · exact MV.bad
   · exact MV.bad
 · rename_i t ts' id
   match vs,hr with
   | [vx],⟨hx,_⟩=>
   obtain ⟨b,N,hid,rfl⟩:=hx
   split
   · rename_i k e ht;cases c with
     | true=> exact MV.bad
     | false=>
      dsimp only [cond]
      split
      · rename_i es clk hob;rw [Bz];refine MV.look fun B0 w0 G w h hG=> ?_
        rw [hob] at hG;obtain ⟨b',n',h1,_,ms,h2,h3⟩:=h.real id _ hG (by simp);rw [hid] at h1;cases h1;refine ⟨goInt (es.length:Nat),?_,Bm ρ (goInt (es.length:Nat))⟩
        simp [Builtin.len_,run_underlying ht,getObj,Sem.run,h2,h3.length]
      · exact MV.bad
   · exact MV.bad
 · rename_i x
   match vs,hr with
   | [vx],⟨hx,_⟩=>
   split
   · rename_i v hc;have e:=Bp hc hx;subst e
     split
     · rename_i v hv;refine MV.cv fun w=> ?_
       have:=Br hv w
       simpa using this
     · exact MV.bad
   · exact MV.bad
 · exact MV.bad
theorem Fm {w:World}:∀ (ns:List Int) (a:Addr) (acc:ByteArray),(∀j z,ns[j]? =some z→w.cell? (a.add j)=some (.int .u8 z))→
 (loadBytes a acc ns.length).run P w=.ok ⟨acc.data++(ns.map fun n=> UInt8.ofNat n.toNat).toArray⟩ w
 | [],a,acc,_=> by simp [loadBytes]
 | x::l,a,acc,h=> by
  have h0:w.cell? a=some (.int .u8 x):=by
   have:=h 0 x rfl
   simpa [Addr.add] using this
  have ih:=Fm l (a.add 1) (acc.push (UInt8.ofNat x.toNat)) (fun j y hy=> by
   have:=h (j+1) y (by simpa using hy);have e:(a.add 1).add j=a.add (j+1):=by
    unfold Addr.add
    by_cases hj:j=0
    · subst hj;simp
    · simp [hj];omega
   rw [e];exact this)
  simp only [List.length_cons,loadBytes,Sem.run_bind,run_load,h0,Result.andThen];show (loadBytes (a.add 1) (acc.push (UInt8.ofNat x.toNat)) l.length).run P w=_;rw [ih]
  congr 1
  apply ByteArray.ext
  simp [ByteArray.push]
theorem Gz {w:World} {pt e:TypeId} {ts:List TypeId} {ty':TypeId} {b k:Nat} (hp:P.underlying pt=some (.pointer e)) (hc:P.cellsOf e=1) (hsh:w.shape? b=some (e,k)) (ns:List Int) (h0:0 < ns.length) (hk:ns.length≤k)
 (h63:ns.length≤9223372036854775807) (hcell:∀j z,ns[j]? =some z→w.cell? ((⟨b,0,none⟩:Addr).add j)=some (.int .u8 z)):
 (Builtin.unsafeString_ (pt::ts).toArray ty' #[.pointer (some ⟨b,0,none⟩),.int .i64 (ns.length:Nat)]).run P w=.ok (.string ⟨(ns.map fun n=> UInt8.ofNat n.toNat).toArray⟩) (w.freeze ⟨b,0,none⟩ ns.length):=by
 have hlb:=Fm (P:=P) (w:=w) ns ⟨b,0,none⟩ .empty hcell;have hlies:=Lib.liesAt_bytes (P:=P) hc (k / P.cellsOf e) ns.length (by rw [hc];simpa using hk);have h63':¬(9223372036854775807:Int) < (ns.length:Int):=by omega
 have hl:ns.length≠0:=by omega
 have hpt:(pt::ts).toArray[0]? =some pt:=by simp
 obtain ⟨m1,m2,hdef⟩:∃m1 m2:String,Builtin.unsafeString_ (pt::ts).toArray ty' #[.pointer (some ⟨b,0,none⟩),.int .i64 (ns.length:Nat)]=
  (do
   let n←asInt (.int .i64 (ns.length:Nat))
   let some pt:=(pt::ts).toArray[0]? | stuck m1
   if n < 0 then runtimePanic (.error m2)
   if n > IntKind.i64.max then unsupported (.unsafePointer "String: a length above the largest int")
   if n=0 then pure (.string .empty)
   else if←variablesAt ⟨b,0,none⟩ (←elemOf pt) n.toNat then do
    let s←loadBytes ⟨b,0,none⟩ .empty n.toNat
    freeze ⟨b,0,none⟩ n.toNat
    pure (.string s)
   else unsupported (.unsafePointer "String: not so many bytes at ptr")) := ⟨"", _, rfl⟩
 rw [hdef];have hmax:IntKind.i64.max=9223372036854775807:=rfl;have hneg:¬(ns.length:Int) < 0:=by omega
 simp [asInt,asIntOf,hmax,h63',hneg,hl,variablesAt,hsh,elemOf,run_underlying hp,hlies,hlb]
theorem Po {w:World} {b n:Nat} {c:Array Value} {ty:TypeId} {fr:Nat × Nat} (h:w.heap[b]? =some (.cells c ty fr)):∃fr',(w.freeze ⟨b,0,none⟩ n).heap[b]? =some (.cells c ty fr'):=by
 unfold World.freeze
 split
 · exact ⟨_,h⟩
 · obtain ⟨lo,hi⟩:=fr;simp only [Array.getElem?_modify,h];exact ⟨_,by simp;rfl⟩
theorem Ru {ts:List TypeId} {args:List AU}:UpR s (Gi P ts args s):=by
 unfold Gi
 repeat' split
 all_goals first
  | exact UpR.bad
  | (cases (Nat.beq _ 0 && _) <;> dsimp only [cond] <;> first
   | exact UpR.bad
   | (rw [Bz];intro x s' e;cases e;exact Hx _ _ _))
theorem Rv {ts:List TypeId} {args:List AU} {vs:List Value} {ty:TypeId} (hr:All2 (Ao ρ) args vs):MV P E s ρ (Gi P ts args s) (Builtin.unsafeString_ ts.toArray ty vs.toArray):=by
 unfold Gi
 split
 · rename_i pt ts' id off n
   match vs,hr with
   | [va,vn],⟨ha,hn,_⟩=>
   have e:vn=_:=hn;subst e
   split
   · rename_i e hp
     split
     · rename_i ty' cells kd hob
       split
       · exact MV.bad
       · rename_i hk;cases hc:(Nat.beq off 0 && (Nat.beq ty' e && (Nat.beq (P.cellsOf e) 1 && (Nat.blt 0 n && Nat.ble n 9223372036854775807)))) with
         | false=> exact MV.bad
         | true=>
          simp only [Bool.and_eq_true] at hc;obtain ⟨c1,c2,c3,c4,c5⟩:=hc;have c1:=Nat.eq_of_beq_eq_true c1;have c2:=Nat.eq_of_beq_eq_true c2;have c3:=Nat.eq_of_beq_eq_true c3;have c4:0 < n:=Nat.le_of_ble_eq_true c4;have c5:=Nat.le_of_ble_eq_true c5;subst c1;subst c2;dsimp only [cond]
          split
          · rename_i r hpr
            split
            · rename_i bs hbs;rw [Bz];intro x s' e B0 w0 G w h hag;cases e;obtain ⟨b,m,hb,rfl⟩:=ha;have hG:G id=some (.row ty' cells kd):=by rw [←hag id (by rw [Di];simp)];exact hob
              obtain ⟨head,rest,fr,tyb,h1,h2,h3,h4,h5⟩:=h.row hG hb;obtain ⟨hty,hB,_⟩:=h5 hk;subst hty;obtain ⟨vs,g1,g2,_,g4⟩:=Dc hpr h2;obtain ⟨ns,rfl,rfl⟩:=Gt hbs g1;simp only [List.length_map] at g2;subst g2;have hsh:w.shape? b=some (tyb,(head++rest).length):=by simp [World.shape?,h1]
              have hlen:ns.length≤ (head++rest).length:=by
               rcases Nat.lt_or_ge (head++rest).length ns.length with hlt | hge
               · have:=g4 rest (head++rest).length (Value.int .u8 ns[(head++rest).length]) (by simp [hlt]);rw [Nat.zero_add,List.getElem?_eq_none (Nat.le_refl _)] at this;cases this
               · exact hge
              have hrun:=Gz (P:=P) (w:=w) (ts:=ts') (ty':=ty) hp c3 hsh ns c4 hlen c5 (fun j z hj=> by
               rw [Bh,Da h1];exact g4 rest j _ (by simp [hj]))
              obtain ⟨fr',hfz⟩:=Po (n:=ns.length) h1;obtain ⟨f1,f2,f3,f4,f5⟩:=Hj (w:=w) (b:=b) (k:=0) (m:=ns.length);refine ⟨ρ,_,_,_,hrun,Bm ρ (.string _),Ea (ob':=.row tyb cells .fz) h hG (by simp) (by cases kd <;> first | rfl | exact absurd rfl hk) hb hB hag ⟨f3,f4,f5,by rw [f2];exact Nat.le_refl _,fun k hk=> f1 k (by omega)⟩ (fun k _ hk=> f1 k hk) fun _=> ?_⟩;exact ⟨head++rest,fr',_,hfz,fun _=> rfl,fun _ e=> absurd rfl e,h3,(fun e=> by cases e),rest,head,rfl,h2⟩
            · exact MV.bad
          · exact MV.bad
     · exact MV.bad
   · exact MV.bad
 · exact MV.bad
theorem Pq {args:List AU}:UpR s (Er args s):=by
 unfold Er
 split
 · rename_i id off len cap;cases Nat.blt 0 len with
   | true=> exact UpR.v
   | false=>
    dsimp only [cond]
    split
    · rename_i c;cases Nat.blt 0 c <;> first | exact UpR.bad | exact UpR.v
    · exact UpR.bad
 · exact UpR.bad
theorem Pr {ts:Array TypeId} {args:List AU} {vs:List Value} {ty:TypeId} (hr:All2 (Ao ρ) args vs):MV P E s ρ (Er args s) (Builtin.unsafeSliceData_ ts ty vs.toArray):=by
 unfold Er
 split
 · rename_i id off len cap
   match vs,hr with
   | [va],⟨⟨b,m,c,hb,e,hcap,hl⟩,_⟩=>
   subst e;have fin:c≠0→MV P E s ρ (.a (.p id off) s) (Builtin.unsafeSliceData_ ts ty [Value.slice (some ⟨b,off,none⟩) len c].toArray):=fun hc=>
    MV.pure (v:=.pointer (some ⟨b,off,none⟩)) (fun w=> Lib.run_unsafeSliceData_row w ts ty _ _ _ hc) ⟨b,m,hb,rfl⟩
   cases h0:Nat.blt 0 len with
   | true=> exact fin (by have:0 < len:=Nat.le_of_ble_eq_true h0;omega)
   | false=>
    dsimp only [cond]
    split
    · rename_i k;have e:c=k:=hcap;subst e;cases h1:Nat.blt 0 c with
      | true=> exact fin (by have:0 < c:=Nat.le_of_ble_eq_true h1;omega)
      | false=> exact MV.bad
    · exact MV.bad
 · exact MV.bad
theorem Hd {a:AC} {r:Option Nat} {x:Value} (h:He a=some r) (hr:Hb ρ a x):
 ∃b,x=.float .f64 b∧(∀k,r=some k→b=k)∧(r=none→(FloatKind.f64.format.read b).isNaN=true∧b < 18446744073709551616):=by
 unfold He at h
 split at h
 · cases h;obtain ⟨b,rfl,h1⟩:=hr;exact ⟨b,rfl,fun k e=> (by cases e),fun _=> h1⟩
 · cases h;have e:x=_:=hr;subst e;exact ⟨_,rfl,fun k e=> by cases e;rfl,fun e=> by cases e⟩
 · cases h
theorem Kb {r:Option Nat} {b:Nat} (h1:∀k,r=some k→b=k) (h2:r=none→(FloatKind.f64.format.read b).isNaN=true∧b < 18446744073709551616) {m:Sem Next} (hm:∀w,m.run P w=.ok (.value (.float .f64 b)) w):
 MN P E s ρ (Gh r s) m:=by
 unfold Gh;cases r with
 | none=> exact MN.pure hm ⟨b,rfl,h2 rfl⟩
 | some k=> exact MN.pure hm (by show _=_;rw [h1 k rfl])
theorem Rl {r:Option Nat}:UpR s (Gh r s):=by
 unfold Gh;cases r <;> exact UpR.v
theorem Ni {b:Builtin} {ts:List TypeId} {cs:List Bool} {args:List AU} {ty:TypeId}:UpR s (Cn P b ts cs args ty s):=by
 unfold Cn
 repeat' split
 all_goals first
  | exact UpR.bad
  | exact Ou
  | exact Sc
  | exact Tq
  | exact Ru
  | exact Pq
  | exact Rl
  | (simp only [Bz];exact UpR.v)
  | exact UpR.v
theorem Nj {b:Builtin} {ts:List TypeId} {cs:List Bool} {args:List AU} {vs:List Value} {ty:TypeId} (hr:All2 (Ao ρ) args vs):
 MN P E s ρ (Cn P b ts cs args ty s) (builtin b ts.toArray ty cs.toArray vs.toArray):=by
 unfold Cn
 split
 · exact MN.of (Ov hr)
 · exact MN.of (Sd hr)
 · exact MN.of (Ot (c:=false) hr)
 · exact MN.of (Ot (c:=true) hr)
 · split
   · rename_i vs' hc;have e:=Cw hc hr;subst e
     split
     · rename_i v hv;exact MN.cv fun w=> Br hv w
     · exact MN.bad
   · split
     · exact MN.of (Rv hr)
     · exact MN.of (Pr hr)
     · split
       · rename_i a c
         match vs,hr with
         | [va,vc],⟨h1,h2,_⟩=>
         split
         · rename_i x y hx hy;obtain ⟨p,rfl,p1,p2⟩:=Hd hx h1;obtain ⟨q,rfl,q1,q2⟩:=Hd hy h2;exact MN.pure (v:=.complex .f64 p q) (fun w=> rfl) ⟨p,q,rfl,p1,p2,q1,q2⟩
         · exact MN.bad
       · exact MN.bad
     · split
       · rename_i x y
         match vs,hr with
         | [va],⟨⟨p,q,e,p1,p2,q1,q2⟩,_⟩=>
         subst e;exact Kb p1 p2 fun w=> rfl
       · exact MN.bad
     · split
       · rename_i x y
         match vs,hr with
         | [va],⟨⟨p,q,e,p1,p2,q1,q2⟩,_⟩=>
         subst e;exact Kb q1 q2 fun w=> rfl
       · exact MN.bad
     · exact MN.bad
theorem Qc {f:FuncId} {args:List AU}:UpR s (Cy P E f args s):=by
 unfold Cy
 repeat' split
 all_goals first
  | exact UpR.bad
  | (simp only [Bz];exact UpR.v)
  | (cases E.fb f <;> dsimp only [cond] <;> first | exact UpR.bad | exact UpR.v)
  | (cases E.ff f <;> dsimp only [cond] <;> first | exact UpR.bad | exact UpR.v)
  | exact UpR.v
  | (cases Nat.ble _ 1000000000 <;> dsimp only [cond] <;> first | exact UpR.bad | exact UpR.new fun _ _=> UpR.v)
  | (rename_i fn _; cases (fn.body.isSome && !(fn.name == "runtime.NumGoroutine")) <;> dsimp only [cond] <;> (intro _ _ h; cases h))
theorem Qd (hE:KnOk P E) {f:FuncId} {args:List AU} {vs:List Value} (hr:All2 (Ao ρ) args vs):MN P E s ρ (Cy P E f args s) (callFunc f vs.toArray):=by
 unfold Cy
 split
 · rename_i g hg
   split
   · rename_i vs' hc;have e:=Cw hc hr;subst e
     split
     · rename_i v hv;exact MN.cv fun w=> hE.ext f g vs v hg hv w
     · exact MN.bad
   · split
     · match vs,hr with
       | [vx],⟨⟨b,e,h1,h2⟩,_⟩=>
       subst e;cases hb:E.fb f with
       | false=> exact MN.bad
       | true=> exact MN.pure (v:=.int .u64 b) (fun w=> hE.fb f hb b w) ⟨b,rfl,h1,h2⟩
     · match vs,hr with
       | [vx],⟨⟨b,e,h1,h2⟩,_⟩=>
       subst e;cases hb:E.ff f with
       | false=> exact MN.bad
       | true=> exact MN.pure (v:=.float .f64 b) (fun w=> hE.ff f hb b w) ⟨b,rfl,h1,h2⟩
     · match vs,hr with
       | [vx],⟨⟨n,e⟩,_⟩=>
       subst e;cases hb:E.ff f with
       | false=> exact MN.bad
       | true=> exact MN.pure (v:=.float .f64 n.toNat) (fun w=> hE.ff f hb n w) ⟨_,rfl⟩
     · exact MN.bad
 · split
   · rename_i e hm
     split
     · rename_i n
       match vs,hr with
       | [vx],⟨e1,_⟩=>
       have e1:vx=_:=e1;subst e1;cases hn:Nat.ble n 1000000000 with
       | false=> exact MN.bad
       | true=>
        intro x s' e2 B0 w0 G w h ha;obtain ⟨hnn,e3⟩:=Cj e2;cases e3;obtain ⟨cs,c,h1,h2,h3⟩:=hE.mkNo f e hm n (Nat.le_of_ble_eq_true hn) w;have hb:(w.drew.drew.alloc (.cells cs e)).heap[w.heap.size]? =some (.cells ([]++cs.toList).toArray e (0,0)):=by simpa using heap_alloc_new w.drew.drew (.cells cs e)
        have hl:=El (cur:= []) (rest:=cs.toList) (kd:=.op) h (Below.alloc (Below.drew (Below.drew (Below.refl _ _))) (Nat.le_refl _) (.cells cs e)) hnn ha (Nat.le_refl _) hb (fun i _=> by simp) trivial (fun e=> by cases e);refine ⟨_,_,_,_,.inl h1,⟨_,_,c,Ch _ _ _,rfl,?_,h2⟩,hl⟩
        simp [h3]
     · exact MN.bad
   · split
     · rename_i hs
       split
       · match vs,hr with
         | [vx],⟨h1,_⟩=> exact MN.pure (fun w=> hE.same f hs vx w) h1
       · exact MN.bad
     · split
       · rename_i fn hf;cases (fn.body.isSome && !(fn.name == "runtime.NumGoroutine")) <;> (intro _ _ h; cases h)
       · exact MN.bad
theorem Hr {f f':FuncId} {args args':List AU} (h:Cy P E f args s=.call f' args') (vs:List Value):
 f'=f∧args'=args∧∀w,(callFunc f vs.toArray).run P w=.ok (.enter f vs.toArray) w:=by
 unfold Cy at h
 split at h
 · split at h
   · split at h
     · rw [Bz] at h;cases h
     · cases h
   · split at h
     · cases hb:E.fb f <;> simp [hb] at h <;> cases h
     · cases hb:E.ff f <;> simp [hb] at h <;> cases h
     · cases hb:E.ff f <;> simp [hb] at h <;> cases h
     · cases h
 · split at h
   · split at h
     · cases hb:Nat.ble _ 1000000000 with
       | false=> rw [hb] at h;cases h
       | true=> rw [hb] at h;exact absurd (Kd h) (fun e=> by cases e)
     · cases h
   · split at h
     · split at h <;> cases h
     · split at h
       · rename_i fn hf;cases hb : (fn.body.isSome && !(fn.name == "runtime.NumGoroutine")) with
         | false=> rw [hb] at h;cases h
         | true=>
          rw [hb] at h;cases h;refine ⟨rfl,rfl,fun w=> ?_⟩;simp only [Bool.and_eq_true,Bool.not_eq_true'] at hb;have h2:fn.body.isNone=false:=by cases hbd:fn.body <;> simp_all
          simp only [callFunc,Sem.run_bind,run_program,Result.andThen_ok,hf,hb.2,h2,Bool.false_eq_true,if_false,Sem.run_pure]
       · cases h
theorem Jz:∀ {l:List AU} {r:List (Nat × Nat)} {vs:List Value},Ri l=some r→All2 (Ao ρ) l vs→All2 (fun (q:Nat × Nat) v=> ∃b n,ρ q.1=some (b,n)∧v=Value.pointer (some ⟨b,q.2,none⟩)) r vs
 | [],r, [],h,_=> by simp [Ri] at h;subst h;trivial
 | [],_,_::_,_,h=> h.elim
 | _::_,_, [],_,h=> h.elim
 | a::l,r,v::vs,h,hr=> by
  unfold Ri at h
  split at h
  · cases ‹_::_= []›
  · rename_i id off l' heq;cases heq
    split at h
    · rename_i r' hr';cases h;exact ⟨hr.1,Jz hr' hr.2⟩
    · cases h
  · cases h
theorem Ie:∀ {r:List (Nat × Nat)} {vs:List Value},All2 (fun (q:Nat × Nat) v=> ∃b n,ρ q.1=some (b,n)∧v=Value.pointer (some ⟨b,q.2,none⟩)) r vs→All2 (Ao ρ) (r.map fun x=> .o (.p x.1 x.2)) vs
 | [], [],_=> trivial
 | [],_::_,h=> h.elim
 | _::_, [],h=> h.elim
 | q::r,v::vs,h=> ⟨h.1,Ie h.2⟩
theorem Ft:∀ (l:List Value),All2 (Ao ρ) (l.map Gw) l
 | []=> trivial
 | v::l=> ⟨Bm ρ v,Ft l⟩
theorem Hp {tm:T AV} {a:Act}:∀ {l:List Operand} {us:List AU},(∀x∈l,∀u,evU E tm x=some u→Ao ρ u (a.eval x))→evL E tm l=some us→All2 (Ao ρ) us (l.map a.eval)
 | [],us,_,he=> by simp [evL] at he;subst he;trivial
 | x::l,us,ht,he=> by
  unfold evL at he
  split at he
  · rename_i y hy
    split at he
    · rename_i ys hys;cases he;exact ⟨ht x (by simp) _ hy,Hp (fun z hz=> ht z (by simp [hz])) hys⟩
    · cases he
  · cases he
theorem Hq {tm:T AV} {c:Call} {ty:TypeId} {a:Act} (ht:∀x∈c.operands,∀u,evU E tm x=some u→Ao ρ u (a.eval x)):
 (Ik P E tm c ty s=.bad)∨
 (∃b vs args,(∀w,(do let d←resolve a.eval c ty;invoke d.target d.args:Sem Next).run P w=(builtin b c.argTypes.toList.toArray ty (c.args.toList.map fun x=> match x with | .const _=> true | _=> false).toArray (List.toArray vs)).run P w)∧All2 (Ao ρ) args vs∧
  Ik P E tm c ty s=Cn P b c.argTypes.toList (c.args.toList.map fun x=> match x with | .const _=> true | _=> false) args ty s)∨
 (∃f vs args,(∀w,(do let d←resolve a.eval c ty;invoke d.target d.args:Sem Next).run P w=(callFunc f (List.toArray vs)).run P w)∧All2 (Ao ρ) args vs∧Ik P E tm c ty s=Cy P E f args s):=by
 unfold Ik;cases hl:evL E tm c.args.toList with
 | none=> exact .inl rfl
 | some args=>
  have hargs:=Hp (fun x hx=> ht x (by simp [Call.operands];simp at hx;exact .inr hx)) hl;dsimp only;cases hc:c.callee with
  | builtin b=>
   refine .inr (.inl ⟨b,c.args.toList.map a.eval,args,fun w=> ?_,hargs,rfl⟩);simp only [resolve,hc,Sem.run_bind,Sem.run_pure,Result.andThen_ok,invoke]
   congr 2
   all_goals first | rfl | (apply Array.ext';simp;done) | (apply Array.ext';simp;intro a _;cases a <;> rfl)
  | invoke r m=> exact .inl rfl
  | value x=>
   dsimp only
   split
   · rename_i f first captured hx;have hv:a.eval x=.func (.func f) first captured:=ht x (by simp [Call.operands,hc]) _ hx;refine .inr (.inr ⟨f,first.toList++(c.args.toList.map a.eval++captured.toList),_,fun w=> ?_,All2.append (Ft _) (All2.append hargs (Ft _)),rfl⟩);simp only [resolve,hc,hv,Deferred.ofValue,Sem.run_bind,Sem.run_pure,Result.andThen_ok,invoke]
     congr 2
     first | rfl | (apply Array.ext';simp)
   · rename_i f first caps hx;obtain ⟨us,vs,hv,h1,h2⟩:=ht x (by simp [Call.operands,hc]) _ hx;refine .inr (.inr ⟨f,us++(c.args.toList.map a.eval++vs),_,fun w=> ?_,All2.append (Ie h1) (All2.append hargs (Ie h2)),rfl⟩);simp only [resolve,hc,hv,Deferred.ofValue,Sem.run_bind,Sem.run_pure,Result.andThen_ok,invoke]
     congr 2
     first | rfl | (apply Array.ext';simp)
   · exact .inl rfl
theorem Bs {s:S} {ob:AObj} {k:Nat→S→OR} {f:FuncId} {args:List AU} (h:∀n s',k n s'≠ .call f args):Ci s ob k≠ .call f args:=fun e=> h _ _ (Kd e)
theorem Dt {s:S} {id off:Nat} {xs:List AC} {k:S→OR} {f:FuncId} {args:List AU} (h:∀s',k s'≠ .call f args):Du s id off xs k≠ .call f args:=by
 unfold Du
 repeat' split
 all_goals first | (intro e;cases e;done) | skip
 cases (Nat.ble _ _ && _) <;> dsimp only [cond] <;> first | exact h _ | (intro e;cases e)
theorem Bi {v:Value} {s:S} {f:FuncId} {args:List AU}:OR.cv v s≠ .call f args:=by rw [Bz];intro e;cases e
theorem Jk {e sz bs n:Nat} {new:List AC} {id off len:Nat} {cap:Cap} {f:FuncId} {args:List AU}:Dm e sz bs n new id off len cap s≠ .call f args:=by
 unfold Dm
 repeat' split
 all_goals first
  | (intro e;cases e;done)
  | exact Dt fun _ e=> by cases e
  | exact Bs fun _ _ e=> by cases e
theorem Jj {ts:List TypeId} {args args':List AU} {f:FuncId}:Dk P ts args s≠ .call f args':=by
 unfold Dk Ht
 repeat' split
 all_goals first
  | (intro e;cases e;done)
  | exact Bi
  | exact Bs fun _ _ e=> by cases e
  | exact Jk
theorem Ls {ts:List TypeId} {args args':List AU} {f:FuncId}:Gp P ts args s≠ .call f args':=by
 unfold Gp
 repeat' split
 all_goals first
  | (intro e;cases e;done)
  | exact Dt fun _=> Bi
theorem Nf {c:Bool} {ts:List TypeId} {args args':List AU} {ty:TypeId} {f:FuncId}:Jd P c ts args ty s≠ .call f args':=by
 unfold Jd
 repeat' split
 all_goals first
  | (intro e;cases e;done)
  | exact Bi
  | (cases c <;> dsimp only [cond] <;> first | exact Bi | (intro e;cases e))
theorem Lp {ts:List TypeId} {args args':List AU} {f:FuncId}:Gi P ts args s≠ .call f args':=by
 unfold Gi
 repeat' split
 all_goals first
  | (intro e;cases e;done)
  | (cases (Nat.beq _ 0 && _) <;> dsimp only [cond] <;> first
   | (intro e;cases e;done)
   | exact Bi)
theorem Ki {args args':List AU} {f:FuncId}:Er args s≠ .call f args':=by
 unfold Er
 split
 · rename_i id off len cap;cases Nat.blt 0 len with
   | true=> intro e;cases e
   | false=>
    dsimp only [cond]
    split
    · rename_i c;cases Nat.blt 0 c <;> (intro e;cases e)
    · intro e;cases e
 · intro e;cases e
theorem Il {b:Builtin} {ts:List TypeId} {cs:List Bool} {args args':List AU} {ty:TypeId} {f:FuncId}:Cn P b ts cs args ty s≠ .call f args':=by
 unfold Cn Gh
 repeat' split
 all_goals first
  | (intro e;cases e;done)
  | exact Bi
  | exact Jj
  | exact Ls
  | exact Nf
  | exact Lp
  | exact Ki
end
end Go.Ev
namespace Go.Ev
open Go.RowKit
section
variable {P:Program} {E:Kn} {s:S} {ρ:Env}
theorem Uj {tm:T AV} {o:Oper}:UpR s (Nb P E tm o s):=by
 unfold Nb;cases o.op <;> dsimp only [Bb,Am,Az,Aw,Bj,Av,Ab,Bc,Ap,Ag,Bk,Cf,Ak,Aa,Ah,Ai,Ad,Aq,Af,Au,Ae,As,Al,Ac,Ar,Ba,Aj] <;> (repeat' split) <;> first
  | exact UpR.bad
  | exact UpR.v
  | exact UpR.new fun _ _=> UpR.v
  | exact Qe
  | exact Jh
  | exact Mg
  | exact Ps
  | exact Ts
  | (rw [Bz];exact UpR.v)
  | exact Ng
  | exact Ko
  | exact Pu
  | exact Ku
  | exact Qa
  | exact Kr
  | exact Py
  | exact Oo
  | exact Km
  | exact Pw
  | exact Rz
  | skip
 unfold Ik
 repeat' split
 all_goals first
  | exact UpR.bad
  | exact Ni
  | exact Qc
structure OpRel (E:Kn) (ρ:Env) (tm:T AV) (a:Act) (o:Oper):Prop where
 u:∀x∈o.op.operands,∀u,evU E tm x=some u→Ao ρ u (a.eval x)
 v:∀t,Operand.tmp t∈o.op.operands→∀v,tm.get t=some v→Cq ρ v (a.eval (.tmp t))
theorem Ew {tm:T AV} {a:Act}:∀ {l:List (Nat × Operand)} {us:List (Nat × AU)},(∀q∈l,∀u,evU E tm q.2=some u→Ao ρ u (a.eval q.2))→Fv E tm l=some us→
 All2 (fun (p:Nat × AU) (v:Nat × Value)=> p.1=v.1∧Ao ρ p.2 v.2) us (l.map fun q=> (q.1,a.eval q.2))
 | [],us,_,he=> by simp [Fv] at he;subst he;trivial
 | (i,x)::l,us,ht,he=> by
  unfold Fv at he
  split at he
  · rename_i y hy
    split at he
    · rename_i ys hys;cases he;exact ⟨⟨rfl,ht (i,x) (by simp) _ hy⟩,Ew (fun z hz=> ht z (by simp [hz])) hys⟩
    · cases he
  · cases he
theorem evO?_rel {tm:T AV} {a:Act} {x:Option Operand} {u:Option AU} (ht:∀y,x=some y→∀u,evU E tm y=some u→Ao ρ u (a.eval y)) (he:evO? E tm x=some u):Nx ρ u (x.map a.eval):=by
 unfold evO? at he;cases x with
 | none=> simp at he;subst he;trivial
 | some x=>
  dsimp only at he
  split at he
  · rename_i y hy;cases he;exact ht _ rfl _ hy
  · cases he
theorem MN.pureU {v:Value} {u:AU} {m:Sem Next} (hm:∀w,m.run P w=.ok (.value v) w) (hx:Ao ρ u v):MN P E s ρ (.v (.u u) s) m:=MN.pure hm hx
set_option maxHeartbeats 1000000 in
theorem Uk (hE:KnOk P E) {B0:Nat} {w0:World} {G:Heap} {w:World} {tm:T AV} {a:Act} {o:Oper} (hR:Rel E B0 w0 ρ G w) (ht:OpRel E ρ tm a o) {x:AV} {s':S}
 (h:Nb P E tm o s=.v x s') (ha:Agree s' s G):
 ∃ρ' G' w' v,((execOp a.eval o).run P w=.ok (.value v) w'∨((execOp a.eval o).run P w=.ok .skip w'∧v=undef))∧Cq ρ' x v∧Lift E B0 w0 s s' ρ G w ρ' G' w':=by
 have key:∀ {r:OR} {m:Sem Next},MN P E s ρ r m→r=.v x s'→execOp a.eval o=m→∃ρ' G' w' v,((execOp a.eval o).run P w=.ok (.value v) w'∨((execOp a.eval o).run P w=.ok .skip w'∧v=undef))∧Cq ρ' x v∧Lift E B0 w0 s s' ρ G w ρ' G' w':=
  fun hm e1 e2=> by rw [e2];exact hm x s' e1 B0 w0 G w hR ha
 have U:∀ {y:Operand} {u:AU},y∈o.op.operands→evU E tm y=some u→Ao ρ u (a.eval y):=fun hm hy=> ht.u _ hm _ hy
 unfold Nb at h;cases hop:o.op with
 | move y=>
  rw [hop] at h;dsimp only [Bb,Am,Az,Aw,Bj,Av,Ab,Bc,Ap,Ag,Bk,Cf,Ak,Aa,Ah,Ai,Ad,Aq,Af,Au,Ae,As,Al,Ac,Ar,Ba,Aj] at h;have e2:execOp a.eval o=pure (Next.value (a.eval y)):=by unfold execOp;rw [hop]
  split at h
  · rename_i u hu;exact key (MN.pureU (fun w=> rfl) (U (by simp [hop,Op.operands]) hu)) h e2
  · split at h
    · rename_i t _
      split at h
      · rename_i v hv;exact key (MN.pure (fun w=> rfl) (ht.v t (by simp [hop,Op.operands]) _ hv)) h e2
      · cases h
    · cases h
 | assign y=>
  rw [hop] at h;dsimp only [Bb,Am,Az,Aw,Bj,Av,Ab,Bc,Ap,Ag,Bk,Cf,Ak,Aa,Ah,Ai,Ad,Aq,Af,Au,Ae,As,Al,Ac,Ar,Ba,Aj] at h;have e2:execOp a.eval o=pure (Next.value (a.eval y)):=by unfold execOp;rw [hop]
  split at h
  · rename_i u hu;exact key (MN.pureU (fun w=> rfl) (U (by simp [hop,Op.operands]) hu)) h e2
  · cases h
 | pick c y z=>
  rw [hop] at h;dsimp only [Bb,Am,Az,Aw,Bj,Av,Ab,Bc,Ap,Ag,Bk,Cf,Ak,Aa,Ah,Ai,Ad,Aq,Af,Au,Ae,As,Al,Ac,Ar,Ba,Aj] at h
  split at h
  · rename_i hc;have e:a.eval c=.bool true:=U (by simp [hop,Op.operands]) hc
    split at h
    · rename_i u hu;refine key (MN.pureU (m:=execOp a.eval o) (v:=a.eval y) (fun w=> ?_) (U (by simp [hop,Op.operands]) hu)) h rfl;unfold execOp;rw [hop];simp [e,asBool]
    · cases h
  · rename_i hc;have e:a.eval c=.bool false:=U (by simp [hop,Op.operands]) hc
    split at h
    · rename_i u hu;refine key (MN.pureU (m:=execOp a.eval o) (v:=a.eval z) (fun w=> ?_) (U (by simp [hop,Op.operands]) hu)) h rfl;unfold execOp;rw [hop];simp [e,asBool]
    · cases h
  · cases h
 | alloc t=>
  rw [hop] at h;dsimp only [Bb,Am,Az,Aw,Bj,Av,Ab,Bc,Ap,Ag,Bk,Cf,Ak,Aa,Ah,Ai,Ad,Aq,Af,Au,Ae,As,Al,Ac,Ar,Ba,Aj] at h
  split at h
  · rename_i z hz;exact key (MN.of (Qg hz)) h (by unfold execOp;rw [hop])
  · cases h
 | box t y=>
  rw [hop] at h;dsimp only [Bb,Am,Az,Aw,Bj,Av,Ab,Bc,Ap,Ag,Bk,Cf,Ak,Aa,Ah,Ai,Ad,Aq,Af,Au,Ae,As,Al,Ac,Ar,Ba,Aj] at h
  split at h
  · rename_i u hu
    split at h
    · rename_i xs hxs;exact key (MN.of (Tr hxs (U (by simp [hop,Op.operands]) hu))) h (by unfold execOp;rw [hop])
    · cases h
  · cases h
 | build t ps=>
  rw [hop] at h;dsimp only [Bb,Am,Az,Aw,Bj,Av,Ab,Bc,Ap,Ag,Bk,Cf,Ak,Aa,Ah,Ai,Ad,Aq,Af,Au,Ae,As,Al,Ac,Ar,Ba,Aj] at h
  split at h
  · rename_i l hl;refine key (MN.of (Qf (Ew (fun q hq=> ht.u _ (by simp only [hop,Op.operands];simp;exact ⟨q.1,by simpa using hq⟩)) hl))) h ?_;unfold execOp;rw [hop];have e:(ps.map fun (q:Nat × Operand)=> (q.1,a.eval q.2))=(ps.toList.map fun q=> (q.1,a.eval q.2)).toArray:=by apply Array.ext';simp
    rw [←e]
  · cases h
 | buildSlice t n ps=>
  rw [hop] at h;dsimp only [Bb,Am,Az,Aw,Bj,Av,Ab,Bc,Ap,Ag,Bk,Cf,Ak,Aa,Ah,Ai,Ad,Aq,Af,Au,Ae,As,Al,Ac,Ar,Ba,Aj] at h
  split at h
  · rename_i l hl;refine key (MN.of (Ji (Ew (fun q hq=> ht.u _ (by simp only [hop,Op.operands];simp;exact ⟨q.1,by simpa using hq⟩)) hl))) h ?_;unfold execOp;rw [hop];have e:(ps.map fun (q:Nat × Operand)=> (q.1,a.eval q.2))=(ps.toList.map fun q=> (q.1,a.eval q.2)).toArray:=by apply Array.ext';simp
    rw [←e]
  · cases h
 | insert t m k v=>
  rw [hop] at h;dsimp only [Bb,Am,Az,Aw,Bj,Av,Ab,Bc,Ap,Ag,Bk,Cf,Ak,Aa,Ah,Ai,Ad,Aq,Af,Au,Ae,As,Al,Ac,Ar,Ba,Aj] at h
  split at h
  · rename_i u1 u2 u3 h1 h2 h3;exact key (MN.ofU (Fr (U (by simp [hop,Op.operands]) h1) (U (by simp [hop,Op.operands]) h2) (U (by simp [hop,Op.operands]) h3))) h (by unfold execOp;rw [hop])
  · cases h
 | load t y=>
  rw [hop] at h;dsimp only [Bb,Am,Az,Aw,Bj,Av,Ab,Bc,Ap,Ag,Bk,Cf,Ak,Aa,Ah,Ai,Ad,Aq,Af,Au,Ae,As,Al,Ac,Ar,Ba,Aj] at h
  split at h
  · rename_i u hu;exact key (MN.of (Sb (U (by simp [hop,Op.operands]) hu))) h (by unfold execOp;rw [hop])
  · cases h
 | store t y z=>
  rw [hop] at h;dsimp only [Bb,Am,Az,Aw,Bj,Av,Ab,Bc,Ap,Ag,Bk,Cf,Ak,Aa,Ah,Ai,Ad,Aq,Af,Au,Ae,As,Al,Ac,Ar,Ba,Aj] at h
  split at h
  · rename_i u1 u2 h1 h2;exact key (MN.ofU (Pt (U (by simp [hop,Op.operands]) h1) (U (by simp [hop,Op.operands]) h2))) h (by unfold execOp;rw [hop])
  · cases h
 | ready g=> rw [hop] at h;cases h
 | waits g=> rw [hop] at h;cases h
 | nilCheck y=>
  rw [hop] at h;dsimp only [Bb,Am,Az,Aw,Bj,Av,Ab,Bc,Ap,Ag,Bk,Cf,Ak,Aa,Ah,Ai,Ad,Aq,Af,Au,Ae,As,Al,Ac,Ar,Ba,Aj] at h
  split at h
  · rename_i id off hu;obtain ⟨b,n,hb,e⟩:=U (by simp [hop,Op.operands]) hu;refine key (MN.pureU (m:=execOp a.eval o) (v:=a.eval y) (fun w=> ?_) (U (by simp [hop,Op.operands]) hu)) h rfl;unfold execOp;rw [hop];dsimp only;rw [e];rfl
  · rename_i fn first caps hu;obtain ⟨us,vs,e,_⟩:=U (by simp [hop,Op.operands]) hu
    split at h
    · refine key (MN.pureU (m:=execOp a.eval o) (v:=a.eval y) (fun w=> ?_) (U (by simp [hop,Op.operands]) hu)) h rfl;unfold execOp;rw [hop];dsimp only;rw [e];rfl
    · cases h
  · rename_i id off len cap hu;obtain ⟨b,n,c,hb,e,_⟩:=U (by simp [hop,Op.operands]) hu;refine key (MN.pureU (m:=execOp a.eval o) (v:=a.eval y) (fun w=> ?_) (U (by simp [hop,Op.operands]) hu)) h rfl;unfold execOp;rw [hop];dsimp only;rw [e];rfl
  · rename_i id len hu;obtain ⟨b,n,c,hb,e⟩:=U (by simp [hop,Op.operands]) hu;refine key (MN.pureU (m:=execOp a.eval o) (v:=a.eval y) (fun w=> ?_) (U (by simp [hop,Op.operands]) hu)) h rfl;unfold execOp;rw [hop];dsimp only;rw [e];rfl
  · rename_i id k hu;obtain ⟨b,n,hb,e⟩:=U (by simp [hop,Op.operands]) hu;refine key (MN.pureU (m:=execOp a.eval o) (v:=a.eval y) (fun w=> ?_) (U (by simp [hop,Op.operands]) hu)) h rfl;unfold execOp;rw [hop];dsimp only;rw [e];rfl
  · rename_i f p q hu;have e:a.eval y=_:=U (by simp [hop,Op.operands]) hu;refine key (MN.pureU (m:=execOp a.eval o) (v:=a.eval y) (fun w=> ?_) (U (by simp [hop,Op.operands]) hu)) h rfl;unfold execOp;rw [hop];dsimp only;rw [e];rfl
  · cases h
 | binOp op t y z yt=>
  rw [hop] at h;dsimp only [Bb,Am,Az,Aw,Bj,Av,Ab,Bc,Ap,Ag,Bk,Cf,Ak,Aa,Ah,Ai,Ad,Aq,Af,Au,Ae,As,Al,Ac,Ar,Ba,Aj] at h
  split at h
  · rename_i u1 u2 h1 h2;exact key (MN.of (Tt (U (by simp [hop,Op.operands]) h1) (U (by simp [hop,Op.operands]) h2))) h (by unfold execOp;rw [hop])
  · cases h
 | unOp op t y=>
  rw [hop] at h;dsimp only [Bb,Am,Az,Aw,Bj,Av,Ab,Bc,Ap,Ag,Bk,Cf,Ak,Aa,Ah,Ai,Ad,Aq,Af,Au,Ae,As,Al,Ac,Ar,Ba,Aj] at h
  split at h
  · rename_i u hu
    split at h
    · rename_i v hc;have e:=Bp hc (U (by simp [hop,Op.operands]) hu)
      split at h
      · rename_i v' hv;exact key (MN.of (m:=Op.unary op (a.eval y)) (MV.cv fun w=> by rw [e];exact Br hv w)) h (by unfold execOp;rw [hop])
      · cases h
    · cases h
  · cases h
 | convert src dst y=>
  rw [hop] at h;dsimp only [Bb,Am,Az,Aw,Bj,Av,Ab,Bc,Ap,Ag,Bk,Cf,Ak,Aa,Ah,Ai,Ad,Aq,Af,Au,Ae,As,Al,Ac,Ar,Ba,Aj] at h
  split at h
  · rename_i u hu;exact key (MN.of (Nh (U (by simp [hop,Op.operands]) hu))) h (by unfold execOp;rw [hop])
  · cases h
 | sliceToArrayPointer t y=> rw [hop] at h;cases h
 | makeInterface t y=>
  rw [hop] at h;dsimp only [Bb,Am,Az,Aw,Bj,Av,Ab,Bc,Ap,Ag,Bk,Cf,Ak,Aa,Ah,Ai,Ad,Aq,Af,Au,Ae,As,Al,Ac,Ar,Ba,Aj] at h;have e2:execOp a.eval o=(do pure (Next.value (←Instr.makeInterface t (a.eval y))):Sem Next):=by unfold execOp;rw [hop]
  split at h
  · cases h
  · cases h
  · rename_i d hd hu;have hrun:∀w,(Instr.makeInterface t (a.eval y)).run P w=.ok (.iface t (a.eval y)) w:=fun w=> by
     unfold Instr.makeInterface;simp only [Sem.run_bind,run_underlying hu,Result.andThen_ok];cases d <;> first | rfl | exact absurd rfl (hd _)
    split at h
    · rename_i id off hy;obtain ⟨b,n,hb,e⟩:=U (by simp [hop,Op.operands]) hy;exact key (MN.of (MV.pure (x:=.u (.o (.i t id off))) hrun ⟨b,n,hb,by rw [e]⟩)) h e2
    · rename_i z _ hy
      split at h
      · rename_i v hc;have e:=Bp hc (U (by simp [hop,Op.operands]) hy);exact key (MN.of (MV.pure hrun (by show _=_;rw [e]))) h e2
      · cases h
    · cases h
 | makeFunc fn first captured=>
  rw [hop] at h;dsimp only [Bb,Am,Az,Aw,Bj,Av,Ab,Bc,Ap,Ag,Bk,Cf,Ak,Aa,Ah,Ai,Ad,Aq,Af,Au,Ae,As,Al,Ac,Ar,Ba,Aj] at h;have e2:execOp a.eval o=(do pure (Next.value (←Instr.makeFunc fn (first.map a.eval) (captured.map a.eval))):Sem Next):=by unfold execOp;rw [hop]
  have hrun:∀w,(Instr.makeFunc fn (first.map a.eval) (captured.map a.eval)).run P w=.ok (.func fn (first.map a.eval) (captured.map a.eval)) w:=fun w=> rfl
  split at h
  · rename_i l m hl hm;have g1:=Hp (fun y hy=> ht.u _ (by simp only [hop,Op.operands];simp;simp at hy;exact .inl hy)) hl;have g2:=Hp (fun y hy=> ht.u _ (by simp only [hop,Op.operands];simp;simp at hy;exact .inr hy)) hm;have e3:(first.map a.eval)=(first.toList.map a.eval).toArray:=by apply Array.ext';simp
    have e4:(captured.map a.eval)=(captured.toList.map a.eval).toArray:=by apply Array.ext';simp
    split at h
    · rename_i vs us hv hu;have f1:=Cw hv g1;have f2:=Cw hu g2;refine key (MN.of (MV.pure hrun ?_)) h e2;show _=_;rw [e3,e4,f1,f2]
    · split at h
      · rename_i fs cs hf hc;refine key (MN.of (MV.pure hrun ?_)) h e2;exact ⟨_,_,by rw [e3,e4],Jz hf g1,Jz hc g2⟩
      · cases h
  · cases h
 | makeMap t r=>
  rw [hop] at h;dsimp only [Bb,Am,Az,Aw,Bj,Av,Ab,Bc,Ap,Ag,Bk,Cf,Ak,Aa,Ah,Ai,Ad,Aq,Af,Au,Ae,As,Al,Ac,Ar,Ba,Aj] at h;have mk:∀rv,(∀w,(Instr.makeMap t rv).run P w=.ok (.map (some w.heap.size)) (w.alloc (.map #[] 0)))→MV P E s ρ (Ci s (.mp [] 0) fun id s=> .a (.m id) s) (Instr.makeMap t rv):=by
   intro rv hrun y s1 e B1 w1 G1 w2 h1 ha1;obtain ⟨hn,e1⟩:=Cj e;cases e1;exact ⟨_,_,_,_,hrun w2,⟨_,_,Ch _ _ _,rfl⟩,Sy (o:=.map #[] 0) h1 hn ha1 (fun ρ'=> ⟨[],rfl,trivial⟩)⟩
  cases r with
  | none=>
   refine key (MN.of (mk none fun w=> ?_)) h (by unfold execOp;rw [hop];rfl)
   simp [Instr.makeMap]
  | some y=>
   dsimp only at h
   split at h
   · rename_i n kt et hn hu;cases hy:evU E tm y with
     | none=> rw [hy] at hn;cases hn
     | some u=>
      rw [hy] at hn;obtain ⟨k,e⟩:=Dd hn (U (by simp [hop,Op.operands]) hy);refine key (MN.of (mk (some (a.eval y)) fun w=> ?_)) h (by unfold execOp;rw [hop];rfl);rw [e]
      simp [Instr.makeMap,run_underlying hu,asInt,asIntOf]
   · cases h
 | makeChan t y=> rw [hop] at h;cases h
 | makeSlice t l c=>
  rw [hop] at h;dsimp only [Bb,Am,Az,Aw,Bj,Av,Ab,Bc,Ap,Ag,Bk,Cf,Ak,Aa,Ah,Ai,Ad,Aq,Af,Au,Ae,As,Al,Ac,Ar,Ba,Aj] at h
  split at h
  · rename_i u1 u2 h1 h2;exact key (MN.of (Kp (U (by simp [hop,Op.operands]) h1) (U (by simp [hop,Op.operands]) h2))) h (by unfold execOp;rw [hop])
  · cases h
 | slice t y lo hi mx=>
  rw [hop] at h;dsimp only [Bb,Am,Az,Aw,Bj,Av,Ab,Bc,Ap,Ag,Bk,Cf,Ak,Aa,Ah,Ai,Ad,Aq,Af,Au,Ae,As,Al,Ac,Ar,Ba,Aj] at h
  split at h
  · rename_i u l hh m h1 h2 h3 h4;exact key (MN.of (Pv (U (by simp [hop,Op.operands]) h1) (evO?_rel (fun y e=> ht.u _ (by simp [hop,Op.operands,e])) h2) (evO?_rel (fun y e=> ht.u _ (by simp [hop,Op.operands,e])) h3) (evO?_rel (fun y e=> ht.u _ (by simp [hop,Op.operands,e])) h4))) h (by unfold execOp;rw [hop])
  · cases h
 | fieldAddr t y i=>
  rw [hop] at h;dsimp only [Bb,Am,Az,Aw,Bj,Av,Ab,Bc,Ap,Ag,Bk,Cf,Ak,Aa,Ah,Ai,Ad,Aq,Af,Au,Ae,As,Al,Ac,Ar,Ba,Aj] at h
  split at h
  · rename_i u hu;exact key (MN.of (Kv (U (by simp [hop,Op.operands]) hu))) h (by unfold execOp;rw [hop])
  · cases h
 | field t y i=>
  rw [hop] at h;dsimp only [Bb,Am,Az,Aw,Bj,Av,Ab,Bc,Ap,Ag,Bk,Cf,Ak,Aa,Ah,Ai,Ad,Aq,Af,Au,Ae,As,Al,Ac,Ar,Ba,Aj] at h
  split at h
  · rename_i u hu;exact key (MN.of (Qb (U (by simp [hop,Op.operands]) hu))) h (by unfold execOp;rw [hop])
  · cases h
 | indexAddr t y i=>
  rw [hop] at h;dsimp only [Bb,Am,Az,Aw,Bj,Av,Ab,Bc,Ap,Ag,Bk,Cf,Ak,Aa,Ah,Ai,Ad,Aq,Af,Au,Ae,As,Al,Ac,Ar,Ba,Aj] at h
  split at h
  · rename_i u1 u2 h1 h2;exact key (MN.of (Ks (U (by simp [hop,Op.operands]) h1) (U (by simp [hop,Op.operands]) h2))) h (by unfold execOp;rw [hop])
  · cases h
 | index t y i=>
  rw [hop] at h;dsimp only [Bb,Am,Az,Aw,Bj,Av,Ab,Bc,Ap,Ag,Bk,Cf,Ak,Aa,Ah,Ai,Ad,Aq,Af,Au,Ae,As,Al,Ac,Ar,Ba,Aj] at h
  split at h
  · rename_i u1 u2 h1 h2;exact key (MN.of (Pz (U (by simp [hop,Op.operands]) h1) (U (by simp [hop,Op.operands]) h2))) h (by unfold execOp;rw [hop])
  · cases h
 | lookup t y i c=>
  rw [hop] at h;dsimp only [Bb,Am,Az,Aw,Bj,Av,Ab,Bc,Ap,Ag,Bk,Cf,Ak,Aa,Ah,Ai,Ad,Aq,Af,Au,Ae,As,Al,Ac,Ar,Ba,Aj] at h
  split at h
  · rename_i u1 u2 h1 h2;exact key (MN.of (Oq (U (by simp [hop,Op.operands]) h1) (U (by simp [hop,Op.operands]) h2))) h (by unfold execOp;rw [hop])
  · cases h
 | mapUpdate t m k v=>
  rw [hop] at h;dsimp only [Bb,Am,Az,Aw,Bj,Av,Ab,Bc,Ap,Ag,Bk,Cf,Ak,Aa,Ah,Ai,Ad,Aq,Af,Au,Ae,As,Al,Ac,Ar,Ba,Aj] at h
  split at h
  · rename_i u1 u2 u3 h1 h2 h3;exact key (MN.ofU (Fr (U (by simp [hop,Op.operands]) h1) (U (by simp [hop,Op.operands]) h2) (U (by simp [hop,Op.operands]) h3))) h (by unfold execOp;rw [hop])
  · cases h
 | mapEntry t m k=> rw [hop] at h;cases h
 | entryStore t m k v=> rw [hop] at h;cases h
 | range t y=>
  rw [hop] at h;dsimp only [Bb,Am,Az,Aw,Bj,Av,Ab,Bc,Ap,Ag,Bk,Cf,Ak,Aa,Ah,Ai,Ad,Aq,Af,Au,Ae,As,Al,Ac,Ar,Ba,Aj] at h
  split at h
  · rename_i u hu;exact key (MN.of (Px (U (by simp [hop,Op.operands]) hu))) h (by unfold execOp;rw [hop])
  · cases h
 | next y b=>
  rw [hop] at h;dsimp only [Bb,Am,Az,Aw,Bj,Av,Ab,Bc,Ap,Ag,Bk,Cf,Ak,Aa,Ah,Ai,Ad,Aq,Af,Au,Ae,As,Al,Ac,Ar,Ba,Aj] at h
  split at h
  · rename_i u hu;exact key (MN.of (Sa (t:=o.type) (U (by simp [hop,Op.operands]) hu))) h (by unfold execOp;rw [hop])
  · cases h
 | entry y=> rw [hop] at h;cases h
 | typeAssert y t u c=> rw [hop] at h;cases h
 | extract y i=>
  rw [hop] at h;dsimp only [Bb,Am,Az,Aw,Bj,Av,Ab,Bc,Ap,Ag,Bk,Cf,Ak,Aa,Ah,Ai,Ad,Aq,Af,Au,Ae,As,Al,Ac,Ar,Ba,Aj] at h
  split at h
  · rename_i t
    split at h
    · rename_i l hl
      split at h
      · rename_i u hu;obtain ⟨vs,this,h2⟩:=ht.v t (by simp [hop,Op.operands]) _ hl;obtain ⟨v,h3,h4⟩:=All2.get h2 i u hu;refine key (MN.of (m:=Instr.extract (a.eval (.tmp t)) i) (MV.pure (x:=.u u) (v:=v) (fun w=> ?_) h4)) h (by unfold execOp;rw [hop]);rw [this]
        simp [Instr.extract,h3]
      · cases h
    · cases h
  · cases h
 | call c=>
  rw [hop] at h;dsimp only [Bb,Am,Az,Aw,Bj,Av,Ab,Bc,Ap,Ag,Bk,Cf,Ak,Aa,Ah,Ai,Ad,Aq,Af,Au,Ae,As,Al,Ac,Ar,Ba,Aj] at h;have e2:execOp a.eval o=(do let d←resolve a.eval c o.type;invoke d.target d.args):=by unfold execOp;rw [hop]
  rcases Hq (s:=s) (c:=c) (ty:=o.type) (fun x hx=> ht.u x (by simp only [hop,Op.operands];exact hx)) (P:=P) with hb | ⟨b,vs,args,h1,h2,h3⟩ | ⟨f,vs,args,h1,h2,h3⟩
  · rw [hb] at h;cases h
  · rw [h3] at h;obtain ⟨ρ',G',w',v,g1,g2,g3⟩:=Nj h2 x s' h B0 w0 G w hR ha;refine ⟨ρ',G',w',v,?_,g2,g3⟩;rw [e2,h1];exact g1
  · rw [h3] at h;obtain ⟨ρ',G',w',v,g1,g2,g3⟩:=Qd hE h2 x s' h B0 w0 G w hR ha;refine ⟨ρ',G',w',v,?_,g2,g3⟩;rw [e2,h1];exact g1
 | go c=> rw [hop] at h;cases h
 | defer c=> rw [hop] at h;cases h
 | panic y=> rw [hop] at h;cases h
 | send y z=> rw [hop] at h;cases h
 | recv t y c=> rw [hop] at h;cases h
 | select cs b=> rw [hop] at h;cases h
theorem Hh {op:BinOp} {b:Bool} {f:FuncId} {args:List AU}:Ff op b s≠ .call f args:=by
 unfold Ff;cases op <;> first | exact Bi | (intro e;cases e)
theorem Lw {op:BinOp} {f:FuncId} {args:List AU}:Fb op s≠ .call f args:=by
 unfold Fb;cases op <;> first | exact Bi | (intro e;cases e)
theorem Fy {x:AU} {a b:Bool} {f:FuncId} {args:List AU} {s:S}:Ga x a b s≠ .call f args:=by
 rw [De];intro e;cases e
theorem Bd {b:Bool} {x y:OR} {f:FuncId} {args:List AU} (h1:x≠ .call f args) (h2:y≠ .call f args):(bif b then x else y)≠ .call f args:=by cases b <;> assumption
theorem Lu {op:BinOp} {t:TypeId} {x y:Operand} {a b:AU} {f:FuncId} {args:List AU}:Gq P op t x y a b s≠ .call f args:=by
 unfold Gq
 repeat' split
 all_goals first
  | (intro e;cases e;done)
  | exact Bi
  | exact Lw
  | exact Hh
  | exact Bd Hh (fun e=> by cases e)
  | exact Bd (fun e=> by cases e) (fun e=> by cases e)
theorem Nk {op:BinOp} {t:TypeId} {x y:Operand} {a b:AU} {f:FuncId} {args:List AU}:Kx P op t x y a b s≠ .call f args:=by
 unfold Kx
 split
 · exact Bi
 · exact Lu
theorem Ij {src dst:TypeId} {a:AU} {f:FuncId} {args:List AU}:Cv P src dst a s≠ .call f args:=by
 unfold Cv Ih
 repeat' split
 all_goals first
  | (intro e;cases e;done)
  | exact Bi
  | exact Bd (fun e=> by cases e) (fun e=> by cases e)
  | exact Bs fun _ _ e=> by cases e
theorem Kw {t:TypeId} {ps:List (Nat × AU)} {f:FuncId} {args:List AU}:Ez P t ps s≠ .call f args:=by
 unfold Ez;repeat' split
 all_goals (intro e;cases e)
theorem Fx {t:TypeId} {n:Nat} {ps:List (Nat × AU)} {f:FuncId} {args:List AU}:Bu P t n ps s≠ .call f args:=by
 unfold Bu;repeat' split
 all_goals first
  | (intro e;cases e;done)
  | exact Bd (Bs fun _ _ e=> by cases e) (fun e=> by cases e)
  | exact Bd (fun e=> by cases e) (fun e=> by cases e)
theorem Lr {t:TypeId} {a:AU} {f:FuncId} {args:List AU}:Dv P t a s≠ .call f args:=by
 unfold Dv Ho;repeat' split
 all_goals (intro e;cases e)
theorem Kj {t:TypeId} {a x:AU} {f:FuncId} {args:List AU}:Es P t a x s≠ .call f args:=by
 unfold Es;repeat' split
 all_goals first
  | (intro e;cases e;done)
  | exact Bd (Dt fun _ e=> by cases e) (fun e=> by cases e)
theorem Kk {t:TypeId} {x:AU} {lo hi mx:Option AU} {f:FuncId} {args:List AU}:Et P t x lo hi mx s≠ .call f args:=by
 unfold Et;repeat' split
 all_goals first
  | (intro e;cases e;done)
  | exact Bi
  | exact Bd (fun e=> by cases e) (fun e=> by cases e)
  | exact Bd (fun e=> by cases e) (Bd (fun e=> by cases e) (fun e=> by cases e))
theorem Gn {t:TypeId} {x:AU} {i:Nat} {f:FuncId} {args:List AU}:Cd P t x i s≠ .call f args:=by
 unfold Cd;repeat' split
 all_goals (intro e;cases e)
theorem Kt {t:TypeId} {x:AU} {i:Nat} {f:FuncId} {args:List AU}:Ey P t x i s≠ .call f args:=by
 unfold Ey;repeat' split
 all_goals (intro e;cases e)
theorem Gm {t:TypeId} {x ix:AU} {f:FuncId} {args:List AU}:Cc P t x ix s≠ .call f args:=by
 unfold Cc;repeat' split
 all_goals first
  | (intro e;cases e;done)
  | exact Bd (fun e=> by cases e) (fun e=> by cases e)
theorem Kq {t:TypeId} {x ix:AU} {f:FuncId} {args:List AU}:Ex P t x ix s≠ .call f args:=by
 unfold Ex;repeat' split
 all_goals first
  | (intro e;cases e;done)
  | exact Bi
  | exact Bd (fun e=> by cases e) (fun e=> by cases e)
theorem Ii {t:TypeId} {x k:AU} {c:Bool} {f:FuncId} {args:List AU}:Cu P t x k c s≠ .call f args:=by
 unfold Cu;repeat' split
 all_goals first
  | (intro e;cases e;done)
  | exact Fy
theorem Jg {t:TypeId} {x k:AU} {c:Bool} {f:FuncId} {args:List AU}:Dj P t x k c s≠ .call f args:=by
 unfold Dj;repeat' split
 all_goals first
  | exact Ii
  | (intro e;cases e;done)
  | exact Bd Fy (fun e=> by cases e)
  | exact Bd (fun e=> by cases e) (fun e=> by cases e)
theorem Gk {t:TypeId} {x k v:AU} {f:FuncId} {args:List AU}:Ca P t x k v s≠ .call f args:=by
 unfold Ca;repeat' split
 all_goals first
  | (intro e;cases e;done)
  | exact Bd (fun e=> by cases e) (fun e=> by cases e)
theorem Kl {t:TypeId} {x:AU} {f:FuncId} {args:List AU}:Eu P t x s≠ .call f args:=by
 unfold Eu;repeat' split
 all_goals first
  | (intro e;cases e;done)
  | exact Bs fun _ _ e=> by cases e
theorem Lq {x:AU} {b:Bool} {f:FuncId} {args:List AU}:Gj x b s≠ .call f args:=by
 unfold Gj;repeat' split
 all_goals first
  | (intro e;cases e;done)
  | (refine Bd ?_ (fun e=> by cases e);simp only [Ct];intro e;cases e)
theorem Gl {t:TypeId} {x y:AU} {f:FuncId} {args:List AU}:Cb P t x y s≠ .call f args:=by
 unfold Cb;repeat' split
 all_goals first
  | (intro e;cases e;done)
  | exact Bd (Bs fun _ _ e=> by cases e) (fun e=> by cases e)
theorem On {tm:T AV} {o:Oper} {f:FuncId} {args:List AU} (h:∀c,o.op≠ .call c):Nb P E tm o s≠ .call f args:=by
 unfold Nb;cases hop:o.op <;> dsimp only [Bb,Am,Az,Aw,Bj,Av,Ab,Bc,Ap,Ag,Bk,Cf,Ak,Aa,Ah,Ai,Ad,Aq,Af,Au,Ae,As,Al,Ac,Ar,Ba,Aj] <;> (try exact absurd hop (h _)) <;> (repeat' split) <;> first
  | (intro e;cases e;done)
  | exact Bi
  | exact Bs fun _ _ e=> by cases e
  | exact Kw
  | exact Fx
  | exact Lr
  | exact Kj
  | exact Nk
  | exact Ij
  | exact Gl
  | exact Kk
  | exact Gn
  | exact Kt
  | exact Gm
  | exact Kq
  | exact Jg
  | exact Gk
  | exact Kl
  | exact Lq
theorem Ry {B0:Nat} {w0:World} {G:Heap} {w:World} {tm:T AV} {a:Act} {o:Oper} (hR:Rel E B0 w0 ρ G w) (ht:OpRel E ρ tm a o) {f:FuncId} {args:List AU}
 (h:Nb P E tm o s=.call f args):∃vs:List Value,(∀w,(execOp a.eval o).run P w=.ok (.enter f vs.toArray) w)∧All2 (Ao ρ) args vs:=by
 by_cases hc:∃c,o.op=.call c
 · obtain ⟨c,hop⟩:=hc;have e2:execOp a.eval o=(do let d←resolve a.eval c o.type;invoke d.target d.args):=by unfold execOp;rw [hop]
   unfold Nb at h;rw [hop] at h;dsimp only [Bb,Am,Az,Aw,Bj,Av,Ab,Bc,Ap,Ag,Bk,Cf,Ak,Aa,Ah,Ai,Ad,Aq,Af,Au,Ae,As,Al,Ac,Ar,Ba,Aj] at h;rcases Hq (s:=s) (c:=c) (ty:=o.type) (fun x hx=> ht.u x (by simp only [hop,Op.operands];exact hx)) (P:=P) with hb | ⟨b,vs,args',h1,h2,h3⟩ | ⟨f',vs,args',h1,h2,h3⟩
   · rw [hb] at h;cases h
   · rw [h3] at h;exact absurd h Il
   · rw [h3] at h;obtain ⟨rfl,rfl,h4⟩:=Hr h vs;exact ⟨vs,fun w=> by rw [e2,h1];exact h4 w,h2⟩
 · exact absurd h (On fun c e=> hc ⟨c,e⟩)
end
end Go.Ev
